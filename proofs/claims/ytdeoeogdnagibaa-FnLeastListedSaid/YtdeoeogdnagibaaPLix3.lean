-- Written for this claim by a program of this session (myprint.py) over the kit's printer.
import Derived.Test.YtdeoeogdnagibaaPLix0
import Derived.Test.YtdeoeogdnagibaaPLix1
import Derived.Test.YtdeoeogdnagibaaPLix2
namespace Go.Proofs.Ytdeoeogdnagibaa.PLi
noncomputable section
open Go.RowKit Go.Proofs.YtdeoeogdnagibaaW.PrintWords Go.Proofs.YtdeoeogdnagibaaW.PrintLast Go.Proofs.YtdeoeogdnagibaaW.PrintMore
attribute [local go_sem] max2_int min2_int max_two min_two max_three min_three max_four min_four   -- for this text's walks alone
open List (setIfInBounds_toArray set_cons_zero set_cons_succ)
set_option maxHeartbeats 8000000
set_option maxRecDepth 100000
set_option linter.unusedVariables false
set_option linter.unusedSimpArgs false
theorem pRq3 {α : Type} {d : Kd α} {e base : Nat} {ok : Nat → Prop} {v : Value} {xs : List α} {w W : World} (h0 : Aside0 (Kd.R d e w base ok v xs)) (hp : Kd.R d e W base ok v xs := by (with_reducible repeat (first | apply Kd.R_alloc | apply Kd.R_drewN | apply Kd.R_drew)); exact Aside0.out (by with_reducible assumption)) : Kd.R d e W base ok v xs := hp
theorem pKq3 {g : Nat} {o : Obj} {w W : World} (h0 : Aside0 (w.heap[g]? = some o)) (hp : W.heap[g]? = some o := by (with_reducible repeat (first | refine blk_drewN ?_ _ | refine blk_drew ?_ | refine blk_alloc ?_ _)); exact Aside0.out (by with_reducible assumption)) : W.heap[g]? = some o := hp
theorem pBq3 {b : Nat} {w0 w W : World} (h0 : Aside0 (Below b w0 w)) (hp : Below b w0 W := by repeat (first | (with_reducible first | exact Aside0.out (by assumption) | apply below_alloc | apply pw_below_drewN | apply below_drew1 | refine below_set ?_ (Aside0.out (by assumption))))) : Below b w0 W := hp
/-! ### spec_alCounter_count: function 35 -/
open Classical in
noncomputable def spec_alCounter_count.ev {α : Type} (g : Nat → Option α) : Option α := if h : ∃ k r, g k = some r then g h.choose else none
theorem spec_alCounter_count.ev_some {α : Type} {g : Nat → Option α} {r : α} (h : spec_alCounter_count.ev g = some r) : ∃ k, g k = some r := by
 unfold spec_alCounter_count.ev at h
 split at h
 ·exact ⟨_, h⟩
 ·cases h
def spec_alCounter_count.good (l : List Int) : Prop := l.Nodup ∧ ∀ x ∈ l, 0 ≤ x ∧ x < (l.length : Int)
/-- Different orders have different ranks. -/
def spec_alCounter_count.inj : Prop := ∀ (q q' : List Int) (k k' : Nat) (a : Int), spec_alCounter_count.good q → spec_alCounter_count.good q' → q.length ≤ 8 → q.length = q'.length → spec_alRank.f k q = some a → spec_alRank.f k' q' = some a → q = q'
def spec_alCounter_count.lp (g : List Int → Option Int) (l : List Int) : Nat → Nat → Int → Bool → Option (Int × Bool)
 | 0, _, s, b => some (s, b)
 | m + 1, i, s, b => if rd l (i : Int) > rd l ((i : Int) + 1) then (spec_alSwap.f l (i : Int)).bind fun q => (g q).bind fun v => spec_alCounter_count.lp g l m (i + 1) (wrap64 (s + v)) false else spec_alCounter_count.lp g l m (i + 1) s b
open Classical in
/-- How many least ladders there are, the falls taken one by one. -/
noncomputable def spec_alCounter_count.g (N n : Nat) : Nat → List Int → Option Int
 | 0, _ => none
 | d + 1, l => if spec_alCounter_count.inj ∧ spec_alCounter_count.good l ∧ l.length = n ∧ n ≤ 8 then (spec_alCounter_count.ev fun k => spec_alRank.f k l).bind fun a => (if 0 ≤ a ∧ a < (N : Int) then (spec_alCounter_count.lp (spec_alCounter_count.g N n d) l (l.length - 1) 0 0 true).bind fun sb => some (if sb.2 = true then 1 else sb.1) else none) else none
theorem spec_alCounter_count.lp_mono {g g' : List Int → Option Int} (h : ∀ q v, g q = some v → g' q = some v) (l : List Int) : ∀ (m i : Nat) (s : Int) (b : Bool) (r : Int × Bool), spec_alCounter_count.lp g l m i s b = some r → spec_alCounter_count.lp g' l m i s b = some r
 | 0, _, _, _, _, e => e
 | m + 1, i, s, b, r, e => by
  simp only [spec_alCounter_count.lp] at e ⊢
  split at e
  ·rename_i hc
   rw [if_pos hc]
   obtain ⟨q, hq, e⟩ := Option.bind_eq_some_iff.1 e
   obtain ⟨v, hv, e⟩ := Option.bind_eq_some_iff.1 e
   rw [hq]
   simp only [Option.bind_some]
   rw [h q v hv]
   exact spec_alCounter_count.lp_mono h l m _ _ _ r e
  ·rename_i hc
   rw [if_neg hc]
   exact spec_alCounter_count.lp_mono h l m _ _ _ r e
theorem spec_alCounter_count.g_succ (N n : Nat) : ∀ (d : Nat) (l : List Int) (v : Int), spec_alCounter_count.g N n d l = some v → spec_alCounter_count.g N n (d + 1) l = some v
 | 0, _, _, e => by simp [spec_alCounter_count.g] at e
 | d + 1, l, v, e => by
  rw [spec_alCounter_count.g] at e ⊢
  split at e
  ·rename_i hc
   rw [if_pos hc]
   obtain ⟨a, ha, e⟩ := Option.bind_eq_some_iff.1 e
   rw [ha]
   simp only [Option.bind_some]
   split at e
   ·rename_i h0
    rw [if_pos h0]
    obtain ⟨sb, hsb, e⟩ := Option.bind_eq_some_iff.1 e
    rw [spec_alCounter_count.lp_mono (fun q v => spec_alCounter_count.g_succ N n d q v) l _ _ _ _ _ hsb]
    exact e
   ·cases e
  ·cases e
theorem spec_alCounter_count.g_le {N n d d' : Nat} (h : d ≤ d') {l : List Int} {v : Int} (e : spec_alCounter_count.g N n d l = some v) : spec_alCounter_count.g N n d' l = some v := by
 induction h with
 | refl => exact e
 | step _ ih => exact spec_alCounter_count.g_succ _ _ _ _ _ ih
theorem spec_alCounter_count.g_one {N n d d' : Nat} {l : List Int} {v v' : Int} (e : spec_alCounter_count.g N n d l = some v) (e' : spec_alCounter_count.g N n d' l = some v') : v = v' := by
 have h1 := spec_alCounter_count.g_le (Nat.le_max_left d d') e
 have h2 := spec_alCounter_count.g_le (Nat.le_max_right d d') e'
 rw [h1] at h2
 exact Option.some.inj h2
/-- What the counter remembers is so. -/
def spec_alCounter_count.Inv (N n : Nat) (kn : List Int) : Prop := ∀ (q : List Int) (k : Nat) (a : Int), spec_alCounter_count.good q → q.length = n → spec_alRank.f k q = some a → 0 ≤ a → a < (N : Int) → 0 ≤ rd kn a → ∃ d, spec_alCounter_count.g N n d q = some (rd kn a)
theorem spec_alCounter_count.inv_new (N n : Nat) : spec_alCounter_count.Inv N n (List.replicate N (-1)) := fun q k a _ _ _ h0 h1 h2 => by
 have h3 : rd (List.replicate N (-1)) a = -1 := by
  show (List.replicate N (-1 : Int)).getD a.toNat 0 = -1
  rw [List.getD_eq_getElem?_getD, List.getElem?_replicate, if_pos zq62]; rfl
 omega
theorem spec_alCounter_count.rd_set (kn : List Int) (a b v : Int) (h0 : 0 ≤ a) (h1 : a < kn.length) (hb : 0 ≤ b) : rd (kn.set a.toNat v) b = if b = a then v else rd kn b := by
 show (kn.set a.toNat v).getD b.toNat 0 = _
 rw [List.getD_eq_getElem?_getD, List.getElem?_set]
 by_cases e : b = a
 ·subst e
  rw [if_pos rfl, if_pos rfl, if_pos zq62]; rfl
 ·rw [if_neg zq62, if_neg e]
  show _ = kn.getD b.toNat 0
  rw [List.getD_eq_getElem?_getD]
theorem spec_alCounter_count.inv_set {N n : Nat} {kn : List Int} (h : spec_alCounter_count.Inv N n kn) (hl : kn.length = N) (hj : spec_alCounter_count.inj) {l : List Int} (hg : spec_alCounter_count.good l) (hn : l.length = n) (hn8 : n ≤ 8) {k : Nat} {a : Int} (hk : spec_alRank.f k l = some a) (h0 : 0 ≤ a) (h1 : a < (N : Int)) {d : Nat} {v : Int} (hv : spec_alCounter_count.g N n d l = some v) : spec_alCounter_count.Inv N n (kn.set a.toNat v) := by
 intro q k' b hq hqn hk' hb0 hb1 hr
 have hs := spec_alCounter_count.rd_set kn a b v h0 zq62 hb0
 rw [hs] at hr ⊢
 by_cases e : b = a
 ·subst e
  rw [if_pos rfl]
  obtain rfl := hj q l k' k b hq hg zq62 zq62 hk' hk
  exact ⟨d, hv⟩
 ·rw [if_neg e] at hr ⊢
  exact h q k' b hq hqn hk' hb0 hb1 hr
/-- The counter's memory: block B leads to the row at G, and what this remembers is so. -/
structure spec_alCounter_count.Mem (base : Nat) (w : World) (B G N n : Nat) : Prop where mk :: (out : base ≤ G ∧ B ≠ G ∧ ∃ (C : Nat) (kn : List Int), w.heap[B]? = some (.cells #[.slice (some ⟨G, 0, none⟩) N C] 78 (0, 0)) ∧ kn.length = N ∧ Kd.R (Kd.int .i64) 3 w base (fun k_ => k_ = G) (.slice (some ⟨G, 0, none⟩) N C) kn ∧ spec_alCounter_count.Inv N n kn)
theorem spec_alCounter_count.Mem.kept {base : Nat} {w w' : World} {B G N n : Nat} {S : Nat → Prop} (h : spec_alCounter_count.Mem base w B G N n) (hk : Kept w w' S) (hS : ¬ S G) (hS2 : ¬ S B) : spec_alCounter_count.Mem base w' B G N n := by
 obtain ⟨h1, h2, C, kn, h3, h4, h5, h6⟩ := h
 exact ⟨h1, h2, C, kn, blk_kept h3 hk hS2, h4, Kd.R_kept h5 hk (fun k_ e_ h_ => hS (e_ ▸ h_)), h6⟩
theorem spec_alCounter_count.Mem.below {base : Nat} {w w' : World} {B G N n : Nat} (h : spec_alCounter_count.Mem base w B G N n) (hb : Below w.heap.size w w') : spec_alCounter_count.Mem base w' B G N n := h.kept (Kept.of_below hb (fun _ => False)) (fun h => h) (fun h => h)
theorem spec_alCounter_count.Mem.lower {base base' : Nat} {w : World} {B G N n : Nat} (h : spec_alCounter_count.Mem base w B G N n) (hb : base' ≤ base) : spec_alCounter_count.Mem base' w B G N n := by
 obtain ⟨h1, h2, C, kn, h3, h4, h5, h6⟩ := h
 exact ⟨Nat.le_trans hb h1, h2, C, kn, h3, h4, Kd.R_lower h5 hb, h6⟩
theorem spec_alCounter_count.Mem.lt {base : Nat} {w : World} {B G N n : Nat} (hN : 0 < N) (h : spec_alCounter_count.Mem base w B G N n) : B < w.heap.size ∧ G < w.heap.size := by
 obtain ⟨h1, h2, C, kn, h3, h4, h5, h6⟩ := h
 exact ⟨blk_lt h3, Kd.R_lt h5 G rfl⟩
theorem spec_alCounter_count.calls_g (N n d : Nat) : ∀ (B G : Nat) (A0 : Option Addr) (c0 : Nat) (l0 : List Int) (r : Int) (w0 w : World) (hB : Below w0.heap.size w0 w) (hm : spec_alCounter_count.Mem w0.heap.size w B G N n)
  (hr0 : ∀ W', Kept w W' (fun k_ => k_ = G) → Kd.C (Kd.int .i64) W' A0 l0.length l0) (hc0 : l0.length ≤ c0) (h : spec_alCounter_count.g N n d l0 = some r),
  Calls Try.prog 35 #[.pointer (some ⟨B, 0, none⟩), .slice A0 l0.length c0] w fun e w' => e = .returned (.int .i64 r) ∧ spec_alCounter_count.Mem w0.heap.size w' B G N n ∧ Below w0.heap.size w0 w' ∧ Kept w w' (fun k_ => k_ = G) := by
 induction d with
 | zero => intro B G A0 c0 l0 r w0 w _ _ _ _ h; simp [spec_alCounter_count.g] at h
 | succ d ih =>
  intro B G A0 c0 l0 r w0 w hB hm hr0 hc0 h
  have h0 := h
  rw [spec_alCounter_count.g] at h
  split at h
  ·rename_i hcond
   obtain ⟨hj, hg, hln, hn8⟩ := hcond
   obtain ⟨a, ha, h⟩ := Option.bind_eq_some_iff.1 h
   obtain ⟨ka, ha⟩ := spec_alCounter_count.ev_some ha
   split at h
   ·rename_i hab
    obtain ⟨ha0, ha1⟩ := hab
    obtain ⟨⟨rs, rb⟩, hlp, h⟩ := Option.bind_eq_some_iff.1 h
    have hrr : r = if rb = true then 1 else rs := (Option.some.inj h).symm
    obtain ⟨hGb, hBG, C, kn, hblk, hkl, hrow, hinv⟩ := hm.out
    have HA := am ha
    have HJ := am hj
    have HG := am hg
    have HLN := am (And.intro hln hn8)
    have HLP := am hlp
    have HRR := am hrr
    have H0 := am h0
    have IH := am ih
    have HR := am hr0
    have HC := am hc0
    have HB := am hB
    have HM := am hm
    have HK := am (Kept.refl w (fun k_ => k_ = G))
    have HAB := am (And.intro ha0 ha1)
    have hcellB := blk_cell hblk 0
    obtain ⟨hx0, hf0⟩ := Kd.R_celln 0 hrow a ha0 ha1
    obtain ⟨v, hv⟩ : ∃ v, v = rd kn a := ⟨_, rfl⟩
    have hx1 : w.cell? ⟨G, a.toNat, none⟩ = some (.int .i64 v) := by rw [hv]; exact hx0
    have HINV := am (fun h_ => hinv l0 ka a hg hln ha ha0 ha1 h_)
    rw [← hv] at HINV
    have hu1 := Try.underlying78
    have p5 := eq_true ha0
    have q5 := eq_true ha1
    clear ha hj hg hln hn8 hlp hrr h0 ih hr0 hc0 hB hm ha0 ha1 hrow hinv hblk hx0 hkl h hGb hBG hv
    by_cases hh : 0 ≤ v
    ·obtain ⟨d1, hd1⟩ := HINV.out hh
     obtain rfl := spec_alCounter_count.g_one hd1 H0.out
     have hh0 : decide (0 ≤ v) = true := decide_eq_true hh
     have hh1 : decide (v ≥ 0) = true := decide_eq_true hh
     clear hd1 hh
     go_enter Try.func35, Try.ntmps35
     go_wp2_with (go_at_call 61; (with_reducible refine (spec_alRank.calls ka _ _ l0 a _ ?side1 HC.out HA.out).mono ?_); (case side1 => exact zq111); rintro e w' ⟨rfl, ⟨nd, rfl⟩⟩)
     go_ret
     exact ⟨rfl, HM.out.below (pw_below_drewN (Below.refl _ _) nd), pw_below_drewN HB.out nd, Kept.drewN HK.out nd⟩
    ·have hh0 : decide (0 ≤ v) = false := decide_eq_false hh
     have hh1 : decide (v ≥ 0) = false := decide_eq_false hh
     clear hh
     go_enter Try.func35, Try.ntmps35
     go_wp2_with (go_at_call 61; (with_reducible refine (spec_alRank.calls ka _ _ l0 a _ ?side1 HC.out HA.out).mono ?_); (case side1 => exact zq111); rintro e w' ⟨rfl, ⟨nd, rfl⟩⟩)
     clear hcellB hx1 hf0 hh0 hh1 HINV
     go_loopg [6, 7, 8] (l0.length - 1) (fun gg v6 v7 v8 w' => ∃ (i : Nat) (x8 s : Int) (b : Bool), v6 = .int .i64 s ∧ v7 = .bool b ∧ v8 = .int .i64 x8 ∧ Aside0 (x8 = (i : Int)) ∧ i ≤ l0.length - 1 ∧ l0.length - 1 - i ≤ gg ∧ Aside0 (spec_alCounter_count.lp (spec_alCounter_count.g N n d) l0 (l0.length - 1 - i) i s b = some (rs, rb)) ∧ Aside0 (spec_alCounter_count.Mem w0.heap.size w' B G N n) ∧ Aside0 (Below w0.heap.size w0 w') ∧ Aside0 (Kept w w' (fun k_ => k_ = G)))
     case atStart => exact ⟨0, 0, 0, true, rfl, rfl, rfl, ⟨rfl⟩, Nat.zero_le _, zq62, ⟨HLP.out⟩, ⟨HM.out.below (pw_below_drewN (Below.refl _ _) nd)⟩, ⟨pw_below_drewN HB.out nd⟩, ⟨Kept.drewN HK.out nd⟩⟩
     case round =>
      clear HLP
      obtain ⟨i, x8, s, b, rfl, rfl, rfl, HX8, hi, hgk, HLP, HM2, HB2, HK2⟩ := hrel
      obtain ⟨ji, hji⟩ : ∃ j_ : Int, wrap64 (x8 + 1) = j_ := ⟨_, rfl⟩
      have hjv : ji = (i : Int) + 1 := by have h1 := HX8.out; have h2 := HLN.out; rw [← hji]; unfold wrap64; omega
      have hjiw : (IntKind.i64.wrap (x8 + 1)) = ji := (i64_w _).trans hji
      have HJV := am hjv
      clear hjv
      by_cases hlt : i + 1 < l0.length
      ·have hlp := HLP.out
       rw [show l0.length - 1 - i = (l0.length - 1 - (i + 1)) + 1 by omega, spec_alCounter_count.lp] at hlp
       have p171 : 0 ≤ x8 := by have := HX8.out; omega
       have q171 : x8 < (l0.length : Int) := by have := HX8.out; omega
       have p172 : 0 ≤ ji := zq179
       have q172 : ji < (l0.length : Int) := zq179
       obtain ⟨ad, ead, hx0⟩ := Kd.at_int (HR.out wr HK2.out) x8 p171 q171
       cases ead
       obtain ⟨ad2, ead2, hy0⟩ := Kd.at_int (HR.out wr HK2.out) ji p172 q172
       obtain rfl : ad = ad2 := (by injection ead2)
       obtain ⟨x, hx⟩ : ∃ x, x = rd l0 x8 := ⟨_, rfl⟩
       obtain ⟨y, hy⟩ : ∃ y, y = rd l0 ji := ⟨_, rfl⟩
       rw [← hx] at hx0
       rw [← hy] at hy0
       rw [show (i : Int) + 1 = ji from HJV.out.symm, show ((i : Nat) : Int) = x8 from HX8.out.symm, ← hx, ← hy] at hlp
       clear hx hy HLP ead2
       have hq3 : decide (ji < (l0.length : Int)) = true := decide_eq_true q172
       replace p171 := eq_true p171
       replace q171 := eq_true q171
       replace p172 := eq_true p172
       replace q172 := eq_true q172
       by_cases hc : x > y
       ·rw [if_pos hc] at hlp
        obtain ⟨q, hq, hlp⟩ := Option.bind_eq_some_iff.1 hlp
        obtain ⟨v2, hv2, hlp⟩ := Option.bind_eq_some_iff.1 hlp
        have HQ := am hq
        have HV2 := am hv2
        have HLP := am hlp
        have hc0 : decide (y < x) = true := decide_eq_true hc
        clear hq hv2 hlp hc
        go_wp2_with (first | (go_at_call 47; (with_reducible refine (spec_alSwap.calls _ _ l0 x8 q _ ?side1 HC.out HQ.out).mono ?_); (case side1 => exact HR.out _ zq86); rintro e w4 ⟨v4, rfl, ho4, hb4_⟩; have hb4 := below_step (w := wr) zq56 hb4_; clear hb4_; have HQR := am (Kd.R_mono (Kd.R_bound ho4) (fun k_ h_ => (show k_ ≠ G from fun e_ => by have h1_ := (HM2.out.lt (by have := HAB.out; omega)).2; have h2_ := h_.2.1; exact absurd (Nat.lt_of_lt_of_le h1_ h2_) zq146))); have HB4 := am (below_then HB2.out HB2.out.size hb4); have HK4 := am (HK2.out.below hb4); have HM4 := am (HM2.out.below hb4); clear hb4 ho4; obtain ⟨A4, c4, e4⟩ := Kd.R_slice HQR.out; subst e4) | (go_at_call 35; (with_reducible refine (IH.out B G A4 c4 q v2 w0 _ ?side1 ?side2 ?side3 ?side4 HV2.out).mono ?_); (case side1 => exact HB4.out); (case side2 => exact HM4.out); (case side3 => exact zq113); (case side4 => exact zq152); rintro e w5 ⟨rfl, hm5, hb5, hk5⟩; have HM5 := am hm5; have HB5 := am hb5; have HK5 := am (HK4.out.then_ hk5 (fun _ h_ => .inl h_)); clear hm5 hb5 hk5))
        repeat (go_quiet (first | (go_at_call 47; (with_reducible refine (spec_alSwap.calls _ _ l0 x8 q _ ?side1 HC.out HQ.out).mono ?_); (case side1 => exact HR.out _ zq86); rintro e w4 ⟨v4, rfl, ho4, hb4_⟩; have hb4 := below_step (w := wr) zq56 hb4_; clear hb4_; have HQR := am (Kd.R_mono (Kd.R_bound ho4) (fun k_ h_ => (show k_ ≠ G from fun e_ => by have h1_ := (HM2.out.lt (by have := HAB.out; omega)).2; have h2_ := h_.2.1; exact absurd (Nat.lt_of_lt_of_le h1_ h2_) zq146))); have HB4 := am (below_then HB2.out HB2.out.size hb4); have HK4 := am (HK2.out.below hb4); have HM4 := am (HM2.out.below hb4); clear hb4 ho4; obtain ⟨A4, c4, e4⟩ := Kd.R_slice HQR.out; subst e4) | (go_at_call 35; (with_reducible refine (IH.out B G A4 c4 q v2 w0 _ ?side1 ?side2 ?side3 ?side4 HV2.out).mono ?_); (case side1 => exact HB4.out); (case side2 => exact HM4.out); (case side3 => exact zq113); (case side4 => exact zq152); rintro e w5 ⟨rfl, hm5, hb5, hk5⟩; have HM5 := am hm5; have HB5 := am hb5; have HK5 := am (HK4.out.then_ hk5 (fun _ h_ => .inl h_)); clear hm5 hb5 hk5)); try go_wp2_with (first | (go_at_call 47; (with_reducible refine (spec_alSwap.calls _ _ l0 x8 q _ ?side1 HC.out HQ.out).mono ?_); (case side1 => exact HR.out _ zq86); rintro e w4 ⟨v4, rfl, ho4, hb4_⟩; have hb4 := below_step (w := wr) zq56 hb4_; clear hb4_; have HQR := am (Kd.R_mono (Kd.R_bound ho4) (fun k_ h_ => (show k_ ≠ G from fun e_ => by have h1_ := (HM2.out.lt (by have := HAB.out; omega)).2; have h2_ := h_.2.1; exact absurd (Nat.lt_of_lt_of_le h1_ h2_) zq146))); have HB4 := am (below_then HB2.out HB2.out.size hb4); have HK4 := am (HK2.out.below hb4); have HM4 := am (HM2.out.below hb4); clear hb4 ho4; obtain ⟨A4, c4, e4⟩ := Kd.R_slice HQR.out; subst e4) | (go_at_call 35; (with_reducible refine (IH.out B G A4 c4 q v2 w0 _ ?side1 ?side2 ?side3 ?side4 HV2.out).mono ?_); (case side1 => exact HB4.out); (case side2 => exact HM4.out); (case side3 => exact zq113); (case side4 => exact zq152); rintro e w5 ⟨rfl, hm5, hb5, hk5⟩; have HM5 := am hm5; have HB5 := am hb5; have HK5 := am (HK4.out.then_ hk5 (fun _ h_ => .inl h_)); clear hm5 hb5 hk5)))
        go_roundg (l0.length - 1 - (i + 1))
        case measure => omega
        case rel => exact ⟨i + 1, ji, wrap64 (s + v2), false, zq177, rfl, (by first | rfl | (simp [*]; done)), ⟨zq179⟩, zq62, zq62, HLP, HM5, HB5, HK5⟩
       ·rw [if_neg hc] at hlp
        have HLP := am hlp
        have hc0 : decide (y < x) = false := decide_eq_false hc
        clear hlp hc
        go_wp2
        repeat (go_quiet (fail); try go_wp2)
        go_roundg (l0.length - 1 - (i + 1))
        case measure => omega
        case rel => exact ⟨i + 1, ji, s, b, rfl, rfl, (by first | rfl | (simp [*]; done)), ⟨zq179⟩, zq62, zq62, HLP, ⟨HM2.out.below zq56⟩, ⟨by repeat (first | exact HB2.out | apply pw_below_drewN | apply below_drew1)⟩, ⟨zq86⟩⟩
      ·have hltz : ¬ ji < (l0.length : Int) := zq179
       have hq3 : decide (ji < (l0.length : Int)) = false := decide_eq_false hltz
       have hlp := HLP.out
       rw [show l0.length - 1 - i = 0 by omega, spec_alCounter_count.lp] at hlp
       simp only [Option.some.injEq, Prod.mk.injEq] at hlp
       obtain ⟨rfl, rfl⟩ := hlp
       clear HLP
       obtain ⟨hGb, hBG, C2, kn2, hblk, hkl, hrow, hinv⟩ := HM2.out
       have hcellB := blk_cell hblk 0
       obtain ⟨hx0, hf0⟩ := Kd.R_celln 0 hrow a HAB.out.1 HAB.out.2
       have HP7 := am (Kd.R_putg hrow a r)
       have HS2 := am (show _ ∧ _ ∧ _ ∧ _ ∧ _ ∧ _ from ⟨hGb, hBG, hblk, hkl, hrow, hinv⟩)
       clear hGb hBG hblk hkl hrow hinv
       cases b with
       | true =>
        have hr1 : r = 1 := HRR.out
        subst hr1
        go_wp2_with (first | ((with_reducible refine gate_store (t := 3) (p := 57) rfl ?_); refine store_event (t := 3) (p := 57) (v := ?vo) (w1 := (wr.setCell ⟨G, a.toNat, none⟩ (.int .i64 1))) ?hg ?ho ?hn ?hr ?_; (case ho => rfl); (case hg => rfl); (case hn => rfl); (case hr => exact zq53); intro w8 hw; have hg_ : wr.grownBy w8 (some G) := (by rw [hw]; exact HP7.out.2); have n0_ := am (show spec_alCounter_count.Mem w0.heap.size w8 B G N n from ⟨HS2.out.1, HS2.out.2.1, C2, kn2.set a.toNat (1), by rw [hw]; exact blk_far HS2.out.2.2.1 HS2.out.2.1 _, by rw [List.length_set]; exact HS2.out.2.2.2.1, by rw [hw]; exact HP7.out.1, spec_alCounter_count.inv_set HS2.out.2.2.2.2.2 HS2.out.2.2.2.1 HJ.out HG.out HLN.out.1 HLN.out.2 HA.out HAB.out.1 HAB.out.2 H0.out⟩); have n1_ := am (HB2.out.grown hg_ HB2.out.size (fun k_ h_ => by cases h_; exact HS2.out.1)); have n2_ := am (Kept.of_grown hg_ HK2.out (fun k_ h_ => by cases h_; exact .inl rfl)); clear hg_ hw))
        go_ret
        exact ⟨rfl, n0_.out, n1_.out, n2_.out⟩
       | false =>
        have hr1 : r = s := HRR.out
        subst hr1
        go_wp2_with (first | ((with_reducible refine gate_store (t := 3) (p := 57) rfl ?_); refine store_event (t := 3) (p := 57) (v := ?vo) (w1 := (wr.setCell ⟨G, a.toNat, none⟩ (.int .i64 r))) ?hg ?ho ?hn ?hr ?_; (case ho => rfl); (case hg => rfl); (case hn => rfl); (case hr => exact zq53); intro w8 hw; have hg_ : wr.grownBy w8 (some G) := (by rw [hw]; exact HP7.out.2); have n0_ := am (show spec_alCounter_count.Mem w0.heap.size w8 B G N n from ⟨HS2.out.1, HS2.out.2.1, C2, kn2.set a.toNat (r), by rw [hw]; exact blk_far HS2.out.2.2.1 HS2.out.2.1 _, by rw [List.length_set]; exact HS2.out.2.2.2.1, by rw [hw]; exact HP7.out.1, spec_alCounter_count.inv_set HS2.out.2.2.2.2.2 HS2.out.2.2.2.1 HJ.out HG.out HLN.out.1 HLN.out.2 HA.out HAB.out.1 HAB.out.2 H0.out⟩); have n1_ := am (HB2.out.grown hg_ HB2.out.size (fun k_ h_ => by cases h_; exact HS2.out.1)); have n2_ := am (Kept.of_grown hg_ HK2.out (fun k_ h_ => by cases h_; exact .inl rfl)); clear hg_ hw))
        go_ret
        exact ⟨rfl, n0_.out, n1_.out, n2_.out⟩
   ·cases h
  ·cases h
theorem spec_alCounter_count.Mem.made {n : Nat} {w w' : World} {v : Value} (h : spec_alNew.Made n w w' v) : ∃ B G : Nat, v = .pointer (some ⟨B, 0, none⟩) ∧ w.heap.size ≤ B ∧ w.heap.size ≤ G ∧ spec_alCounter_count.Mem w.heap.size w' B G (spec_alNew.fc n) n := by
 obtain ⟨B, G, C, h1, h2, h3, h4, h5⟩ := h
 exact ⟨B, G, h1, zq62, h2, h2, zq62, C, _, h4, List.length_replicate, h5, spec_alCounter_count.inv_new _ _⟩
noncomputable def spec_alCounter_count.f (N : Nat) (l0 : List Int) : Option Int := spec_alCounter_count.g N l0.length 16 l0
/-! ### spec_alList: function 58 -/
mutual
def spec_alList.l0 : Nat → List Int → List (List Int) → Bool → Int → Option ((List (List Int)))
 | 0, _, _, _, _ => none
 | k + 1, x0, x3, x4, x5 => if (wrap64 (x5 + 1)) < (x0.length : Int) then (if 0 ≤ x5 then (if x5 < (x0.length : Int) then (if 0 ≤ (wrap64 (x5 + 1)) then (if (rd x0 x5) < (rd x0 (wrap64 (x5 + 1))) then (spec_alList.l0 k x0 x3 x4 (wrap64 (x5 + 1))) else ((spec_alSwap.f x0 x5).bind fun t263 => ((spec_alList.f k t263).bind fun t266 => (spec_alList.l1 k x0 x3 false x5 t266 (t266.length : Int) 0)))) else (none)) else (none)) else (none)) else (if x4 = true then (some (([[]] : List (List Int)))) else (some x3))
def spec_alList.l1 : Nat → List Int → List (List Int) → Bool → Int → List (List Int) → Int → Int → Option ((List (List Int)))
 | 0, _, _, _, _, _, _, _ => none
 | k + 1, x0, x3, x4, x5, x28, x29, x30 => if x30 < x29 then (if 0 ≤ x30 then (if x30 < (x28.length : Int) then ((some (([x5] : List Int) : List Int)).bind fun y270 => (if y270.length + (rd_L2 x28 x30).length < 17592186044416 then (if x3.length < 5864062014805 then (spec_alList.l1 k x0 (x3 ++ [(y270 ++ (rd_L2 x28 x30))]) x4 x5 x28 x29 (wrap64 (x30 + 1))) else (none)) else (none))) else (none)) else (none)) else (spec_alList.l0 k x0 x3 x4 (wrap64 (x5 + 1)))
def spec_alList.f : Nat → List Int → Option ((List (List Int)))
 | 0, _ => none
 | k + 1, l0 => spec_alList.l0 k l0 ([] : List (List Int)) true 0
end
theorem spec_alList.mono_l : ∀ k, (∀ y0, LeO (spec_alList.f k y0) (spec_alList.f (k + 1) y0)) ∧ (∀ y0 y1 y2 y3, LeO (spec_alList.l0 k y0 y1 y2 y3) (spec_alList.l0 (k + 1) y0 y1 y2 y3)) ∧ (∀ y0 y1 y2 y3 y4 y5 y6, LeO (spec_alList.l1 k y0 y1 y2 y3 y4 y5 y6) (spec_alList.l1 (k + 1) y0 y1 y2 y3 y4 y5 y6))
 | 0 => ⟨fun _ r h => by simp [spec_alList.f] at h, fun _ _ _ _ r h => by simp [spec_alList.l0] at h, fun _ _ _ _ _ _ _ r h => by simp [spec_alList.l1] at h⟩
 | k + 1 => by
  obtain ⟨ih0, ih1, ih2⟩ := spec_alList.mono_l k
  refine ⟨?_, ?_, ?_⟩
  ·intro y0
   unfold spec_alList.f
   repeat' first | (with_reducible first | exact ih0 _ | exact ih1 _ _ _ _ | exact ih2 _ _ _ _ _ _ _ | exact LeO.refl _ | exact LeO.none _ | refine LeO.ite ?_ ?_ | refine LeO.bind ?_ (fun _ => ?_))
  ·intro y0 y1 y2 y3
   unfold spec_alList.l0
   repeat' first | (with_reducible first | exact ih0 _ | exact ih1 _ _ _ _ | exact ih2 _ _ _ _ _ _ _ | exact LeO.refl _ | exact LeO.none _ | refine LeO.ite ?_ ?_ | refine LeO.bind ?_ (fun _ => ?_))
  ·intro y0 y1 y2 y3 y4 y5 y6
   unfold spec_alList.l1
   repeat' first | (with_reducible first | exact ih0 _ | exact ih1 _ _ _ _ | exact ih2 _ _ _ _ _ _ _ | exact LeO.refl _ | exact LeO.none _ | refine LeO.ite ?_ ?_ | refine LeO.bind ?_ (fun _ => ?_))
theorem spec_alList.mono : ∀ a0 k, LeO (spec_alList.f k a0) (spec_alList.f (k + 1) a0) := by
 intro a0 k
 obtain ⟨ih0, ih1, ih2⟩ := spec_alList.mono_l k
 exact ih0 a0
theorem spec_alList.calls (k : Nat) : ∀ (A0 : Option Addr) (c0 : Nat) (l0 : List Int) (r : List (List Int)) (w : World) (hr0 : Kd.C (Kd.int .i64) w A0 l0.length l0) (hc0 : l0.length ≤ c0) (h : spec_alList.f k l0 = some r),
  Calls Try.prog 58 #[.slice A0 l0.length c0] w fun e w' => ∃ v0_ : Value, e = .returned (v0_) ∧ Kd.S (Kd.slice 3 (Kd.int .i64)) 24 w' w.heap.size (fun _ => True) v0_ r ∧ Below w.heap.size w w' := by
 induction k using Nat.strongRecOn with
 | _ k ih =>
 intro A0 c0 l0 r w hr0 hc0 h
 cases k with
 | zero => exact absurd h (by simp [spec_alList.f])
 | succ k =>
 simp only [spec_alList.f] at h
 have HR0 := am hr0
 have HC0 := am hc0
 clear hr0 hc0
 have HB := am (Below.refl w.heap.size w)
 have H : (spec_alList.l0 k l0 ([] : List (List Int)) true 0) = some r := h
 clear h
 have H' := am H
 clear H
 go_enter Try.func58, Try.ntmps58
 go_wp2
 repeat (go_quiet (fail); try go_wp2)
 go_loopg [3, 4, 5] k (fun kq v3 v4 v5 w' => ∃ (x3_1 : List (List Int)) (x4_1 : Bool) (x5_1 : Int), v4 = .bool x4_1 ∧ v5 = .int .i64 x5_1 ∧ Aside0 (spec_alList.l0 kq l0 x3_1 x4_1 x5_1 = some r) ∧ Aside0 (kq ≤ k) ∧ Aside0 (Kd.S (Kd.slice 3 (Kd.int .i64)) 24 w' w.heap.size (fun _ => True) v3 x3_1) ∧ Aside0 (Below w.heap.size w w'))
 case atStart => exact ⟨(([] : List (List Int))), (true), (0), zq13, zq13, H', ⟨Nat.le_refl _⟩, ⟨zq107⟩, ⟨zq12⟩⟩
 case round =>
  clear H'
  obtain ⟨x3_1, x4_1, x5_1, rfl, rfl, HA, HK1, HO_3, HB⟩ := hrel
  cases gk with
  | zero => exact absurd HA.out (by simp [spec_alList.l0])
  | succ k1 =>
   have H := HA.out
   clear HA
   simp only [spec_alList.l0] at H
   by_cases c2 : (wrap64 (x5_1 + 1)) < (l0.length : Int)
   ·rw [if_pos c2] at H
    have c2b0 : decide ((wrap64 (x5_1 + 1)) < (l0.length : Int)) = true := decide_eq_true c2
    clear c2
    by_cases c3 : 0 ≤ x5_1
    ·rw [if_pos c3] at H
     have c3b0 : decide (0 ≤ x5_1) = true := decide_eq_true c3
     clear c3
     by_cases c4 : x5_1 < (l0.length : Int)
     ·rw [if_pos c4] at H
      have c4b0 : decide (x5_1 < (l0.length : Int)) = true := decide_eq_true c4
      clear c4
      obtain ⟨ji5, hji5⟩ : ∃ j_ : Int, (wrap64 (x5_1 + 1)) = j_ := ⟨_, rfl⟩
      replace H : (if 0 ≤ (ji5) then (if (rd l0 x5_1) < (rd l0 (ji5)) then (spec_alList.l0 k1 l0 x3_1 x4_1 ji5) else ((spec_alSwap.f l0 x5_1).bind fun t263 => ((spec_alList.f k1 t263).bind fun t266 => (spec_alList.l1 k1 l0 x3_1 false x5_1 t266 (t266.length : Int) 0)))) else (none)) = some r := by first | (rw [hji5] at H; exact H) | (simp only [hji5] at H ⊢; exact H)
      (try rw [hji5] at c2b0)
      have hji5w : (IntKind.i64.wrap (x5_1 + 1)) = ji5 := (i64_w _).trans hji5
      by_cases c6 : 0 ≤ (ji5)
      ·rw [if_pos c6] at H
       have c6b0 : decide (0 ≤ (ji5)) = true := decide_eq_true c6
       clear c6
       by_cases c7 : (rd l0 x5_1) < (rd l0 (ji5))
       ·rw [if_pos c7] at H
        have c7b0 : decide ((rd l0 x5_1) < (rd l0 (ji5))) = true := decide_eq_true c7
        clear c7
        have H' := am H
        clear H
        have p261 : 0 ≤ (x5_1 : Int) := of_decide_eq_true zq9
        have q261 : x5_1 < (l0.length : Int) := of_decide_eq_true zq9
        obtain ⟨ad261, e261, hx261_0⟩ := Kd.at_int HR0.out x5_1 p261 q261
        cases e261
        replace hx261_0 := (HB.out.cell (World.block_lt_of_cell? w _ hx261_0)).trans hx261_0
        replace p261 := eq_true p261
        replace q261 := eq_true q261
        have p262 : 0 ≤ ((ji5) : Int) := of_decide_eq_true zq9
        have q262 : (ji5) < (l0.length : Int) := of_decide_eq_true zq9
        obtain ⟨ad262, e262, hx262_0⟩ := Kd.at_int HR0.out (ji5) p262 q262
        obtain rfl : ad261 = ad262 := (by injection e262)
        replace hx262_0 := (HB.out.cell (World.block_lt_of_cell? w _ hx262_0)).trans hx262_0
        replace p262 := eq_true p262
        replace q262 := eq_true q262
        go_wp2
        repeat (go_quiet (fail); try go_wp2)
        go_roundg k1
        case measure => have := HK1.out; omega
        case rel => exact ⟨(x3_1), (x4_1), (ji5), zq13, (by first | rfl | (simp; done) | (simp only [← hji5] <;> (first | rfl | simp)) | (simp [*]; done)), H', ⟨zq101⟩, ⟨zq18⟩, ⟨zq12⟩⟩
       ·rw [if_neg c7] at H
        have c7b0 : decide ((rd l0 x5_1) < (rd l0 (ji5))) = false := decide_eq_false c7
        clear c7
        obtain ⟨t263, A8, H⟩ := zS H
        (try dsimp only at H)
        obtain ⟨t266, A9, H⟩ := zS H
        (try dsimp only at H)
        have H' := am H
        clear H
        have p261 : 0 ≤ (x5_1 : Int) := of_decide_eq_true zq9
        have q261 : x5_1 < (l0.length : Int) := of_decide_eq_true zq9
        obtain ⟨ad261, e261, hx261_0⟩ := Kd.at_int HR0.out x5_1 p261 q261
        cases e261
        replace hx261_0 := (HB.out.cell (World.block_lt_of_cell? w _ hx261_0)).trans hx261_0
        replace p261 := eq_true p261
        replace q261 := eq_true q261
        have p262 : 0 ≤ ((ji5) : Int) := of_decide_eq_true zq9
        have q262 : (ji5) < (l0.length : Int) := of_decide_eq_true zq9
        obtain ⟨ad262, e262, hx262_0⟩ := Kd.at_int HR0.out (ji5) p262 q262
        obtain rfl : ad261 = ad262 := (by injection e262)
        replace hx262_0 := (HB.out.cell (World.block_lt_of_cell? w _ hx262_0)).trans hx262_0
        replace p262 := eq_true p262
        replace q262 := eq_true q262
        go_wp2_with (first | (go_at_call 47; (with_reducible refine (spec_alSwap.calls _ _ l0 x5_1 t263 _ ?side1 ?side2 A8.out).mono ?_); (case side1 => exact zq48); (case side2 => exact HC0.out); rintro e w10 ⟨v264, rfl, ho0, hb⟩; have HO265 := am (Kd.R_lower ho0 (below_size (pBq3 HB))); replace HO_3 := am (Kd.S_elder' zq18 (Kd.R_base ho0) hb); replace HB := am (below_step (pBq3 HB) hb); (try clear hb ho0); obtain ⟨Ao11, co11, eo11⟩ := Kd.R_slice HO265.out; subst eo11) | (go_at_call 58; (with_reducible refine (ih k1 zq101 _ _ t263 t266 _ ?side1 ?side2 A9.out).mono ?_); (case side1 => exact zq119); (case side2 => exact (Kd.R_reads' HO265.out).2.1); rintro e w12 ⟨v267, rfl, ho0, hb⟩; have HO268 := am (Kd.S_lower (Kd.S_new' (Kd.S_new' ho0 (Kd.S_lt zq18)) (Kd.R_lt (pRq3 HO265))) (below_size (pBq3 HB))); replace HO_3 := am (Kd.S_elder' zq18 (Kd.S_base ho0) hb); replace HO265 := am (Kd.R_below (pRq3 HO265) hb); replace HB := am (below_step (pBq3 HB) hb); (try clear hb ho0); obtain ⟨Ao13, co13, eo13⟩ := Kd.S_slice HO268.out; subst eo13))
        repeat (go_quiet (first | (go_at_call 47; (with_reducible refine (spec_alSwap.calls _ _ l0 x5_1 t263 _ ?side1 ?side2 A8.out).mono ?_); (case side1 => exact zq48); (case side2 => exact HC0.out); rintro e w10 ⟨v264, rfl, ho0, hb⟩; have HO265 := am (Kd.R_lower ho0 (below_size (pBq3 HB))); replace HO_3 := am (Kd.S_elder' zq18 (Kd.R_base ho0) hb); replace HB := am (below_step (pBq3 HB) hb); (try clear hb ho0); obtain ⟨Ao11, co11, eo11⟩ := Kd.R_slice HO265.out; subst eo11) | (go_at_call 58; (with_reducible refine (ih k1 zq101 _ _ t263 t266 _ ?side1 ?side2 A9.out).mono ?_); (case side1 => exact zq119); (case side2 => exact (Kd.R_reads' HO265.out).2.1); rintro e w12 ⟨v267, rfl, ho0, hb⟩; have HO268 := am (Kd.S_lower (Kd.S_new' (Kd.S_new' ho0 (Kd.S_lt zq18)) (Kd.R_lt (pRq3 HO265))) (below_size (pBq3 HB))); replace HO_3 := am (Kd.S_elder' zq18 (Kd.S_base ho0) hb); replace HO265 := am (Kd.R_below (pRq3 HO265) hb); replace HB := am (below_step (pBq3 HB) hb); (try clear hb ho0); obtain ⟨Ao13, co13, eo13⟩ := Kd.S_slice HO268.out; subst eo13)); try go_wp2_with (first | (go_at_call 47; (with_reducible refine (spec_alSwap.calls _ _ l0 x5_1 t263 _ ?side1 ?side2 A8.out).mono ?_); (case side1 => exact zq48); (case side2 => exact HC0.out); rintro e w10 ⟨v264, rfl, ho0, hb⟩; have HO265 := am (Kd.R_lower ho0 (below_size (pBq3 HB))); replace HO_3 := am (Kd.S_elder' zq18 (Kd.R_base ho0) hb); replace HB := am (below_step (pBq3 HB) hb); (try clear hb ho0); obtain ⟨Ao11, co11, eo11⟩ := Kd.R_slice HO265.out; subst eo11) | (go_at_call 58; (with_reducible refine (ih k1 zq101 _ _ t263 t266 _ ?side1 ?side2 A9.out).mono ?_); (case side1 => exact zq119); (case side2 => exact (Kd.R_reads' HO265.out).2.1); rintro e w12 ⟨v267, rfl, ho0, hb⟩; have HO268 := am (Kd.S_lower (Kd.S_new' (Kd.S_new' ho0 (Kd.S_lt zq18)) (Kd.R_lt (pRq3 HO265))) (below_size (pBq3 HB))); replace HO_3 := am (Kd.S_elder' zq18 (Kd.S_base ho0) hb); replace HO265 := am (Kd.R_below (pRq3 HO265) hb); replace HB := am (below_step (pBq3 HB) hb); (try clear hb ho0); obtain ⟨Ao13, co13, eo13⟩ := Kd.S_slice HO268.out; subst eo13)))
        go_loopg [3, 30] k1 (fun kq v3 v30 w' => ∃ (x3_2 : List (List Int)) (x30_2 : Int), v30 = .int .i64 x30_2 ∧ Aside0 (spec_alList.l1 kq l0 x3_2 false x5_1 t266 (t266.length : Int) x30_2 = some r) ∧ Aside0 (kq ≤ k1) ∧ Aside0 (Kd.S (Kd.slice 3 (Kd.int .i64)) 24 w' w.heap.size (fun k_ => some k_ ≠ ((.slice Ao13 t266.length co13) : Value).ownBlock) v3 x3_2) ∧ Aside0 (Kd.S (Kd.slice 3 (Kd.int .i64)) 24 w' w.heap.size (fun k_ => some k_ ≠ (v3 : Value).ownBlock) (.slice Ao13 t266.length co13) t266) ∧ Aside0 (Below w.heap.size w w'))
        case atStart => exact ⟨(x3_1), (0), zq13, H', ⟨Nat.le_refl _⟩, ⟨by (with_reducible repeat (first | apply Kd.S_alloc | apply Kd.S_drewN | apply Kd.S_drew)); exact Kd.S_mono HO_3.out (fun _ hk => hk.2)⟩, ⟨by (with_reducible repeat (first | apply Kd.S_alloc | apply Kd.S_drewN | apply Kd.S_drew)); exact Kd.S_mono HO268.out (fun _ hk => hk.1.2)⟩, ⟨zq12⟩⟩
        case round =>
         clear H'
         try clear c2
         try clear c2b0
         try clear p2
         try clear q2
         try clear hx2
         try clear c3
         try clear c3b0
         try clear c4
         try clear c4b0
         try clear c5
         try clear c6
         try clear c6b0
         try clear p6
         try clear c7
         try clear c7b0
         try clear hx261_0
         try clear hx262_0
         try clear p261
         try clear p262
         try clear q261
         try clear q262
         obtain ⟨x3_2, x30_2, rfl, HA, HK2, HO_3, HO_28, HB⟩ := hrel
         cases gk with
         | zero => exact absurd HA.out (by simp [spec_alList.l1])
         | succ k2 =>
          have H := HA.out
          clear HA
          simp only [spec_alList.l1] at H
          by_cases c14 : x30_2 < (t266.length : Int)
          ·rw [if_pos c14] at H
           have c14b0 : decide (x30_2 < (t266.length : Int)) = true := decide_eq_true c14
           clear c14
           by_cases c15 : 0 ≤ x30_2
           ·rw [if_pos c15] at H
            have c15b0 : decide (0 ≤ x30_2) = true := decide_eq_true c15
            clear c15
            by_cases c16 : x30_2 < (t266.length : Int)
            ·rw [if_pos c16] at H
             have c16b0 : decide (x30_2 < (t266.length : Int)) = true := decide_eq_true c16
             clear c16
             obtain ⟨y270, hy270⟩ : ∃ y_ : List Int, y_ = (([x5_1] : List Int)) := ⟨_, rfl⟩
             replace H : (if y270.length + (rd_L2 t266 x30_2).length < 17592186044416 then (if x3_2.length < 5864062014805 then (spec_alList.l1 k2 l0 (x3_2 ++ [(y270 ++ (rd_L2 t266 x30_2))]) false x5_1 t266 (t266.length : Int) (wrap64 (x30_2 + 1))) else (none)) else (none)) = some r := by first | (rw [hy270]; exact zH) | exact zH
             have Ny270 := am hy270
             clear hy270
             by_cases c17 : y270.length + (rd_L2 t266 x30_2).length < 17592186044416
             ·rw [if_pos c17] at H
              have LMc17 := am c17
              clear c17
              obtain ⟨y273, hy273⟩ : ∃ y_ : List Int, y_ = (y270 ++ (rd_L2 t266 x30_2)) := ⟨_, rfl⟩
              replace H : (if x3_2.length < 5864062014805 then (spec_alList.l1 k2 l0 (x3_2 ++ [y273]) false x5_1 t266 (t266.length : Int) (wrap64 (x30_2 + 1))) else (none)) = some r := by first | (rw [hy273]; exact zH) | exact zH
              have Ny273 := am hy273
              clear hy273
              by_cases c18 : x3_2.length < 5864062014805
              ·rw [if_pos c18] at H
               have LMc18 := am c18
               clear c18
               obtain ⟨y276, hy276⟩ : ∃ y_ : List (List Int), y_ = (x3_2 ++ [y273]) := ⟨_, rfl⟩
               replace H : (spec_alList.l1 k2 l0 y276 false x5_1 t266 (t266.length : Int) (wrap64 (x30_2 + 1))) = some r := by first | (rw [hy276]; exact zH) | exact zH
               have Ny276 := am hy276
               clear hy276
               have H' := am H
               clear H
               have p269 : 0 ≤ (x30_2 : Int) := of_decide_eq_true zq9
               have q269 : x30_2 < (t266.length : Int) := of_decide_eq_true zq9
               obtain ⟨ad269, A269_0, c269_0, e269, hx269_0, hl269_0, hi269_0⟩ := at_L2 (Kd.S_reads' HO_28.out).2.2 x30_2 p269 q269
               cases e269
               obtain ⟨ce269, hce269, hMe269, hcc269⟩ := Kd.S_get HO_28.out [] x30_2 p269 (by first | exact q269 | exact of_decide_eq_true zq9 | (have e_ := (Kd.S_reads' HO_28.out).1; omega))
               obtain ⟨ve269_0, rfl, ge269_0⟩ := hMe269
               have hv269_0 := hcc269 0 _ rfl
               rw [Nat.add_zero, show ((Kd.slice 3 (Kd.int .i64))).sz = 1 from rfl, Nat.mul_one] at hv269_0
               replace hv269_0 := Option.some.inj (hv269_0.symm.trans hx269_0)
               rw [hv269_0] at ge269_0
               have HL269_0 := am (show Kd.R (Kd.int .i64) 3 _ _ _ _ (rd_L2 t266 x30_2) from ge269_0)
               clear hv269_0 ge269_0
               clear hcc269 hce269
               have HR269_0 := am hi269_0
               have HC269_0 := am hl269_0
               clear hi269_0 hl269_0
               replace p269 := eq_true p269
               replace q269 := eq_true q269
               go_wp2_with (first | ((with_reducible refine gate_dst (N := 36) rfl ?_); refine Kd.R_lit (Kd.int .i64) _ 3 ?hg (N := 36) ?hd (xs := ([x5_1] : List Int)) (inner := [.int .i64 x5_1]) (ok := fun _ => True) (okp := fun _ => True) ?hr ?hp (fun _ hk => hk) trivial (Below.refl _ _) (Nat.le_refl _) zq66 ?_; (case hd => rfl); (case hg => rfl); (case hr => exact zq53); (case hp => exact zq161); intro v271 w19 ho20 hb hg_ hnew_; clear hg_ hnew_; (first | rw [← Ny270.out] at ho20 | (simp only [Int.reduceToNat] at ho20; rw [← Ny270.out] at ho20)); have HO272 := am (Kd.R_lower (Kd.R_new' ho20 (Kd.R_lt zq46)) (below_size (pBq3 HB))); replace HO_3 := am (Kd.S_elder' zq18 (Kd.R_base ho20) hb); replace HO_28 := am (Kd.S_elder' zq58 (Kd.R_base ho20) hb); replace HL269_0 := am (Kd.R_elder' zq46 (Kd.R_base ho20) hb); replace HR269_0 := am (Kd.C_below zq51 hb); replace HB := am (below_step (pBq3 HB) hb); clear hb ho20) | ((with_reducible refine gate_builtin (b := .append) (xs := #[.tmp 36, .tmp 37]) rfl ?_); at_builtin; refine Kd.R_append_rows (Kd.int .i64) (w0 := w) w.heap.size rfl (.tmp 36) (.tmp 37) 24 3 (.int .i64 0) 8 rfl Try.underlying24 info3 rfl zq36 zq62 v271 y270 (rd_L2 t266 x30_2) _ _ _ (fun k_ => some k_ ≠ (.slice A269_0 (rd_L2 t266 x30_2).length c269_0 : Value).ownBlock) (fun _ => False) rfl rfl ?aO ?aR (fun _ _ h => h) (fun _ h => h.elim) ?aF ?aB ?aS ?aL ?_; (case aR => exact zq130); (case aB => exact (pBq3 HB)); (case aF => exact (fun k_ hk => Kd.fresh' (Kd.R_lt zq46) k_ hk)); (case aO => exact zq131); (case aS => exact (below_size (pBq3 HB))); (case aL => have := LMc17.out; omega); intro v274 w21 ho hb hg hat; rw [← Ny273.out] at ho; have HO275 := am (ho); replace HO_3 := am (Kd.S_after (ok := (fun k_ => some k_ ≠ (.slice (some ad269) t266.length co13 : Value).ownBlock)) zq18 hg hat); replace HO_28 := am (Kd.S_after (ok := (fun k_ => some k_ ≠ (u3 : Value).ownBlock)) zq58 hg hat); replace HL269_0 := am (Kd.R_after (ok := (fun k_ => some k_ ≠ (u3 : Value).ownBlock ∧ some k_ ≠ (.slice (some ad269) t266.length co13 : Value).ownBlock)) zq46 hg hat); replace HB := am (hb); clear HO272; clear ho hb hg hat; obtain ⟨Ao23, co23, eo23⟩ := Kd.R_slice HO275.out; subst eo23) | ((with_reducible refine gate_builtin (b := .append) (xs := #[.tmp 34, .tmp 39]) rfl ?_); at_builtin; refine Kd.S_append (Kd.slice 3 (Kd.int .i64)) (w0 := w) w.heap.size rfl (.tmp 34) (.tmp 39) 53 24 (.slice none 0 0) 24 rfl Try.underlying53 info24 rfl zq36 zq62 u3 x3_2 y273 [.slice Ao23 y273.length co23] (fun k_ => some k_ ≠ (.slice (some ad269) t266.length co13 : Value).ownBlock) (fun k_ => some k_ = (.slice Ao23 y273.length co23 : Value).ownBlock) rfl rfl ?aP (fun k_ hk_ => ((Kd.R_mono (ok' := fun k_ => ((fun k_ => some k_ ≠ (.slice (some ad269) t266.length co13 : Value).ownBlock)) k_ ∧ some k_ ≠ (u3 : Value).ownBlock) (Kd.R_apart' (Kd.R_apart' (HO275.out) (Kd.S_typed HO_28.out) zq36) (Kd.S_typed HO_3.out) zq36) (fun k_ hk => ⟨hk.1.2, hk.2⟩))).1 k_ hk_.symm) ?aF ?aO ?aB ?aS ?aL ?_; (case aP => exact zq71); (case aB => exact (pBq3 HB)); (case aF => exact (fun k_ hk => Kd.fresh' (Kd.S_lt zq58) k_ hk)); (case aO => exact zq121); (case aS => exact (below_size (pBq3 HB))); (case aL => have := LMc18.out; omega); intro v277 w22 ho hb hg hat; rw [← Ny276.out] at ho; have HO278 := am (ho); replace HO_28 := am (Kd.S_after (ok := (fun k_ => some k_ ≠ (.slice Ao23 y273.length co23 : Value).ownBlock)) zq128 hg hat); replace HL269_0 := am (Kd.R_after (ok := (fun k_ => some k_ ≠ (.slice (some ad269) t266.length co13 : Value).ownBlock ∧ some k_ ≠ (.slice Ao23 y273.length co23 : Value).ownBlock)) zq120 hg hat); replace HB := am (hb); clear HO_3 HO275; clear ho hb hg hat))
               repeat (go_quiet (first | ((with_reducible refine gate_dst (N := 36) rfl ?_); refine Kd.R_lit (Kd.int .i64) _ 3 ?hg (N := 36) ?hd (xs := ([x5_1] : List Int)) (inner := [.int .i64 x5_1]) (ok := fun _ => True) (okp := fun _ => True) ?hr ?hp (fun _ hk => hk) trivial (Below.refl _ _) (Nat.le_refl _) zq66 ?_; (case hd => rfl); (case hg => rfl); (case hr => exact zq53); (case hp => exact zq161); intro v271 w19 ho20 hb hg_ hnew_; clear hg_ hnew_; (first | rw [← Ny270.out] at ho20 | (simp only [Int.reduceToNat] at ho20; rw [← Ny270.out] at ho20)); have HO272 := am (Kd.R_lower (Kd.R_new' ho20 (Kd.R_lt zq46)) (below_size (pBq3 HB))); replace HO_3 := am (Kd.S_elder' zq18 (Kd.R_base ho20) hb); replace HO_28 := am (Kd.S_elder' zq58 (Kd.R_base ho20) hb); replace HL269_0 := am (Kd.R_elder' zq46 (Kd.R_base ho20) hb); replace HR269_0 := am (Kd.C_below zq51 hb); replace HB := am (below_step (pBq3 HB) hb); clear hb ho20) | ((with_reducible refine gate_builtin (b := .append) (xs := #[.tmp 36, .tmp 37]) rfl ?_); at_builtin; refine Kd.R_append_rows (Kd.int .i64) (w0 := w) w.heap.size rfl (.tmp 36) (.tmp 37) 24 3 (.int .i64 0) 8 rfl Try.underlying24 info3 rfl zq36 zq62 v271 y270 (rd_L2 t266 x30_2) _ _ _ (fun k_ => some k_ ≠ (.slice A269_0 (rd_L2 t266 x30_2).length c269_0 : Value).ownBlock) (fun _ => False) rfl rfl ?aO ?aR (fun _ _ h => h) (fun _ h => h.elim) ?aF ?aB ?aS ?aL ?_; (case aR => exact zq130); (case aB => exact (pBq3 HB)); (case aF => exact (fun k_ hk => Kd.fresh' (Kd.R_lt zq46) k_ hk)); (case aO => exact zq131); (case aS => exact (below_size (pBq3 HB))); (case aL => have := LMc17.out; omega); intro v274 w21 ho hb hg hat; rw [← Ny273.out] at ho; have HO275 := am (ho); replace HO_3 := am (Kd.S_after (ok := (fun k_ => some k_ ≠ (.slice (some ad269) t266.length co13 : Value).ownBlock)) zq18 hg hat); replace HO_28 := am (Kd.S_after (ok := (fun k_ => some k_ ≠ (u3 : Value).ownBlock)) zq58 hg hat); replace HL269_0 := am (Kd.R_after (ok := (fun k_ => some k_ ≠ (u3 : Value).ownBlock ∧ some k_ ≠ (.slice (some ad269) t266.length co13 : Value).ownBlock)) zq46 hg hat); replace HB := am (hb); clear HO272; clear ho hb hg hat; obtain ⟨Ao23, co23, eo23⟩ := Kd.R_slice HO275.out; subst eo23) | ((with_reducible refine gate_builtin (b := .append) (xs := #[.tmp 34, .tmp 39]) rfl ?_); at_builtin; refine Kd.S_append (Kd.slice 3 (Kd.int .i64)) (w0 := w) w.heap.size rfl (.tmp 34) (.tmp 39) 53 24 (.slice none 0 0) 24 rfl Try.underlying53 info24 rfl zq36 zq62 u3 x3_2 y273 [.slice Ao23 y273.length co23] (fun k_ => some k_ ≠ (.slice (some ad269) t266.length co13 : Value).ownBlock) (fun k_ => some k_ = (.slice Ao23 y273.length co23 : Value).ownBlock) rfl rfl ?aP (fun k_ hk_ => ((Kd.R_mono (ok' := fun k_ => ((fun k_ => some k_ ≠ (.slice (some ad269) t266.length co13 : Value).ownBlock)) k_ ∧ some k_ ≠ (u3 : Value).ownBlock) (Kd.R_apart' (Kd.R_apart' (HO275.out) (Kd.S_typed HO_28.out) zq36) (Kd.S_typed HO_3.out) zq36) (fun k_ hk => ⟨hk.1.2, hk.2⟩))).1 k_ hk_.symm) ?aF ?aO ?aB ?aS ?aL ?_; (case aP => exact zq71); (case aB => exact (pBq3 HB)); (case aF => exact (fun k_ hk => Kd.fresh' (Kd.S_lt zq58) k_ hk)); (case aO => exact zq121); (case aS => exact (below_size (pBq3 HB))); (case aL => have := LMc18.out; omega); intro v277 w22 ho hb hg hat; rw [← Ny276.out] at ho; have HO278 := am (ho); replace HO_28 := am (Kd.S_after (ok := (fun k_ => some k_ ≠ (.slice Ao23 y273.length co23 : Value).ownBlock)) zq128 hg hat); replace HL269_0 := am (Kd.R_after (ok := (fun k_ => some k_ ≠ (.slice (some ad269) t266.length co13 : Value).ownBlock ∧ some k_ ≠ (.slice Ao23 y273.length co23 : Value).ownBlock)) zq120 hg hat); replace HB := am (hb); clear HO_3 HO275; clear ho hb hg hat)); try go_wp2_with (first | ((with_reducible refine gate_dst (N := 36) rfl ?_); refine Kd.R_lit (Kd.int .i64) _ 3 ?hg (N := 36) ?hd (xs := ([x5_1] : List Int)) (inner := [.int .i64 x5_1]) (ok := fun _ => True) (okp := fun _ => True) ?hr ?hp (fun _ hk => hk) trivial (Below.refl _ _) (Nat.le_refl _) zq66 ?_; (case hd => rfl); (case hg => rfl); (case hr => exact zq53); (case hp => exact zq161); intro v271 w19 ho20 hb hg_ hnew_; clear hg_ hnew_; (first | rw [← Ny270.out] at ho20 | (simp only [Int.reduceToNat] at ho20; rw [← Ny270.out] at ho20)); have HO272 := am (Kd.R_lower (Kd.R_new' ho20 (Kd.R_lt zq46)) (below_size (pBq3 HB))); replace HO_3 := am (Kd.S_elder' zq18 (Kd.R_base ho20) hb); replace HO_28 := am (Kd.S_elder' zq58 (Kd.R_base ho20) hb); replace HL269_0 := am (Kd.R_elder' zq46 (Kd.R_base ho20) hb); replace HR269_0 := am (Kd.C_below zq51 hb); replace HB := am (below_step (pBq3 HB) hb); clear hb ho20) | ((with_reducible refine gate_builtin (b := .append) (xs := #[.tmp 36, .tmp 37]) rfl ?_); at_builtin; refine Kd.R_append_rows (Kd.int .i64) (w0 := w) w.heap.size rfl (.tmp 36) (.tmp 37) 24 3 (.int .i64 0) 8 rfl Try.underlying24 info3 rfl zq36 zq62 v271 y270 (rd_L2 t266 x30_2) _ _ _ (fun k_ => some k_ ≠ (.slice A269_0 (rd_L2 t266 x30_2).length c269_0 : Value).ownBlock) (fun _ => False) rfl rfl ?aO ?aR (fun _ _ h => h) (fun _ h => h.elim) ?aF ?aB ?aS ?aL ?_; (case aR => exact zq130); (case aB => exact (pBq3 HB)); (case aF => exact (fun k_ hk => Kd.fresh' (Kd.R_lt zq46) k_ hk)); (case aO => exact zq131); (case aS => exact (below_size (pBq3 HB))); (case aL => have := LMc17.out; omega); intro v274 w21 ho hb hg hat; rw [← Ny273.out] at ho; have HO275 := am (ho); replace HO_3 := am (Kd.S_after (ok := (fun k_ => some k_ ≠ (.slice (some ad269) t266.length co13 : Value).ownBlock)) zq18 hg hat); replace HO_28 := am (Kd.S_after (ok := (fun k_ => some k_ ≠ (u3 : Value).ownBlock)) zq58 hg hat); replace HL269_0 := am (Kd.R_after (ok := (fun k_ => some k_ ≠ (u3 : Value).ownBlock ∧ some k_ ≠ (.slice (some ad269) t266.length co13 : Value).ownBlock)) zq46 hg hat); replace HB := am (hb); clear HO272; clear ho hb hg hat; obtain ⟨Ao23, co23, eo23⟩ := Kd.R_slice HO275.out; subst eo23) | ((with_reducible refine gate_builtin (b := .append) (xs := #[.tmp 34, .tmp 39]) rfl ?_); at_builtin; refine Kd.S_append (Kd.slice 3 (Kd.int .i64)) (w0 := w) w.heap.size rfl (.tmp 34) (.tmp 39) 53 24 (.slice none 0 0) 24 rfl Try.underlying53 info24 rfl zq36 zq62 u3 x3_2 y273 [.slice Ao23 y273.length co23] (fun k_ => some k_ ≠ (.slice (some ad269) t266.length co13 : Value).ownBlock) (fun k_ => some k_ = (.slice Ao23 y273.length co23 : Value).ownBlock) rfl rfl ?aP (fun k_ hk_ => ((Kd.R_mono (ok' := fun k_ => ((fun k_ => some k_ ≠ (.slice (some ad269) t266.length co13 : Value).ownBlock)) k_ ∧ some k_ ≠ (u3 : Value).ownBlock) (Kd.R_apart' (Kd.R_apart' (HO275.out) (Kd.S_typed HO_28.out) zq36) (Kd.S_typed HO_3.out) zq36) (fun k_ hk => ⟨hk.1.2, hk.2⟩))).1 k_ hk_.symm) ?aF ?aO ?aB ?aS ?aL ?_; (case aP => exact zq71); (case aB => exact (pBq3 HB)); (case aF => exact (fun k_ hk => Kd.fresh' (Kd.S_lt zq58) k_ hk)); (case aO => exact zq121); (case aS => exact (below_size (pBq3 HB))); (case aL => have := LMc18.out; omega); intro v277 w22 ho hb hg hat; rw [← Ny276.out] at ho; have HO278 := am (ho); replace HO_28 := am (Kd.S_after (ok := (fun k_ => some k_ ≠ (.slice Ao23 y273.length co23 : Value).ownBlock)) zq128 hg hat); replace HL269_0 := am (Kd.R_after (ok := (fun k_ => some k_ ≠ (.slice (some ad269) t266.length co13 : Value).ownBlock ∧ some k_ ≠ (.slice Ao23 y273.length co23 : Value).ownBlock)) zq120 hg hat); replace HB := am (hb); clear HO_3 HO275; clear ho hb hg hat)))
               go_roundg k2
               case measure => have := HK1.out; have := HK2.out; omega
               case rel => exact ⟨(y276), (wrap64 (x30_2 + 1)), zq13, H', ⟨zq76⟩, ⟨by (with_reducible repeat (first | apply Kd.S_alloc | apply Kd.S_drewN | apply Kd.S_drew)); exact HO278.out⟩, ⟨by (with_reducible repeat (first | apply Kd.S_alloc | apply Kd.S_drewN | apply Kd.S_drew)); exact Kd.S_mono HO_28.out (fun _ hk => hk.2)⟩, ⟨zq12⟩⟩
              ·rw [if_neg c18] at H
               exact absurd H zq66
             ·rw [if_neg c17] at H
              exact absurd H zq66
            ·rw [if_neg c16] at H
             exact absurd H zq66
           ·rw [if_neg c15] at H
            exact absurd H zq66
          ·rw [if_neg c14] at H
           have c14b0 : decide (x30_2 < (t266.length : Int)) = false := decide_eq_false c14
           clear c14
           have H' := am H
           clear H
           go_wp2
           repeat (go_quiet (fail); try go_wp2)
           go_roundg k2
           case measure => have := HK1.out; have := HK2.out; omega
           case rel => exact ⟨(x3_2), (false), (wrap64 (x5_1 + 1)), zq13, zq13, H', ⟨zq76⟩, ⟨by (with_reducible repeat (first | apply Kd.S_alloc | apply Kd.S_drewN | apply Kd.S_drew)); exact Kd.S_mono HO_3.out (fun _ hk => trivial)⟩, ⟨zq12⟩⟩
      ·rw [if_neg c6] at H
       exact absurd H zq66
     ·rw [if_neg c4] at H
      exact absurd H zq66
    ·rw [if_neg c3] at H
     exact absurd H zq66
   ·rw [if_neg c2] at H
    have c2b0 : decide ((wrap64 (x5_1 + 1)) < (l0.length : Int)) = false := decide_eq_false c2
    clear c2
    by_cases c24 : x4_1 = true
    ·subst c24
     rw [if_pos rfl] at H
     obtain ⟨y258, hy258⟩ : ∃ y_ : List (List Int), y_ = (([[]] : List (List Int))) := ⟨_, rfl⟩
     replace H : (some y258) = some r := by first | (rw [hy258]; exact zH) | exact zH
     have Ny258 := am hy258
     clear hy258
     obtain rfl := Option.some.inj H
     go_wp2_with (first | ((with_reducible refine gate_dst (N := 43) rfl ?_); refine Kd.S_lit (Kd.slice 3 (Kd.int .i64)) _ 24 ?hg (N := 43) ?hd (xs := ([[]] : List (List Int))) (inner := [.slice none 0 0]) (ok := fun _ => True) (okp := fun _ => True) ?hr ?hp (fun _ hk => hk) trivial (Below.refl _ _) (Nat.le_refl _) zq66 ?_; (case hd => rfl); (case hg => rfl); (case hr => exact zq53); (case hp => exact zq141); intro v259 w25 ho26 hb hg_ hnew_; clear hg_ hnew_; (first | rw [← Ny258.out] at ho26 | (simp only [Int.reduceToNat] at ho26; rw [← Ny258.out] at ho26)); have HO260 := am (Kd.S_lower (Kd.S_new' ho26 (Kd.S_lt zq18)) (below_size (pBq3 HB))); replace HO_3 := am (Kd.S_elder' zq18 (Kd.S_base ho26) hb); replace HB := am (below_step (pBq3 HB) hb); clear hb ho26))
     repeat (go_quiet (first | ((with_reducible refine gate_dst (N := 43) rfl ?_); refine Kd.S_lit (Kd.slice 3 (Kd.int .i64)) _ 24 ?hg (N := 43) ?hd (xs := ([[]] : List (List Int))) (inner := [.slice none 0 0]) (ok := fun _ => True) (okp := fun _ => True) ?hr ?hp (fun _ hk => hk) trivial (Below.refl _ _) (Nat.le_refl _) zq66 ?_; (case hd => rfl); (case hg => rfl); (case hr => exact zq53); (case hp => exact zq141); intro v259 w25 ho26 hb hg_ hnew_; clear hg_ hnew_; (first | rw [← Ny258.out] at ho26 | (simp only [Int.reduceToNat] at ho26; rw [← Ny258.out] at ho26)); have HO260 := am (Kd.S_lower (Kd.S_new' ho26 (Kd.S_lt zq18)) (below_size (pBq3 HB))); replace HO_3 := am (Kd.S_elder' zq18 (Kd.S_base ho26) hb); replace HB := am (below_step (pBq3 HB) hb); clear hb ho26)); try go_wp2_with (first | ((with_reducible refine gate_dst (N := 43) rfl ?_); refine Kd.S_lit (Kd.slice 3 (Kd.int .i64)) _ 24 ?hg (N := 43) ?hd (xs := ([[]] : List (List Int))) (inner := [.slice none 0 0]) (ok := fun _ => True) (okp := fun _ => True) ?hr ?hp (fun _ hk => hk) trivial (Below.refl _ _) (Nat.le_refl _) zq66 ?_; (case hd => rfl); (case hg => rfl); (case hr => exact zq53); (case hp => exact zq141); intro v259 w25 ho26 hb hg_ hnew_; clear hg_ hnew_; (first | rw [← Ny258.out] at ho26 | (simp only [Int.reduceToNat] at ho26; rw [← Ny258.out] at ho26)); have HO260 := am (Kd.S_lower (Kd.S_new' ho26 (Kd.S_lt zq18)) (below_size (pBq3 HB))); replace HO_3 := am (Kd.S_elder' zq18 (Kd.S_base ho26) hb); replace HB := am (below_step (pBq3 HB) hb); clear hb ho26)))
     go_ret
     exact ⟨_, zq11, by (with_reducible repeat (first | apply Kd.S_alloc | apply Kd.S_drewN | apply Kd.S_drew)); exact Kd.S_mono HO260.out (fun _ hk => trivial), zq12⟩
    ·replace c24 := Bool.eq_false_iff.mpr c24
     subst c24
     rw [if_neg (show ¬ (false = true) by decide)] at H
     obtain rfl := Option.some.inj H
     go_wp2
     repeat (go_quiet (fail); try go_wp2)
     go_ret
     exact ⟨_, zq11, zq18, zq12⟩
/-! ### spec_alAsked: function 29 -/
open Classical in
noncomputable def spec_alAsked.ev {α : Type} (g : Nat → Option α) : Option α := if h : ∃ k r, g k = some r then g h.choose else none
theorem spec_alAsked.ev_some {α : Type} {g : Nat → Option α} {r : α} (h : spec_alAsked.ev g = some r) : ∃ k, g k = some r := by
 unfold spec_alAsked.ev at h
 split at h
 ·exact ⟨_, h⟩
 ·cases h
noncomputable def spec_alAsked.f (l0 : List Int) : Option ((List (List Int)) × Bool) := (spec_alAsked.ev fun k => spec_alGood.f k l0).bind fun t => if t = true then (if l0.length ≤ 8 then (spec_alCounter_count.f (spec_alNew.fc l0.length) l0).bind fun r => if r > 800 then some ([], false) else (spec_alAsked.ev fun k => spec_alList.f k l0).bind fun x => some (x, true) else none) else some ([], false)
theorem spec_alAsked.calls (A0 : Option Addr) (c0 : Nat) (l0 : List Int) (r1 : List (List Int)) (r2 : Bool) (w : World) (hr0 : Kd.C (Kd.int .i64) w A0 l0.length l0) (hc0 : l0.length ≤ c0) (h : spec_alAsked.f l0 = some (r1, r2)) :
  Calls Try.prog 29 #[.slice A0 l0.length c0] w fun e w' => ∃ v0_ : Value, e = .returned (.tuple #[v0_, .bool r2]) ∧ Kd.S (Kd.slice 3 (Kd.int .i64)) 24 w' w.heap.size (fun _ => True) v0_ r1 ∧ Below w.heap.size w w' := by
 have HR0 := am hr0
 have HC0 := am hc0
 clear hr0 hc0
 unfold spec_alAsked.f at h
 obtain ⟨t, ht, h⟩ := Option.bind_eq_some_iff.1 h
 obtain ⟨kt, ht⟩ := spec_alAsked.ev_some ht
 have HT := am ht
 clear ht
 cases t with
 | false =>
  rw [if_neg zq36] at h
  simp only [Option.some.injEq, Prod.mk.injEq] at h
  obtain ⟨rfl, rfl⟩ := h
  go_enter Try.func29, Try.ntmps29
  go_wp2_with (go_at_call 33; (with_reducible refine (spec_alGood.calls kt _ _ l0 false _ ?side1 HC0.out HT.out).mono ?_); (case side1 => exact HR0.out); rintro e w' ⟨rfl, ⟨nd, rfl⟩⟩)
  go_ret2
  exact ⟨_, rfl, Kd.S_nil _ _ _ _ _, pw_below_drewN (Below.refl _ _) nd⟩
 | true =>
  rw [if_pos rfl] at h
  split at h
  ·rename_i h8
   obtain ⟨r, hr, h⟩ := Option.bind_eq_some_iff.1 h
   have HRR := am (show spec_alCounter_count.g (spec_alNew.fc l0.length) l0.length 16 l0 = some r from hr)
   have H8 := am h8
   clear hr h8
   by_cases c : r > 800
   ·rw [if_pos c] at h
    simp only [Option.some.injEq, Prod.mk.injEq] at h
    obtain ⟨rfl, rfl⟩ := h
    have cb : decide (800 < r) = true := decide_eq_true c
    go_enter Try.func29, Try.ntmps29
    go_wp2_with (first | (go_at_call 33; (with_reducible refine (spec_alGood.calls kt _ _ l0 true _ ?side1 HC0.out HT.out).mono ?_); (case side1 => exact HR0.out); rintro e w' ⟨rfl, ⟨nd, rfl⟩⟩) | (go_at_call 34; (refine (spec_alNew.calls l0.length H8.out _).mono ?_); rintro e w2 ⟨v2, rfl, hm, hb⟩; obtain ⟨B, G, rfl, hB, hG, hM⟩ := spec_alCounter_count.Mem.made hm; have HB2 := am (below_step (w := w) zq56 hb); have HM2 := am (hM.lower (base' := w.heap.size) (Nat.le_refl _)); have HG2 := am (show w.heap.size ≤ G from hG); clear hm hb hB hG hM) | (go_at_call 35; (with_reducible refine (spec_alCounter_count.calls_g _ _ 16 B G _ _ l0 r w _ ?side1 ?side2 ?side3 HC0.out HRR.out).mono ?_); (case side1 => exact HB2.out); (case side2 => exact HM2.out); (case side3 => exact zq158); rintro e w3 ⟨rfl, hm3, hb3, hk3⟩; have HB3 := am hb3; clear hm3 hb3 hk3))
    go_ret2
    exact ⟨_, rfl, Kd.S_nil _ _ _ _ _, HB3.out⟩
   ·rw [if_neg c] at h
    obtain ⟨x, hx, h⟩ := Option.bind_eq_some_iff.1 h
    simp only [Option.some.injEq, Prod.mk.injEq] at h
    obtain ⟨rfl, rfl⟩ := h
    obtain ⟨kx, hx⟩ := spec_alAsked.ev_some hx
    have HX := am hx
    clear hx
    have cb : decide (800 < r) = false := decide_eq_false c
    go_enter Try.func29, Try.ntmps29
    go_wp2_with (first | (go_at_call 33; (with_reducible refine (spec_alGood.calls kt _ _ l0 true _ ?side1 HC0.out HT.out).mono ?_); (case side1 => exact HR0.out); rintro e w' ⟨rfl, ⟨nd, rfl⟩⟩) | (go_at_call 34; (refine (spec_alNew.calls l0.length H8.out _).mono ?_); rintro e w2 ⟨v2, rfl, hm, hb⟩; obtain ⟨B, G, rfl, hB, hG, hM⟩ := spec_alCounter_count.Mem.made hm; have HB2 := am (below_step (w := w) zq56 hb); have HM2 := am (hM.lower (base' := w.heap.size) (Nat.le_refl _)); have HG2 := am (show w.heap.size ≤ G from hG); clear hm hb hB hG hM) | (go_at_call 35; (with_reducible refine (spec_alCounter_count.calls_g _ _ 16 B G _ _ l0 r w _ ?side1 ?side2 ?side3 HC0.out HRR.out).mono ?_); (case side1 => exact HB2.out); (case side2 => exact HM2.out); (case side3 => exact zq158); rintro e w3 ⟨rfl, hm3, hb3, hk3⟩; have HB3 := am hb3; clear hm3 hb3 hk3) | (go_at_call 58; (with_reducible refine (spec_alList.calls kx _ _ l0 x _ ?side1 HC0.out HX.out).mono ?_); (case side1 => exact Kd.C_below HR0.out HB3.out); rintro e w4 ⟨v4, rfl, hr4, hb4⟩; have HR4 := am (Kd.S_lower hr4 HB3.out.size); have HB4 := am (below_step HB3.out hb4); clear hr4 hb4))
    go_ret2
    exact ⟨_, rfl, HR4.out, HB4.out⟩
  ·cases h
/-! ### spec_alLadders: function 30 -/
def spec_alLadders.l0 : Nat → Int → List (S34) → List (List Int) → Int → Int → Option ((List (S34)))
 | 0, _, _, _, _, _ => none
 | k + 1, x0, x5, x8, x9, x10 => if x10 < x9 then (if 0 ≤ x10 then (if x10 < (x8.length : Int) then (if x5.length < 4398046511104 then (spec_alLadders.l0 k x0 (x5 ++ [(⟨x0, rd_L2 x8 x10⟩ : S34)]) x8 x9 (wrap64 (x10 + 1))) else (none)) else (none)) else (none)) else (some x5)
def spec_alLadders.f (k : Nat) (a0 : Int) (l1 : List (List Int)) : Option ((List (S34))) := spec_alLadders.l0 k a0 ([] : List (S34)) l1 (l1.length : Int) 0
theorem spec_alLadders.mono_l : ∀ k, (∀ y0 y1 y2 y3 y4, LeO (spec_alLadders.l0 k y0 y1 y2 y3 y4) (spec_alLadders.l0 (k + 1) y0 y1 y2 y3 y4))
 | 0 => fun _ _ _ _ _ r h => by simp [spec_alLadders.l0] at h
 | k + 1 => by
  have ih0 := spec_alLadders.mono_l k
  ·intro y0 y1 y2 y3 y4
   unfold spec_alLadders.l0
   repeat' first | (with_reducible first | exact ih0 _ _ _ _ _ | exact LeO.refl _ | exact LeO.none _ | refine LeO.ite ?_ ?_ | refine LeO.bind ?_ (fun _ => ?_))
theorem spec_alLadders.mono : ∀ a0 a1 k, LeO (spec_alLadders.f k a0 a1) (spec_alLadders.f (k + 1) a0 a1) := by
 intro a0 a1 k
 have ih0 := spec_alLadders.mono_l k
 unfold spec_alLadders.f
 repeat' first | (with_reducible first | exact ih0 _ _ _ _ _ | exact LeO.refl _ | exact LeO.none _ | refine LeO.ite ?_ ?_ | refine LeO.bind ?_ (fun _ => ?_))
theorem spec_alLadders.calls (k : Nat) (a0 : Int) (P1_ : Nat → Prop) (A1 : Option Addr) (c1 : Nat) (l1 : List (List Int)) (r : List (S34)) (w : World) (hs1 : Kd.V (Kd.slice 3 (Kd.int .i64)) 24 w w.heap.size (fun k_ => P1_ k_) (.slice A1 l1.length c1) l1) (h : spec_alLadders.f k a0 l1 = some r) :
  Calls Try.prog 30 #[.int .i64 a0, .slice A1 l1.length c1] w fun e w' => ∃ v0_ : Value, e = .returned (v0_) ∧ Kd.N k34 34 w' w.heap.size (fun k_ => (P1_ k_ ∨ w.heap.size ≤ k_)) v0_ r ∧ Below w.heap.size w w' := by
 have hu34 := Try.underlying34
 have HO1 := am (show Kd.V (Kd.slice 3 (Kd.int .i64)) 24 w w.heap.size (fun k_ => (P1_ k_ ∨ w.heap.size ≤ k_)) (.slice A1 l1.length c1) l1 from Kd.V_mono hs1 (fun k_ hk => .inl hk))
 have HB := am (Below.refl w.heap.size w)
 have H : (spec_alLadders.l0 k a0 ([] : List (S34)) l1 (l1.length : Int) 0) = some r := h
 clear h
 have H' := am H
 clear H
 go_enter Try.func30, Try.ntmps30
 go_wp2
 go_loopg [5, 10] k (fun kq v5 v10 w' => ∃ (x5_1 : List (S34)) (x10_1 : Int), v10 = .int .i64 x10_1 ∧ Aside0 (spec_alLadders.l0 kq a0 x5_1 l1 (l1.length : Int) x10_1 = some r) ∧ Aside0 (kq ≤ k) ∧ Aside0 (Kd.N k34 34 w' w.heap.size (fun k_ => (P1_ k_ ∨ w.heap.size ≤ k_)) v5 x5_1) ∧ Aside0 (Kd.V (Kd.slice 3 (Kd.int .i64)) 24 w' w.heap.size (fun k_ => (P1_ k_ ∨ w.heap.size ≤ k_) ∧ some k_ ≠ (v5 : Value).ownBlock) (.slice A1 l1.length c1) l1) ∧ Aside0 (Below w.heap.size w w'))
 case atStart => exact ⟨(([] : List (S34))), (0), zq13, H', ⟨Nat.le_refl _⟩, ⟨zq107⟩, ⟨by (with_reducible repeat (first | apply Kd.V_alloc | apply Kd.V_drewN | apply Kd.V_drew)); exact Kd.V_mono HO1.out (fun _ hk => ⟨hk, zq176⟩)⟩, ⟨zq12⟩⟩
 case round =>
  clear H'
  try clear c1
  try clear p2
  obtain ⟨x5_1, x10_1, rfl, HA, HK1, HO_5, HO_8, HB⟩ := hrel
  cases gk with
  | zero => exact absurd HA.out (by simp [spec_alLadders.l0])
  | succ k1 =>
   have H := HA.out
   clear HA
   simp only [spec_alLadders.l0] at H
   by_cases c3 : x10_1 < (l1.length : Int)
   ·rw [if_pos c3] at H
    have c3b0 : decide (x10_1 < (l1.length : Int)) = true := decide_eq_true c3
    clear c3
    by_cases c4 : 0 ≤ x10_1
    ·rw [if_pos c4] at H
     have c4b0 : decide (0 ≤ x10_1) = true := decide_eq_true c4
     clear c4
     by_cases c5 : x10_1 < (l1.length : Int)
     ·rw [if_pos c5] at H
      have c5b0 : decide (x10_1 < (l1.length : Int)) = true := decide_eq_true c5
      clear c5
      by_cases c6 : x5_1.length < 4398046511104
      ·rw [if_pos c6] at H
       have LMc6 := am c6
       clear c6
       obtain ⟨y280, hy280⟩ : ∃ y_ : List (S34), y_ = (x5_1 ++ [(⟨a0, rd_L2 l1 x10_1⟩ : S34)]) := ⟨_, rfl⟩
       replace H : (spec_alLadders.l0 k1 a0 y280 l1 (l1.length : Int) (wrap64 (x10_1 + 1))) = some r := by first | (rw [hy280]; exact zH) | exact zH
       have Ny280 := am hy280
       clear hy280
       have H' := am H
       clear H
       have p279 : 0 ≤ (x10_1 : Int) := of_decide_eq_true zq9
       have q279 : x10_1 < (l1.length : Int) := of_decide_eq_true zq9
       obtain ⟨ad279, A279_0, c279_0, e279, hx279_0, hl279_0, hi279_0⟩ := at_L2 (Kd.V_reads' HO_8.out).2.2 x10_1 p279 q279
       cases e279
       obtain ⟨ce279, hce279, hMe279, hcc279⟩ := Kd.V_get HO_8.out [] x10_1 p279 (by first | exact q279 | exact of_decide_eq_true zq9 | (have e_ := (Kd.V_reads' HO_8.out).1; omega))
       obtain ⟨ua279_0, uc279_0, rfl, ul279_0, ge279_0⟩ := Kd.FK_slice_open hMe279
       have hv279_0 := hcc279 0 _ rfl
       rw [Nat.add_zero, show ((Kd.slice 3 (Kd.int .i64))).sz = 1 from rfl, Nat.mul_one] at hv279_0
       replace hv279_0 := Option.some.inj (hv279_0.symm.trans hx279_0)
       injection hv279_0 with hva_ hvn_ hvc_
       rw [hva_] at ge279_0
       rw [hvc_] at ul279_0
       have HL279_0 := am (show Kd.V (Kd.int .i64) 3 _ w.heap.size _ _ (rd_L2 l1 x10_1) from Kd.V_mk ul279_0 ge279_0)
       clear hva_ hvn_ hvc_ ge279_0 ul279_0
       clear hcc279 hce279
       have HR279_0 := am hi279_0
       have HC279_0 := am hl279_0
       clear hi279_0 hl279_0
       replace p279 := eq_true p279
       replace q279 := eq_true q279
       go_wp2_with (first | ((with_reducible refine gate_builtin (b := .append) (xs := #[.tmp 14, .tmp 18]) rfl ?_); at_builtin; refine Kd.N_append k34 (w0 := w) w.heap.size rfl (.tmp 14) (.tmp 18) 26 34 (.agg #[(.int .i64 0), (.slice none 0 0)]) 32 rfl Try.underlying26 info34 rfl zq36 zq62 u5 x5_1 (⟨a0, rd_L2 l1 x10_1⟩ : S34) [.int .i64 a0, .slice A279_0 (rd_L2 l1 x10_1).length c279_0] (fun k_ => (P1_ k_ ∨ w.heap.size ≤ k_)) (fun k_ => ((fun k_ => (P1_ k_ ∨ w.heap.size ≤ k_))) k_ ∧ some k_ ≠ (u5 : Value).ownBlock) rfl rfl ?aP (fun _ hk => hk) ?aF ?aO ?aB ?aS ?aL ?_; (case aP => exact (k34_mkF _ _ (⟨a0, rd_L2 l1 x10_1⟩ : S34) (Kd.V_reads' (Kd.V_mono (ok' := (fun k_ => ((fun k_ => (P1_ k_ ∨ w.heap.size ≤ k_))) k_ ∧ some k_ ≠ (u5 : Value).ownBlock)) (HL279_0.out) (fun k_ hk => ⟨hk.1, hk.2⟩))).2.1 (Kd.V_F (Kd.V_mono (ok' := (fun k_ => ((fun k_ => (P1_ k_ ∨ w.heap.size ≤ k_))) k_ ∧ some k_ ≠ (u5 : Value).ownBlock)) (HL279_0.out) (fun k_ hk => ⟨hk.1, hk.2⟩))))); (case aB => exact (pBq3 HB)); (case aF => exact (fun k_ hk => (.inr (Nat.le_trans (below_size (pBq3 HB)) hk)))); (case aO => exact (by (with_reducible repeat (first | apply Kd.N_alloc | apply Kd.N_drewN | apply Kd.N_drew)); exact HO_5.out)); (case aS => exact (below_size (pBq3 HB))); (case aL => have := LMc6.out; omega); intro v281 w7 ho hb hg hat; rw [← Ny280.out] at ho; have HO282 := am (ho); replace HO_8 := am (Kd.V_afterv (ok := (fun k_ => (P1_ k_ ∨ w.heap.size ≤ k_))) (by (with_reducible repeat (first | apply Kd.V_alloc | apply Kd.V_drewN | apply Kd.V_drew)); exact HO_8.out) hg hat); replace HL279_0 := am (Kd.V_afterv (ok := (fun k_ => (P1_ k_ ∨ w.heap.size ≤ k_))) (by (with_reducible repeat (first | apply Kd.V_alloc | apply Kd.V_drewN | apply Kd.V_drew)); exact HL279_0.out) hg hat); replace HB := am (hb); clear HO_5; clear ho hb hg hat))
       go_roundg k1
       case measure => have := HK1.out; omega
       case rel => exact ⟨(y280), (wrap64 (x10_1 + 1)), zq13, H', ⟨zq101⟩, ⟨by (with_reducible repeat (first | apply Kd.N_alloc | apply Kd.N_drewN | apply Kd.N_drew)); exact HO282.out⟩, ⟨by (with_reducible repeat (first | apply Kd.V_alloc | apply Kd.V_drewN | apply Kd.V_drew)); exact HO_8.out⟩, ⟨zq12⟩⟩
      ·rw [if_neg c6] at H
       exact absurd H zq66
     ·rw [if_neg c5] at H
      exact absurd H zq66
    ·rw [if_neg c4] at H
     exact absurd H zq66
   ·rw [if_neg c3] at H
    have c3b0 : decide (x10_1 < (l1.length : Int)) = false := decide_eq_false c3
    clear c3
    obtain rfl := Option.some.inj H
    go_wp2
    go_ret
    exact ⟨_, zq11, by (with_reducible repeat (first | apply Kd.N_alloc | apply Kd.N_drewN | apply Kd.N_drew)); exact HO_5.out, zq12⟩
/-! ### spec_AllLeast: function 7 -/
def spec_AllLeast.f (k : Nat) (l0 : List Int) : Option ((List (S34)) × Bool) := (spec_alAsked.f l0).bind fun bt283 => (if bt283.2 = true then ((spec_alLadders.f k (l0.length : Int) bt283.1).bind fun t287 => (some (t287, true))) else (some (([] : List (S34)), false)))
theorem spec_AllLeast.mono : ∀ a0 k, LeO (spec_AllLeast.f k a0) (spec_AllLeast.f (k + 1) a0) := by
 intro a0 k
 unfold spec_AllLeast.f
 repeat' first | (with_reducible first | exact spec_alLadders.mono _ _ _ | exact LeO.refl _ | exact LeO.none _ | refine LeO.ite ?_ ?_ | refine LeO.bind ?_ (fun _ => ?_))
theorem spec_AllLeast.calls (k : Nat) (A0 : Option Addr) (c0 : Nat) (l0 : List Int) (r1 : List (S34)) (r2 : Bool) (w : World) (hr0 : Kd.C (Kd.int .i64) w A0 l0.length l0) (hc0 : l0.length ≤ c0) (h : spec_AllLeast.f k l0 = some (r1, r2)) :
  Calls Try.prog 7 #[.slice A0 l0.length c0] w fun e w' => ∃ v0_ : Value, e = .returned (.tuple #[v0_, .bool r2]) ∧ Kd.N k34 34 w' w.heap.size (fun k_ => (w.heap.size ≤ k_)) v0_ r1 ∧ Below w.heap.size w w' := by
 have HR0 := am hr0
 have HC0 := am hc0
 clear hr0 hc0
 have HB := am (Below.refl w.heap.size w)
 have H : ((spec_alAsked.f l0).bind fun bt283 => (if bt283.2 = true then ((spec_alLadders.f k (l0.length : Int) bt283.1).bind fun t287 => (some (t287, true))) else (some (([] : List (S34)), false)))) = some (r1, r2) := h
 clear h
 replace H := Option.bind_eq_some_iff.mp H
 obtain ⟨⟨t283, t284⟩, A20, H⟩ := H
 (try dsimp only at H)
 have A2 := am A20
 clear A20
 by_cases c3 : t284 = true
 ·subst c3
  rw [if_pos rfl] at H
  obtain ⟨t287, A4, H⟩ := zS H
  (try dsimp only at H)
  simp only [Option.some.injEq, Prod.mk.injEq] at H
  obtain ⟨rfl, rfl⟩ := H
  go_enter Try.func7, Try.ntmps7
  go_wp2_with (first | ((with_reducible refine gate_callee (f := 29) rfl ?_); refine goesL_ (some 8) rfl rfl Try.func29 zq26 rfl #[.slice A0 l0.length c0] rfl zq1 ?_; (with_reducible refine (spec_alAsked.calls _ _ l0 t283 true _ ?side1 ?side2 A2.out).mono ?_); (case side1 => exact zq25); (case side2 => exact HC0.out); rintro e w5 ⟨v285, rfl, ho0, hb⟩; refine ⟨_, rfl, ?_⟩; have HO286 := am (Kd.N_lower (Kd.N_mono (ok' := fun k_ => (w.heap.size ≤ k_)) (Kd.S_N (Kd.S_bound ho0)) (fun k_ hk_ => (Nat.le_trans (below_size (pBq3 HB)) hk_.2.1))) (below_size (pBq3 HB))); replace HB := am (below_step (pBq3 HB) hb); (try clear hb ho0); obtain ⟨Ao6, co6, eo6⟩ := Kd.N_slice HO286.out; subst eo6) | ((with_reducible refine gate_callee (f := 30) rfl ?_); refine goesL_ (some 16) rfl rfl Try.func30 zq26 rfl #[.int .i64 (l0.length : Int), .slice Ao6 t283.length co6] rfl zq1 ?_; (with_reducible refine (spec_alLadders.calls k (l0.length : Int) (fun k_ => (w.heap.size ≤ k_)) _ _ t283 t287 _ ?side1 A4.out).mono ?_); (case side1 => exact Kd.N_V (HO286.out)); rintro e w7 ⟨v288, rfl, ho0, hb⟩; refine ⟨_, rfl, ?_⟩; have HO289 := am (Kd.N_lower (Kd.N_mono (ok' := fun k_ => (w.heap.size ≤ k_)) ho0 (fun k_ hk_ => Or.elim hk_ (fun hs_ => hs_) (fun hn_ => (Nat.le_trans (below_size (pBq3 HB)) hn_)))) (below_size (pBq3 HB))); replace HO286 := am (Kd.N_elder' (by (with_reducible repeat (first | apply Kd.N_alloc | apply Kd.N_drewN | apply Kd.N_drew)); exact HO286.out) (Kd.N_base ho0) hb); replace HB := am (below_step (pBq3 HB) hb); (try clear hb ho0)))
  go_ret2
  exact ⟨_, zq11, by (with_reducible repeat (first | apply Kd.N_alloc | apply Kd.N_drewN | apply Kd.N_drew)); exact HO289.out, zq12⟩
 ·replace c3 := Bool.eq_false_iff.mpr c3
  subst c3
  rw [if_neg (show ¬ (false = true) by decide)] at H
  simp only [Option.some.injEq, Prod.mk.injEq] at H
  obtain ⟨rfl, rfl⟩ := H
  go_enter Try.func7, Try.ntmps7
  go_wp2_with (first | ((with_reducible refine gate_callee (f := 29) rfl ?_); refine goesL_ (some 8) rfl rfl Try.func29 zq26 rfl #[.slice A0 l0.length c0] rfl zq1 ?_; (with_reducible refine (spec_alAsked.calls _ _ l0 t283 false _ ?side1 ?side2 A2.out).mono ?_); (case side1 => exact zq25); (case side2 => exact HC0.out); rintro e w8 ⟨v285, rfl, ho0, hb⟩; refine ⟨_, rfl, ?_⟩; have HO286 := am (Kd.N_lower (Kd.N_mono (ok' := fun k_ => (w.heap.size ≤ k_)) (Kd.S_N (Kd.S_bound ho0)) (fun k_ hk_ => (Nat.le_trans (below_size (pBq3 HB)) hk_.2.1))) (below_size (pBq3 HB))); replace HB := am (below_step (pBq3 HB) hb); (try clear hb ho0)))
  go_ret2
  exact ⟨_, zq11, zq107, zq12⟩
/-! ### impl_CountLeast: function 8 -/
open Classical in
noncomputable def impl_CountLeast.ev {α : Type} (g : Nat → Option α) : Option α := if h : ∃ k r, g k = some r then g h.choose else none
theorem impl_CountLeast.ev_some {α : Type} {g : Nat → Option α} {r : α} (h : impl_CountLeast.ev g = some r) : ∃ k, g k = some r := by
 unfold impl_CountLeast.ev at h
 split at h
 ·exact ⟨_, h⟩
 ·cases h
noncomputable def impl_CountLeast.f (l0 : List Int) : Option (Int × Bool) := (impl_CountLeast.ev fun k => impl_isCounted.f k l0).bind fun t => if t = true then (impl_counter_count.f l0).bind fun r => some (r, true) else some (0, false)
theorem impl_CountLeast.calls (A0 : Option Addr) (c0 : Nat) (l0 : List Int) (r1 : Int) (r2 : Bool) (w : World) (hr0 : Kd.C (Kd.int .i64) w A0 l0.length l0) (hc0 : l0.length ≤ c0) (h : impl_CountLeast.f l0 = some (r1, r2)) :
  Calls Try.prog 8 #[.slice A0 l0.length c0] w fun e w' => e = .returned (.tuple #[.int .i64 r1, .bool r2]) ∧ Below w.heap.size w w' := by
 have HR0 := am hr0
 have HC0 := am hc0
 clear hr0 hc0
 unfold impl_CountLeast.f at h
 obtain ⟨t, ht, h⟩ := Option.bind_eq_some_iff.1 h
 obtain ⟨kt, ht⟩ := impl_CountLeast.ev_some ht
 have HT := am ht
 clear ht
 cases t with
 | false =>
  rw [if_neg zq36] at h
  simp only [Option.some.injEq, Prod.mk.injEq] at h
  obtain ⟨rfl, rfl⟩ := h
  go_enter Try.func8, Try.ntmps8
  go_wp2_with (go_at_call 31; (with_reducible refine (impl_isCounted.calls kt _ _ l0 false _ ?side1 HC0.out HT.out).mono ?_); (case side1 => exact HR0.out); rintro e w' ⟨rfl, ⟨nd, rfl⟩⟩)
  go_ret2
  exact ⟨rfl, pw_below_drewN (Below.refl _ _) nd⟩
 | true =>
  rw [if_pos rfl] at h
  obtain ⟨r, hr, h⟩ := Option.bind_eq_some_iff.1 h
  simp only [Option.some.injEq, Prod.mk.injEq] at h
  obtain ⟨rfl, rfl⟩ := h
  have HRR := am hr
  clear hr
  have hmm := @run_makeMap Try.prog
  go_enter Try.func8, Try.ntmps8
  go_wp2_with (first | (go_at_call 31; (with_reducible refine (impl_isCounted.calls kt _ _ l0 true _ ?side1 HC0.out HT.out).mono ?_); (case side1 => exact HR0.out); rintro e w' ⟨rfl, ⟨nd, rfl⟩⟩) | (go_at_call 32; (with_reducible refine (impl_counter_count.calls w.heap.size 0 _ _ l0 r w _ ?side1 (Nat.le_refl _) ?side2 zq36 ?side3 HC0.out HRR.out).mono ?_); (case side1 => exact zq22); (case side2 => exact impl_counter_count.Mem.made _); (case side3 => exact zq154); rintro e w3 ⟨rfl, hm3, hb3, hk3⟩; have HB3 := am hb3; clear hm3 hb3 hk3))
  go_ret2
  exact ⟨rfl, HB3.out⟩
/-! ### spec_CountLeast: function 9 -/
open Classical in
noncomputable def spec_CountLeast.ev {α : Type} (g : Nat → Option α) : Option α := if h : ∃ k r, g k = some r then g h.choose else none
theorem spec_CountLeast.ev_some {α : Type} {g : Nat → Option α} {r : α} (h : spec_CountLeast.ev g = some r) : ∃ k, g k = some r := by
 unfold spec_CountLeast.ev at h
 split at h
 ·exact ⟨_, h⟩
 ·cases h
noncomputable def spec_CountLeast.f (l0 : List Int) : Option (Int × Bool) := (spec_CountLeast.ev fun k => spec_alGood.f k l0).bind fun t => if t = true then (if l0.length ≤ 8 then (spec_alCounter_count.f (spec_alNew.fc l0.length) l0).bind fun r => some (r, true) else none) else some (0, false)
theorem spec_CountLeast.calls (A0 : Option Addr) (c0 : Nat) (l0 : List Int) (r1 : Int) (r2 : Bool) (w : World) (hr0 : Kd.C (Kd.int .i64) w A0 l0.length l0) (hc0 : l0.length ≤ c0) (h : spec_CountLeast.f l0 = some (r1, r2)) :
  Calls Try.prog 9 #[.slice A0 l0.length c0] w fun e w' => e = .returned (.tuple #[.int .i64 r1, .bool r2]) ∧ Below w.heap.size w w' := by
 have HR0 := am hr0
 have HC0 := am hc0
 clear hr0 hc0
 unfold spec_CountLeast.f at h
 obtain ⟨t, ht, h⟩ := Option.bind_eq_some_iff.1 h
 obtain ⟨kt, ht⟩ := spec_CountLeast.ev_some ht
 have HT := am ht
 clear ht
 cases t with
 | false =>
  rw [if_neg zq36] at h
  simp only [Option.some.injEq, Prod.mk.injEq] at h
  obtain ⟨rfl, rfl⟩ := h
  go_enter Try.func9, Try.ntmps9
  go_wp2_with (go_at_call 33; (with_reducible refine (spec_alGood.calls kt _ _ l0 false _ ?side1 HC0.out HT.out).mono ?_); (case side1 => exact HR0.out); rintro e w' ⟨rfl, ⟨nd, rfl⟩⟩)
  go_ret2
  exact ⟨rfl, pw_below_drewN (Below.refl _ _) nd⟩
 | true =>
  rw [if_pos rfl] at h
  split at h
  ·rename_i h8
   obtain ⟨r, hr, h⟩ := Option.bind_eq_some_iff.1 h
   simp only [Option.some.injEq, Prod.mk.injEq] at h
   obtain ⟨rfl, rfl⟩ := h
   have HRR := am (show spec_alCounter_count.g (spec_alNew.fc l0.length) l0.length 16 l0 = some r from hr)
   have H8 := am h8
   clear hr h8
   go_enter Try.func9, Try.ntmps9
   go_wp2_with (first | (go_at_call 33; (with_reducible refine (spec_alGood.calls kt _ _ l0 true _ ?side1 HC0.out HT.out).mono ?_); (case side1 => exact HR0.out); rintro e w' ⟨rfl, ⟨nd, rfl⟩⟩) | (go_at_call 34; (refine (spec_alNew.calls l0.length H8.out _).mono ?_); rintro e w2 ⟨v2, rfl, hm, hb⟩; obtain ⟨B, G, rfl, hB, hG, hM⟩ := spec_alCounter_count.Mem.made hm; have HB2 := am (below_step (w := w) zq56 hb); have HM2 := am (hM.lower (base' := w.heap.size) (Nat.le_refl _)); have HG2 := am (show w.heap.size ≤ G from hG); clear hm hb hB hG hM) | (go_at_call 35; (with_reducible refine (spec_alCounter_count.calls_g _ _ 16 B G _ _ l0 r w _ ?side1 ?side2 ?side3 HC0.out HRR.out).mono ?_); (case side1 => exact HB2.out); (case side2 => exact HM2.out); (case side3 => exact zq158); rintro e w3 ⟨rfl, hm3, hb3, hk3⟩; have HB3 := am hb3; clear hm3 hb3 hk3))
   go_ret2
   exact ⟨rfl, HB3.out⟩
  ·cases h
/-! ### laws_nSame: function 14 -/
def laws_nSame.l0 : Nat → List Int → List Int → Int → Int → Option (Bool)
 | 0, _, _, _, _ => none
 | k + 1, x0, x1, x12, x13 => if x13 < x12 then (if 0 ≤ x13 then (if x13 < (x0.length : Int) then (if x13 < (x1.length : Int) then (if (rd x0 x13) = (rd x1 x13) then (laws_nSame.l0 k x0 x1 x12 (wrap64 (x13 + 1))) else (some false)) else (none)) else (none)) else (none)) else (some true)
def laws_nSame.f (k : Nat) (l0 : List Int) (l1 : List Int) : Option (Bool) := if (l0.length : Int) = (l1.length : Int) then (laws_nSame.l0 k l0 l1 (l0.length : Int) 0) else (some false)
theorem laws_nSame.mono_l : ∀ k, (∀ y0 y1 y2 y3, LeO (laws_nSame.l0 k y0 y1 y2 y3) (laws_nSame.l0 (k + 1) y0 y1 y2 y3))
 | 0 => fun _ _ _ _ r h => by simp [laws_nSame.l0] at h
 | k + 1 => by
  have ih0 := laws_nSame.mono_l k
  ·intro y0 y1 y2 y3
   unfold laws_nSame.l0
   repeat' first | (with_reducible first | exact ih0 _ _ _ _ | exact LeO.refl _ | exact LeO.none _ | refine LeO.ite ?_ ?_ | refine LeO.bind ?_ (fun _ => ?_))
theorem laws_nSame.mono : ∀ a0 a1 k, LeO (laws_nSame.f k a0 a1) (laws_nSame.f (k + 1) a0 a1) := by
 intro a0 a1 k
 have ih0 := laws_nSame.mono_l k
 unfold laws_nSame.f
 repeat' first | (with_reducible first | exact ih0 _ _ _ _ | exact LeO.refl _ | exact LeO.none _ | refine LeO.ite ?_ ?_ | refine LeO.bind ?_ (fun _ => ?_))
theorem laws_nSame.calls (k : Nat) (A0 : Option Addr) (c0 : Nat) (l0 : List Int) (A1 : Option Addr) (c1 : Nat) (l1 : List Int) (r : Bool) (w : World) (hr0 : Kd.C (Kd.int .i64) w A0 l0.length l0) (hc0 : l0.length ≤ c0) (hr1 : Kd.C (Kd.int .i64) w A1 l1.length l1) (hc1 : l1.length ≤ c1) (h : laws_nSame.f k l0 l1 = some r) :
  Calls Try.prog 14 #[.slice A0 l0.length c0, .slice A1 l1.length c1] w fun e w' => e = .returned (.bool r) ∧ Drawn0 w w' := by
 have HR0 := am hr0
 have HC0 := am hc0
 clear hr0 hc0
 have HR1 := am hr1
 have HC1 := am hc1
 clear hr1 hc1
 have H : (if (l0.length : Int) = (l1.length : Int) then (laws_nSame.l0 k l0 l1 (l0.length : Int) 0) else (some false)) = some r := h
 clear h
 by_cases c3 : (l0.length : Int) = (l1.length : Int)
 ·rw [if_pos c3] at H
  have c3b0 : ((l0.length : Int) == (l1.length : Int)) = true := beq_iff_eq.mpr c3
  have c3b1 : ((l0.length : Int) != (l1.length : Int)) = false := bne_eq_false_iff_eq.mpr c3
  have c3b2 : (l0.length == l1.length) = true := zq175
  clear c3
  have H' := am H
  clear H
  go_enter Try.func14, Try.ntmps14
  go_wp2
  repeat (go_quiet (fail); try go_wp2)
  go_loopg [13] k (fun kq v13 w' => ∃ (x13_1 : Int), v13 = .int .i64 x13_1 ∧ Aside0 (laws_nSame.l0 kq l0 l1 (l0.length : Int) x13_1 = some r) ∧ Aside0 (kq ≤ k) ∧ Drawn0 w w')
  case atStart => exact ⟨(0), zq13, H', ⟨Nat.le_refl _⟩, zq20⟩
  case round =>
   clear H'
   try clear c1
   try clear p2
   try clear c3
   try clear c3b0
   try clear c3b1
   try clear c3b2
   obtain ⟨x13_1, rfl, HA, HK1, ⟨m1, rfl⟩⟩ := hrel
   cases gk with
   | zero => exact absurd HA.out (by simp [laws_nSame.l0])
   | succ k1 =>
    have H := HA.out
    clear HA
    simp only [laws_nSame.l0] at H
    by_cases c4 : x13_1 < (l0.length : Int)
    ·rw [if_pos c4] at H
     have c4b0 : decide (x13_1 < (l0.length : Int)) = true := decide_eq_true c4
     clear c4
     by_cases c5 : 0 ≤ x13_1
     ·rw [if_pos c5] at H
      have c5b0 : decide (0 ≤ x13_1) = true := decide_eq_true c5
      clear c5
      by_cases c6 : x13_1 < (l0.length : Int)
      ·rw [if_pos c6] at H
       have c6b0 : decide (x13_1 < (l0.length : Int)) = true := decide_eq_true c6
       clear c6
       by_cases c7 : x13_1 < (l1.length : Int)
       ·rw [if_pos c7] at H
        have c7b0 : decide (x13_1 < (l1.length : Int)) = true := decide_eq_true c7
        clear c7
        by_cases c8 : (rd l0 x13_1) = (rd l1 x13_1)
        ·rw [if_pos c8] at H
         have c8b0 : ((rd l0 x13_1) == (rd l1 x13_1)) = true := beq_iff_eq.mpr c8
         have c8b1 : ((rd l0 x13_1) != (rd l1 x13_1)) = false := bne_eq_false_iff_eq.mpr c8
         clear c8
         have H' := am H
         clear H
         have p290 : 0 ≤ (x13_1 : Int) := of_decide_eq_true zq9
         have q290 : x13_1 < (l0.length : Int) := of_decide_eq_true zq9
         obtain ⟨ad290, e290, hx290_0⟩ := Kd.at_int HR0.out x13_1 p290 q290
         cases e290
         replace p290 := eq_true p290
         replace q290 := eq_true q290
         have p291 : 0 ≤ (x13_1 : Int) := of_decide_eq_true zq9
         have q291 : x13_1 < (l1.length : Int) := of_decide_eq_true zq9
         obtain ⟨ad291, e291, hx291_0⟩ := Kd.at_int HR1.out x13_1 p291 q291
         cases e291
         replace p291 := eq_true p291
         replace q291 := eq_true q291
         go_wp2
         repeat (go_quiet (fail); try go_wp2)
         go_roundg k1
         case measure => have := HK1.out; omega
         case rel => exact ⟨(wrap64 (x13_1 + 1)), zq13, H', ⟨zq101⟩, zq20⟩
        ·rw [if_neg c8] at H
         have c8b0 : ((rd l0 x13_1) == (rd l1 x13_1)) = false := beq_eq_false_iff_ne.mpr c8
         have c8b1 : ((rd l0 x13_1) != (rd l1 x13_1)) = true := bne_iff_ne.mpr c8
         obtain rfl := Option.some.inj H
         have p290 : 0 ≤ (x13_1 : Int) := of_decide_eq_true zq9
         have q290 : x13_1 < (l0.length : Int) := of_decide_eq_true zq9
         obtain ⟨ad290, e290, hx290_0⟩ := Kd.at_int HR0.out x13_1 p290 q290
         cases e290
         replace p290 := eq_true p290
         replace q290 := eq_true q290
         have p291 : 0 ≤ (x13_1 : Int) := of_decide_eq_true zq9
         have q291 : x13_1 < (l1.length : Int) := of_decide_eq_true zq9
         obtain ⟨ad291, e291, hx291_0⟩ := Kd.at_int HR1.out x13_1 p291 q291
         cases e291
         replace p291 := eq_true p291
         replace q291 := eq_true q291
         go_wp2
         repeat (go_quiet (fail); try go_wp2)
         go_ret
         exact ⟨zq13, zq20⟩
       ·rw [if_neg c7] at H
        exact absurd H zq66
      ·rw [if_neg c6] at H
       exact absurd H zq66
     ·rw [if_neg c5] at H
      exact absurd H zq66
    ·rw [if_neg c4] at H
     have c4b0 : decide (x13_1 < (l0.length : Int)) = false := decide_eq_false c4
     clear c4
     obtain rfl := Option.some.inj H
     go_wp2
     repeat (go_quiet (fail); try go_wp2)
     go_ret
     exact ⟨zq13, zq20⟩
 ·rw [if_neg c3] at H
  have c3b0 : ((l0.length : Int) == (l1.length : Int)) = false := beq_eq_false_iff_ne.mpr c3
  have c3b1 : ((l0.length : Int) != (l1.length : Int)) = true := bne_iff_ne.mpr c3
  have c3b2 : (l0.length == l1.length) = false := zq175
  obtain rfl := Option.some.inj H
  go_enter Try.func14, Try.ntmps14
  go_wp2
  repeat (go_quiet (fail); try go_wp2)
  go_ret
  exact ⟨zq13, zq20⟩
/-! ### laws_nLadder: function 18 -/
def laws_nLadder.f (k : Nat) (a0_0 : Int) (l0_1 : List Int) (a1_0 : Int) (l1_1 : List Int) : Option (Bool) := if a0_0 = a1_0 then ((laws_nSame.f k l0_1 l1_1).bind fun t294 => (some t294)) else (some false)
theorem laws_nLadder.mono : ∀ a0 a1 a2 a3 k, LeO (laws_nLadder.f k a0 a1 a2 a3) (laws_nLadder.f (k + 1) a0 a1 a2 a3) := by
 intro a0 a1 a2 a3 k
 unfold laws_nLadder.f
 repeat' first | (with_reducible first | exact laws_nSame.mono _ _ _ | exact LeO.refl _ | exact LeO.none _ | refine LeO.ite ?_ ?_ | refine LeO.bind ?_ (fun _ => ?_))
theorem laws_nLadder.calls (k : Nat) (a0_0 : Int) (A0_1 : Option Addr) (c0_1 : Nat) (l0_1 : List Int) (a1_0 : Int) (A1_1 : Option Addr) (c1_1 : Nat) (l1_1 : List Int) (r : Bool) (w : World) (hr0_1 : Kd.C (Kd.int .i64) w A0_1 l0_1.length l0_1) (hc0_1 : l0_1.length ≤ c0_1) (hr1_1 : Kd.C (Kd.int .i64) w A1_1 l1_1.length l1_1) (hc1_1 : l1_1.length ≤ c1_1) (h : laws_nLadder.f k a0_0 l0_1 a1_0 l1_1 = some r) :
  Calls Try.prog 18 #[.agg #[.int .i64 a0_0, .slice A0_1 l0_1.length c0_1], .agg #[.int .i64 a1_0, .slice A1_1 l1_1.length c1_1]] w fun e w' => e = .returned (.bool r) ∧ Below w.heap.size w w' := by
 have hu34 := Try.underlying34
 have HR0_1 := am hr0_1
 have HC0_1 := am hc0_1
 clear hr0_1 hc0_1
 have HR1_1 := am hr1_1
 have HC1_1 := am hc1_1
 clear hr1_1 hc1_1
 have HB := am (Below.refl w.heap.size w)
 have H : (if a0_0 = a1_0 then ((laws_nSame.f k l0_1 l1_1).bind fun t294 => (some t294)) else (some false)) = some r := h
 clear h
 by_cases c3 : a0_0 = a1_0
 ·rw [if_pos c3] at H
  have c3b0 : (a0_0 == a1_0) = true := beq_iff_eq.mpr c3
  have c3b1 : (a0_0 != a1_0) = false := bne_eq_false_iff_eq.mpr c3
  clear c3
  obtain ⟨t294, A4, H⟩ := zS H
  (try dsimp only at H)
  obtain rfl := Option.some.inj H
  go_enter Try.func18, Try.ntmps18
  go_wp2_with (first | ((with_reducible refine gate_dst (N := 2) rfl ?_); refine zE 2 (cs := #[.int .i64 a0_0, .slice A0_1 l0_1.length c0_1]) 34 ?_; intro gb292 hg w5 hbox hb; have BK292 := am (hbox); have GW292 := am ((zq137 : w.heap.size ≤ gb292)); have GE292 := am ((zq137 : w.heap.size ≤ gb292)); replace HB := am (below_step (pBq3 HB) hb); clear hb hbox hg) | ((with_reducible refine gate_dst (N := 3) rfl ?_); refine zE 3 (cs := #[.int .i64 a1_0, .slice A1_1 l1_1.length c1_1]) 34 ?_; intro gb293 hg w6 hbox hb; have BK293 := am (hbox); have GW293 := am ((zq137 : w.heap.size ≤ gb293)); have GE293 := am ((zq137 : w.heap.size ≤ gb293)); have NB292_293 := am ((by rw [hg]; exact Nat.ne_of_lt (blk_lt (pKq3 BK292)) : gb292 ≠ gb293)); have NB293_292 := am ((by rw [hg]; exact Nat.ne_of_gt (blk_lt (pKq3 BK292)) : gb293 ≠ gb292)); replace BK292 := am (blk_below (pKq3 BK292) hb); replace HB := am (below_step (pBq3 HB) hb); clear hb hbox hg; have hnb7 := NB292_293.out; have hnc7 := NB293_292.out; have hcz8_0 : w6.cell? ⟨gb292, 0, none⟩ = some (.int .i64 a0_0) := (blk_cell BK292.out 0).trans rfl; have hcz8_1 : w6.cell? ⟨gb292, 1, none⟩ = some (.slice A0_1 l0_1.length c0_1) := (blk_cell BK292.out 1).trans rfl; have hfz8_0 := blk_frozen BK292.out 0; have hfz8_1 := blk_frozen BK292.out 1; have hcz9_0 : w6.cell? ⟨gb293, 0, none⟩ = some (.int .i64 a1_0) := (blk_cell BK293.out 0).trans rfl; have hcz9_1 : w6.cell? ⟨gb293, 1, none⟩ = some (.slice A1_1 l1_1.length c1_1) := (blk_cell BK293.out 1).trans rfl; have hfz9_0 := blk_frozen BK293.out 0; have hfz9_1 := blk_frozen BK293.out 1) | (go_at_call 14; (with_reducible refine (laws_nSame.calls k _ _ l0_1 _ _ l1_1 t294 _ ?side1 ?side2 ?side3 ?side4 A4.out).mono ?_); (case side1 => exact zq21); (case side2 => exact HC0_1.out); (case side3 => repeat (first | exact (Kd.C_below HR1_1.out HB.out) | (with_reducible refine Kd.C_alloc ?_ _) | (with_reducible refine Kd.C_drewN ?_ _) | (with_reducible refine Kd.C_drew ?_))); (case side4 => exact HC1_1.out); rintro e w' ⟨rfl, ⟨nd, rfl⟩⟩))
  go_ret
  exact ⟨zq11, zq10⟩
 ·rw [if_neg c3] at H
  have c3b0 : (a0_0 == a1_0) = false := beq_eq_false_iff_ne.mpr c3
  have c3b1 : (a0_0 != a1_0) = true := bne_iff_ne.mpr c3
  obtain rfl := Option.some.inj H
  go_enter Try.func18, Try.ntmps18
  go_wp2_with (first | ((with_reducible refine gate_dst (N := 2) rfl ?_); refine zE 2 (cs := #[.int .i64 a0_0, .slice A0_1 l0_1.length c0_1]) 34 ?_; intro gb292 hg w10 hbox hb; have BK292 := am (hbox); have GW292 := am ((zq137 : w.heap.size ≤ gb292)); have GE292 := am ((zq137 : w.heap.size ≤ gb292)); replace HB := am (below_step (pBq3 HB) hb); clear hb hbox hg) | ((with_reducible refine gate_dst (N := 3) rfl ?_); refine zE 3 (cs := #[.int .i64 a1_0, .slice A1_1 l1_1.length c1_1]) 34 ?_; intro gb293 hg w11 hbox hb; have BK293 := am (hbox); have GW293 := am ((zq137 : w.heap.size ≤ gb293)); have GE293 := am ((zq137 : w.heap.size ≤ gb293)); have NB292_293 := am ((by rw [hg]; exact Nat.ne_of_lt (blk_lt (pKq3 BK292)) : gb292 ≠ gb293)); have NB293_292 := am ((by rw [hg]; exact Nat.ne_of_gt (blk_lt (pKq3 BK292)) : gb293 ≠ gb292)); replace BK292 := am (blk_below (pKq3 BK292) hb); replace HB := am (below_step (pBq3 HB) hb); clear hb hbox hg; have hnb12 := NB292_293.out; have hnc12 := NB293_292.out; have hcz13_0 : w11.cell? ⟨gb292, 0, none⟩ = some (.int .i64 a0_0) := (blk_cell BK292.out 0).trans rfl; have hcz13_1 : w11.cell? ⟨gb292, 1, none⟩ = some (.slice A0_1 l0_1.length c0_1) := (blk_cell BK292.out 1).trans rfl; have hfz13_0 := blk_frozen BK292.out 0; have hfz13_1 := blk_frozen BK292.out 1; have hcz14_0 : w11.cell? ⟨gb293, 0, none⟩ = some (.int .i64 a1_0) := (blk_cell BK293.out 0).trans rfl; have hcz14_1 : w11.cell? ⟨gb293, 1, none⟩ = some (.slice A1_1 l1_1.length c1_1) := (blk_cell BK293.out 1).trans rfl; have hfz14_0 := blk_frozen BK293.out 0; have hfz14_1 := blk_frozen BK293.out 1))
  go_ret
  exact ⟨zq11, zq10⟩
/-! ### laws_nLadders: function 10 -/
def laws_nLadders.l0 : Nat → List (S34) → List (S34) → Int → Int → Option (Bool)
 | 0, _, _, _, _ => none
 | k + 1, x0, x1, x12, x13 => if x13 < x12 then (if 0 ≤ x13 then (if x13 < (x0.length : Int) then (if x13 < (x1.length : Int) then ((laws_nLadder.f k ((rd_T34 x0 x13).f0) ((rd_T34 x0 x13).f1) ((rd_T34 x1 x13).f0) ((rd_T34 x1 x13).f1)).bind fun t297 => (if t297 = true then (laws_nLadders.l0 k x0 x1 x12 (wrap64 (x13 + 1))) else (some false))) else (none)) else (none)) else (none)) else (some true)
def laws_nLadders.f (k : Nat) (l0 : List (S34)) (l1 : List (S34)) : Option (Bool) := if (l0.length : Int) = (l1.length : Int) then (laws_nLadders.l0 k l0 l1 (l0.length : Int) 0) else (some false)
theorem laws_nLadders.mono_l : ∀ k, (∀ y0 y1 y2 y3, LeO (laws_nLadders.l0 k y0 y1 y2 y3) (laws_nLadders.l0 (k + 1) y0 y1 y2 y3))
 | 0 => fun _ _ _ _ r h => by simp [laws_nLadders.l0] at h
 | k + 1 => by
  have ih0 := laws_nLadders.mono_l k
  ·intro y0 y1 y2 y3
   unfold laws_nLadders.l0
   repeat' first | (with_reducible first | exact ih0 _ _ _ _ | exact laws_nLadder.mono _ _ _ _ _ | exact LeO.refl _ | exact LeO.none _ | refine LeO.ite ?_ ?_ | refine LeO.bind ?_ (fun _ => ?_))
theorem laws_nLadders.mono : ∀ a0 a1 k, LeO (laws_nLadders.f k a0 a1) (laws_nLadders.f (k + 1) a0 a1) := by
 intro a0 a1 k
 have ih0 := laws_nLadders.mono_l k
 unfold laws_nLadders.f
 repeat' first | (with_reducible first | exact ih0 _ _ _ _ | exact laws_nLadder.mono _ _ _ _ _ | exact LeO.refl _ | exact LeO.none _ | refine LeO.ite ?_ ?_ | refine LeO.bind ?_ (fun _ => ?_))
def laws_nLadders.T6 : Bool × List (List Nat × List Nat) := (true, [([], []), ([], []), ([0, 1], [0, 1]), ([2], [2]), ([], []), ([], []), ([4, 5], [4, 5]), ([6], [6]), ([3, 7], [3, 7]), ([8], [8])])
def laws_nLadders.B6 : List Nat := [0, 0, 3, 7, 0, 0, 48, 112, 255, 511]
theorem laws_nLadders.tab6 : rtab .any (opsOf Try.f10 6) = laws_nLadders.T6 := by kernel_rfl
theorem laws_nLadders.bits6 : waitsOk laws_nLadders.T6.2 laws_nLadders.B6 = true := by kernel_rfl
theorem laws_nLadders.calls (k : Nat) (A0 : Option Addr) (c0 : Nat) (l0 : List (S34)) (A1 : Option Addr) (c1 : Nat) (l1 : List (S34)) (r : Bool) (w : World) (hr0 : Kd.C k34 w A0 l0.length l0) (hc0 : l0.length ≤ c0) (hr1 : Kd.C k34 w A1 l1.length l1) (hc1 : l1.length ≤ c1) (h : laws_nLadders.f k l0 l1 = some r) :
  Calls Try.prog 10 #[.slice A0 l0.length c0, .slice A1 l1.length c1] w fun e w' => e = .returned (.bool r) ∧ Below w.heap.size w w' := by
 have hu34 := Try.underlying34
 have HR0 := am hr0
 have HC0 := am hc0
 clear hr0 hc0
 have HR1 := am hr1
 have HC1 := am hc1
 clear hr1 hc1
 have HB := am (Below.refl w.heap.size w)
 have H : (if (l0.length : Int) = (l1.length : Int) then (laws_nLadders.l0 k l0 l1 (l0.length : Int) 0) else (some false)) = some r := h
 clear h
 by_cases c3 : (l0.length : Int) = (l1.length : Int)
 ·rw [if_pos c3] at H
  have c3b0 : ((l0.length : Int) == (l1.length : Int)) = true := beq_iff_eq.mpr c3
  have c3b1 : ((l0.length : Int) != (l1.length : Int)) = false := bne_eq_false_iff_eq.mpr c3
  have c3b2 : (l0.length == l1.length) = true := zq175
  clear c3
  have H' := am H
  clear H
  go_enter Try.func10, Try.ntmps10
  go_wp2
  go_loopg [13] k (fun kq v13 w' => ∃ (x13_1 : Int), v13 = .int .i64 x13_1 ∧ Aside0 (laws_nLadders.l0 kq l0 l1 (l0.length : Int) x13_1 = some r) ∧ Aside0 (kq ≤ k) ∧ Aside0 (Below w.heap.size w w'))
  case atStart => exact ⟨(0), zq13, H', ⟨Nat.le_refl _⟩, ⟨zq12⟩⟩
  case round =>
   clear H'
   try clear c1
   try clear p2
   try clear c3
   try clear c3b0
   try clear c3b1
   try clear c3b2
   obtain ⟨x13_1, rfl, HA, HK1, HB⟩ := hrel
   cases gk with
   | zero => exact absurd HA.out (by simp [laws_nLadders.l0])
   | succ k1 =>
    have H := HA.out
    clear HA
    simp only [laws_nLadders.l0] at H
    by_cases c4 : x13_1 < (l0.length : Int)
    ·rw [if_pos c4] at H
     have c4b0 : decide (x13_1 < (l0.length : Int)) = true := decide_eq_true c4
     clear c4
     by_cases c5 : 0 ≤ x13_1
     ·rw [if_pos c5] at H
      have c5b0 : decide (0 ≤ x13_1) = true := decide_eq_true c5
      clear c5
      by_cases c6 : x13_1 < (l0.length : Int)
      ·rw [if_pos c6] at H
       have c6b0 : decide (x13_1 < (l0.length : Int)) = true := decide_eq_true c6
       clear c6
       by_cases c7 : x13_1 < (l1.length : Int)
       ·rw [if_pos c7] at H
        have c7b0 : decide (x13_1 < (l1.length : Int)) = true := decide_eq_true c7
        clear c7
        obtain ⟨t297, A8, H⟩ := zS H
        (try dsimp only at H)
        by_cases c9 : t297 = true
        ·subst c9
         rw [if_pos rfl] at H
         have H' := am H
         clear H
         try go_wp2
         replace HB := am (below_drew1 HB.out)
         have p295 : 0 ≤ (x13_1 : Int) := of_decide_eq_true zq9
         have q295 : x13_1 < (l0.length : Int) := of_decide_eq_true zq9
         obtain ⟨ad295, A295_1, c295_1, e295, hx295_0, hx295_1, hl295_1, hi295_1⟩ := at_T34 HR0.out x13_1 p295 q295
         have hw295_1 := hx295_1
         have hw295_0 := hx295_0
         cases e295
         replace hx295_0 := (HB.out.cell (World.block_lt_of_cell? w _ hx295_0)).trans hx295_0
         replace hx295_1 := (HB.out.cell (World.block_lt_of_cell? w _ hx295_1)).trans hx295_1
         have HR295_1 := am hi295_1
         have HC295_1 := am hl295_1
         clear hi295_1 hl295_1
         replace p295 := eq_true p295
         replace q295 := eq_true q295
         have p296 : 0 ≤ (x13_1 : Int) := of_decide_eq_true zq9
         have q296 : x13_1 < (l1.length : Int) := of_decide_eq_true zq9
         obtain ⟨ad296, A296_1, c296_1, e296, hx296_0, hx296_1, hl296_1, hi296_1⟩ := at_T34 HR1.out x13_1 p296 q296
         have hw296_1 := hx296_1
         have hw296_0 := hx296_0
         cases e296
         replace hx296_0 := (HB.out.cell (World.block_lt_of_cell? w _ hx296_0)).trans hx296_0
         replace hx296_1 := (HB.out.cell (World.block_lt_of_cell? w _ hx296_1)).trans hx296_1
         have HR296_1 := am hi296_1
         have HC296_1 := am hl296_1
         clear hi296_1 hl296_1
         replace p296 := eq_true p296
         replace q296 := eq_true q296
         refine start_ (n := 10) (S := fun w' => w'.cell? (ad295.add ((x13_1).toNat * 2)) = some (.int .i64 ((rd_T34 l0 x13_1).f0)) ∧ w'.cell? ⟨(ad295.add ((x13_1).toNat * 2)).block, (ad295.add ((x13_1).toNat * 2)).off + 1, none⟩ = some (.slice A295_1 ((rd_T34 l0 x13_1).f1).length c295_1) ∧ w'.cell? (ad296.add ((x13_1).toNat * 2)) = some (.int .i64 ((rd_T34 l1 x13_1).f0)) ∧ w'.cell? ⟨(ad296.add ((x13_1).toNat * 2)).block, (ad296.add ((x13_1).toNat * 2)).off + 1, none⟩ = some (.slice A296_1 ((rd_T34 l1 x13_1).f1).length c296_1)) (ds := []) #[false, false, false, false, false, false, false, false, false, false] zq26 rfl rfl ⟨((HB.out.cell (World.block_lt_of_cell? w _ hw295_0)).trans hw295_0), ((HB.out.cell (World.block_lt_of_cell? w _ hw295_1)).trans hw295_1), ((HB.out.cell (World.block_lt_of_cell? w _ hw296_0)).trans hw296_0), ((HB.out.cell (World.block_lt_of_cell? w _ hw296_1)).trans hw296_1)⟩ (fun hHeld => ?_); refine with_tabW laws_nLadders.tab6 laws_nLadders.bits6 (fun HT_ HW_ => ?_)
         generalize wr.drew = w10 at HB HR295_1 HR296_1 hx295_0 hx295_1 hx296_0 hx296_1 hHeld ⊢
         refine zU 0 16 HT_ ?_
         refine zU 1 17 HT_ ?_
         refine zU 2 18 HT_ ?_
         refine zU 4 20 HT_ ?_
         refine zU 5 21 HT_ ?_
         refine zU 6 22 HT_ ?_
         refine zT 3 19 HT_ HW_ hHeld ?_
         refine zT 7 23 HT_ HW_ hHeld ?_
         refine zO 8 24 HT_ fun K hK => ?_
         refine goes_ Try.func18 zq26 rfl #[.agg #[.int .i64 ((rd_T34 l0 x13_1).f0), .slice A295_1 ((rd_T34 l0 x13_1).f1).length c295_1], .agg #[.int .i64 ((rd_T34 l1 x13_1).f0), .slice A296_1 ((rd_T34 l1 x13_1).f1).length c296_1]] (by rfl) rfl rfl zq1 ?_
         with_reducible refine (laws_nLadder.calls k1 ((rd_T34 l0 x13_1).f0) _ _ ((rd_T34 l0 x13_1).f1) ((rd_T34 l1 x13_1).f0) _ _ ((rd_T34 l1 x13_1).f1) true _ ?side1 ?side2 ?side3 ?side4 A8.out).mono ?_
         (case side1 => exact zq163)
         (case side2 => exact HC295_1.out)
         (case side3 => exact zq162)
         (case side4 => exact HC296_1.out)
         rintro e w11 ⟨rfl, hb⟩
         refine ⟨_, rfl, ?_⟩
         replace HB := am (below_step (pBq3 HB) hb)
         (try clear hb)
         (try clear hb2)
         (try clear hk)
         (try clear hi)
         refine hK.out _ _ ⟨((HB.out.cell (World.block_lt_of_cell? w _ hw295_0)).trans hw295_0), ((HB.out.cell (World.block_lt_of_cell? w _ hw295_1)).trans hw295_1), ((HB.out.cell (World.block_lt_of_cell? w _ hw296_0)).trans hw296_0), ((HB.out.cell (World.block_lt_of_cell? w _ hw296_1)).trans hw296_1)⟩ (fun hHeld => ?_)
         clear hK K
         refine zN 24 ?_
         refine zU 9 25 HT_ ?_
         refine done_ (done_of HT_.out zq26) ?_
         try go_wp2
         go_roundg k1
         case measure => have := HK1.out; omega
         case rel => exact ⟨(wrap64 (x13_1 + 1)), zq13, H', ⟨zq101⟩, ⟨zq12⟩⟩
        ·replace c9 := Bool.eq_false_iff.mpr c9
         subst c9
         rw [if_neg (show ¬ (false = true) by decide)] at H
         obtain rfl := Option.some.inj H
         try go_wp2
         replace HB := am (below_drew1 HB.out)
         have p295 : 0 ≤ (x13_1 : Int) := of_decide_eq_true zq9
         have q295 : x13_1 < (l0.length : Int) := of_decide_eq_true zq9
         obtain ⟨ad295, A295_1, c295_1, e295, hx295_0, hx295_1, hl295_1, hi295_1⟩ := at_T34 HR0.out x13_1 p295 q295
         have hw295_1 := hx295_1
         have hw295_0 := hx295_0
         cases e295
         replace hx295_0 := (HB.out.cell (World.block_lt_of_cell? w _ hx295_0)).trans hx295_0
         replace hx295_1 := (HB.out.cell (World.block_lt_of_cell? w _ hx295_1)).trans hx295_1
         have HR295_1 := am hi295_1
         have HC295_1 := am hl295_1
         clear hi295_1 hl295_1
         replace p295 := eq_true p295
         replace q295 := eq_true q295
         have p296 : 0 ≤ (x13_1 : Int) := of_decide_eq_true zq9
         have q296 : x13_1 < (l1.length : Int) := of_decide_eq_true zq9
         obtain ⟨ad296, A296_1, c296_1, e296, hx296_0, hx296_1, hl296_1, hi296_1⟩ := at_T34 HR1.out x13_1 p296 q296
         have hw296_1 := hx296_1
         have hw296_0 := hx296_0
         cases e296
         replace hx296_0 := (HB.out.cell (World.block_lt_of_cell? w _ hx296_0)).trans hx296_0
         replace hx296_1 := (HB.out.cell (World.block_lt_of_cell? w _ hx296_1)).trans hx296_1
         have HR296_1 := am hi296_1
         have HC296_1 := am hl296_1
         clear hi296_1 hl296_1
         replace p296 := eq_true p296
         replace q296 := eq_true q296
         refine start_ (n := 10) (S := fun w' => w'.cell? (ad295.add ((x13_1).toNat * 2)) = some (.int .i64 ((rd_T34 l0 x13_1).f0)) ∧ w'.cell? ⟨(ad295.add ((x13_1).toNat * 2)).block, (ad295.add ((x13_1).toNat * 2)).off + 1, none⟩ = some (.slice A295_1 ((rd_T34 l0 x13_1).f1).length c295_1) ∧ w'.cell? (ad296.add ((x13_1).toNat * 2)) = some (.int .i64 ((rd_T34 l1 x13_1).f0)) ∧ w'.cell? ⟨(ad296.add ((x13_1).toNat * 2)).block, (ad296.add ((x13_1).toNat * 2)).off + 1, none⟩ = some (.slice A296_1 ((rd_T34 l1 x13_1).f1).length c296_1)) (ds := []) #[false, false, false, false, false, false, false, false, false, false] zq26 rfl rfl ⟨((HB.out.cell (World.block_lt_of_cell? w _ hw295_0)).trans hw295_0), ((HB.out.cell (World.block_lt_of_cell? w _ hw295_1)).trans hw295_1), ((HB.out.cell (World.block_lt_of_cell? w _ hw296_0)).trans hw296_0), ((HB.out.cell (World.block_lt_of_cell? w _ hw296_1)).trans hw296_1)⟩ (fun hHeld => ?_); refine with_tabW laws_nLadders.tab6 laws_nLadders.bits6 (fun HT_ HW_ => ?_)
         generalize wr.drew = w12 at HB HR295_1 HR296_1 hx295_0 hx295_1 hx296_0 hx296_1 hHeld ⊢
         refine zU 0 16 HT_ ?_
         refine zU 1 17 HT_ ?_
         refine zU 2 18 HT_ ?_
         refine zU 4 20 HT_ ?_
         refine zU 5 21 HT_ ?_
         refine zU 6 22 HT_ ?_
         refine zT 3 19 HT_ HW_ hHeld ?_
         refine zT 7 23 HT_ HW_ hHeld ?_
         refine zO 8 24 HT_ fun K hK => ?_
         refine goes_ Try.func18 zq26 rfl #[.agg #[.int .i64 ((rd_T34 l0 x13_1).f0), .slice A295_1 ((rd_T34 l0 x13_1).f1).length c295_1], .agg #[.int .i64 ((rd_T34 l1 x13_1).f0), .slice A296_1 ((rd_T34 l1 x13_1).f1).length c296_1]] (by rfl) rfl rfl zq1 ?_
         with_reducible refine (laws_nLadder.calls k1 ((rd_T34 l0 x13_1).f0) _ _ ((rd_T34 l0 x13_1).f1) ((rd_T34 l1 x13_1).f0) _ _ ((rd_T34 l1 x13_1).f1) false _ ?side1 ?side2 ?side3 ?side4 A8.out).mono ?_
         (case side1 => exact zq163)
         (case side2 => exact HC295_1.out)
         (case side3 => exact zq162)
         (case side4 => exact HC296_1.out)
         rintro e w13 ⟨rfl, hb⟩
         refine ⟨_, rfl, ?_⟩
         replace HB := am (below_step (pBq3 HB) hb)
         (try clear hb)
         (try clear hb2)
         (try clear hk)
         (try clear hi)
         refine hK.out _ _ ⟨((HB.out.cell (World.block_lt_of_cell? w _ hw295_0)).trans hw295_0), ((HB.out.cell (World.block_lt_of_cell? w _ hw295_1)).trans hw295_1), ((HB.out.cell (World.block_lt_of_cell? w _ hw296_0)).trans hw296_0), ((HB.out.cell (World.block_lt_of_cell? w _ hw296_1)).trans hw296_1)⟩ (fun hHeld => ?_)
         clear hK K
         refine zN 24 ?_
         refine zU 9 25 HT_ ?_
         refine done_ (done_of HT_.out zq26) ?_
         try go_wp2
         go_ret
         exact ⟨zq11, zq12⟩
       ·rw [if_neg c7] at H
        exact absurd H zq66
      ·rw [if_neg c6] at H
       exact absurd H zq66
     ·rw [if_neg c5] at H
      exact absurd H zq66
    ·rw [if_neg c4] at H
     have c4b0 : decide (x13_1 < (l0.length : Int)) = false := decide_eq_false c4
     clear c4
     obtain rfl := Option.some.inj H
     go_wp2
     go_ret
     exact ⟨zq11, zq12⟩
 ·rw [if_neg c3] at H
  have c3b0 : ((l0.length : Int) == (l1.length : Int)) = false := beq_eq_false_iff_ne.mpr c3
  have c3b1 : ((l0.length : Int) != (l1.length : Int)) = true := bne_iff_ne.mpr c3
  have c3b2 : (l0.length == l1.length) = false := zq175
  obtain rfl := Option.some.inj H
  go_enter Try.func10, Try.ntmps10
  go_wp2
  go_ret
  exact ⟨zq11, zq12⟩
end
end Go.Proofs.Ytdeoeogdnagibaa.PLi
