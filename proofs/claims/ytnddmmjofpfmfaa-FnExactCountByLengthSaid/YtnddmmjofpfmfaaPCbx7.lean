-- Written for this claim by a program of this session (myprint.py) over the kit's printer.
import Derived.Test.YtnddmmjofpfmfaaPCbx0
import Derived.Test.YtnddmmjofpfmfaaPCbx6
namespace Go.Proofs.Ytnddmmjofpfmfaa.PCb
noncomputable section
open Go.RowKit Go.Proofs.YtnddmmjofpfmfaaW.PrintWords Go.Proofs.YtnddmmjofpfmfaaW.PrintLast Go.Proofs.YtnddmmjofpfmfaaW.PrintMore
attribute [local go_sem] max2_int min2_int max_two min_two max_three min_three max_four min_four   -- for this text's walks alone
set_option linter.unusedVariables false
set_option linter.unusedSimpArgs false

/-! ### impl_counter_count: function 64 -/
open Classical in
noncomputable def impl_counter_count.ev {α : Type} (g : Nat → Option α) : Option α := if h : ∃ k r, g k = some r then g h.choose else none
theorem impl_counter_count.ev_some {α : Type} {g : Nat → Option α} {r : α} (h : impl_counter_count.ev g = some r) : ∃ k, g k = some r := by
  unfold impl_counter_count.ev at h
  split at h
  · exact ⟨_, h⟩
  · cases h
def impl_counter_count.good (l : List Int) : Bool := l.all fun x => decide (0 ≤ x) && decide (x ≤ 100)
theorem impl_counter_count.good_mem {l : List Int} (h : impl_counter_count.good l = true) : ∀ x ∈ l, 0 ≤ x ∧ x ≤ 100 := fun x hx => by
  have := List.all_eq_true.1 h x hx
  simpa using this
def impl_counter_count.key (l : List Int) : List UInt8 := l.map fun x => UInt8.ofNat ((48 + x) % 256).toNat
theorem impl_counter_count.key_inj : ∀ (a b : List Int), (∀ x ∈ a, 0 ≤ x ∧ x ≤ 100) → (∀ x ∈ b, 0 ≤ x ∧ x ≤ 100) → impl_counter_count.key a = impl_counter_count.key b → a = b
  | [], [], _, _, _ => rfl
  | [], y :: b, _, _, h => by simp [impl_counter_count.key] at h
  | x :: a, [], _, _, h => by simp [impl_counter_count.key] at h
  | x :: a, y :: b, ha, hb, h => by
    have hx := ha x (by simp)
    have hy := hb y (by simp)
    simp only [impl_counter_count.key, List.map_cons, List.cons.injEq] at h
    have h1 := congrArg UInt8.toNat h.1
    simp only [UInt8.toNat_ofNat'] at h1
    have e : x = y := by omega
    have e2 := impl_counter_count.key_inj a b (fun z hz => ha z (by simp [hz])) (fun z hz => hb z (by simp [hz])) h.2
    rw [e, e2]
theorem impl_counter_count.ok_key : ∀ (d i : Nat) (l acc : List Int) (k : Nat), i + d = l.length → l.length ≤ 8 → (∀ x ∈ l, 0 ≤ x ∧ x ≤ 100) → acc.length ≤ i → d < k → impl_orderKey.l0 k acc l (l.length : Int) (i : Int) = some (strOfNums (acc ++ (l.drop i).map fun x => (48 + x) % 256)) := by
  intro d
  induction d with
  | zero =>
    intro i l acc k hd h8 hg ha hk
    obtain ⟨k, rfl⟩ : ∃ m, k = m + 1 := ⟨k - 1, by omega⟩
    rw [impl_orderKey.l0, if_neg (by omega), List.drop_eq_nil_of_le (by omega)]
    simp
  | succ d ih =>
    intro i l acc k hd h8 hg ha hk
    obtain ⟨k, rfl⟩ : ∃ m, k = m + 1 := ⟨k - 1, by omega⟩
    have hi : i < l.length := by omega
    have hr : rd l (i : Int) = l[i] := by
      show l.getD ((i : Int)).toNat 0 = _
      rw [Int.toNat_natCast, List.getD_eq_getElem?_getD, List.getElem?_eq_getElem hi]; rfl
    have hm := hg _ (List.getElem_mem hi)
    have hw : wrap64 (48 + l[i]) = 48 + l[i] := by unfold wrap64; omega
    have hw2 : wrap64 ((i : Int) + 1) = ((i + 1 : Nat) : Int) := by unfold wrap64; omega
    rw [impl_orderKey.l0, if_pos (by omega), if_pos (by omega), if_pos (by omega), if_pos (by omega), hr, hw, hw2, ih (i + 1) l _ k (by omega) h8 hg (by simp; omega) (by omega), List.drop_eq_getElem_cons hi, List.map_cons, List.append_assoc]
    rfl
theorem impl_counter_count.orderKey {l : List Int} (h8 : l.length ≤ 8) (hg : ∀ x ∈ l, 0 ≤ x ∧ x ≤ 100) : ∃ s : ByteArray, impl_orderKey.f 100 l = some s ∧ s.data.toList = impl_counter_count.key l ∧ s.size ≤ 8 := by
  refine ⟨_, impl_counter_count.ok_key l.length 0 l [] 100 (by omega) h8 hg (by simp) (by omega), ?_, ?_⟩
  · rw [strOfNums_data, List.nil_append, List.drop_zero, List.map_map]; rfl
  · rw [strOfNums_size]; simpa using h8
def impl_counter_count.sm (g : List Int → Option Int) (l : List Int) : List Int → Int → Option Int
  | [], n => some n
  | r :: rs, n => (impl_exchanged.f l r).bind fun q => (g q).bind fun m => impl_counter_count.sm g l rs (wrap64 (n + m))
/-- How many least ladders there are, the falls taken one by one. -/
noncomputable def impl_counter_count.g : Nat → List Int → Option Int
  | 0, _ => none
  | d + 1, l => if impl_counter_count.good l = true ∧ l.length ≤ 8 then (impl_counter_count.ev fun k => impl_descents.f k l).bind fun ds => (if ds.length = 0 then some 1 else if ds.length ≤ 8 then impl_counter_count.sm (impl_counter_count.g d) l ds 0 else none) else none
noncomputable def impl_counter_count.f (l0 : List Int) : Option Int := impl_counter_count.g 16 l0
theorem impl_counter_count.sm_mono {g g' : List Int → Option Int} (h : ∀ q v, g q = some v → g' q = some v) (l : List Int) : ∀ (ds : List Int) (n r : Int), impl_counter_count.sm g l ds n = some r → impl_counter_count.sm g' l ds n = some r
  | [], _, _, e => e
  | x :: ds, n, r, e => by
    simp only [impl_counter_count.sm] at e ⊢
    obtain ⟨q, hq, e⟩ := Option.bind_eq_some_iff.1 e
    obtain ⟨m, hm, e⟩ := Option.bind_eq_some_iff.1 e
    rw [hq]
    simp only [Option.bind_some]
    rw [h q m hm]
    exact impl_counter_count.sm_mono h l ds _ r e
theorem impl_counter_count.g_succ : ∀ (d : Nat) (l : List Int) (v : Int), impl_counter_count.g d l = some v → impl_counter_count.g (d + 1) l = some v
  | 0, _, _, e => by simp [impl_counter_count.g] at e
  | d + 1, l, v, e => by
    rw [impl_counter_count.g] at e ⊢
    split at e
    · rename_i hc
      rw [if_pos hc]
      obtain ⟨ds, hds, e⟩ := Option.bind_eq_some_iff.1 e
      rw [hds]
      simp only [Option.bind_some]
      split at e
      · rename_i h0; rw [if_pos h0]; exact e
      · rename_i h0
        rw [if_neg h0]
        split at e
        · rename_i h1; rw [if_pos h1]; exact impl_counter_count.sm_mono (fun q v => impl_counter_count.g_succ d q v) l ds 0 v e
        · cases e
    · cases e
theorem impl_counter_count.g_le {d d' : Nat} (h : d ≤ d') {l : List Int} {v : Int} (e : impl_counter_count.g d l = some v) : impl_counter_count.g d' l = some v := by
  induction h with
  | refl => exact e
  | step _ ih => exact impl_counter_count.g_succ _ _ _ ih
theorem impl_counter_count.g_one {d d' : Nat} {l : List Int} {v v' : Int} (e : impl_counter_count.g d l = some v) (e' : impl_counter_count.g d' l = some v') : v = v' := by
  have h1 := impl_counter_count.g_le (Nat.le_max_left d d') e
  have h2 := impl_counter_count.g_le (Nat.le_max_right d d') e'
  rw [h1] at h2
  exact Option.some.inj h2
theorem impl_counter_count.sm_wf (g : List Int → Option Int) (l : List Int) : ∀ (ds : List Int) (n r : Int), (Lit.int .i64 n).wf = true → impl_counter_count.sm g l ds n = some r → (Lit.int .i64 r).wf = true
  | [], n, r, hn, e => by cases e; exact hn
  | x :: ds, n, r, hn, e => by
    simp only [impl_counter_count.sm] at e
    obtain ⟨q, hq, e⟩ := Option.bind_eq_some_iff.1 e
    obtain ⟨m, hm, e⟩ := Option.bind_eq_some_iff.1 e
    exact impl_counter_count.sm_wf g l ds _ r (wrap64_wf _) e
/-- What the counter remembers is so. -/
def impl_counter_count.Inv (D : DataW Unit) : Prop := Maps.IsMap D ∧ ∀ q : List Int, (∀ x ∈ q, 0 ≤ x ∧ x ≤ 100) → Maps.has D (.string (impl_counter_count.key q)) = true → ∃ d v, impl_counter_count.g d q = some v ∧ ∀ z, D.atKey (.string (impl_counter_count.key q)) z = .lit (.int .i64 v)
theorem impl_counter_count.inv_empty : impl_counter_count.Inv (.map []) := ⟨Maps.isMap_empty, fun q _ h => by simp [Maps.has] at h⟩
theorem impl_counter_count.inv_put {D : DataW Unit} (h : impl_counter_count.Inv D) {l : List Int} (hl : ∀ x ∈ l, 0 ≤ x ∧ x ≤ 100) {d : Nat} {v : Int} (hg : impl_counter_count.g d l = some v) : impl_counter_count.Inv (D.put (.string (impl_counter_count.key l)) (.lit (.int .i64 v))) := by
  refine ⟨h.1.put _ _, fun q hq hh => ?_⟩
  by_cases e : q = l
  · subst e
    exact ⟨d, v, hg, fun z => Maps.atKey_put_same h.1 (show WideAt.IsKeyLit (Lit.string (impl_counter_count.key q)) from trivial) _ z⟩
  · have hne : (Lit.string (impl_counter_count.key q)) ≠ .string (impl_counter_count.key l) := fun h2 => e (impl_counter_count.key_inj q l hq hl (by injection h2))
    rw [Maps.has_put_other hne] at hh
    obtain ⟨d', v', h1, h2⟩ := h.2 q hq hh
    exact ⟨d', v', h1, fun z => by rw [Maps.atKey_put_other hne]; exact h2 z⟩
theorem impl_counter_count.law : Maps.Keyed Try.prog 9 := Maps.string_keyed Try.underlying9
theorem impl_counter_count.zero (w : World) : (zeroValue 3).run Try.prog w = .ok (.int .i64 0) w := by kernel_rfl
/-- The counter's memory: block B is a map that reads as D, and what it remembers is so. -/
structure impl_counter_count.Mem (w : World) (B n : Nat) : Prop where mk :: (out : ∃ D : DataW Unit, w.ownsMap Try.prog 9 (plainElem Try.prog 3) B n D ∧ impl_counter_count.Inv D)
theorem impl_counter_count.Mem.kept {w w' : World} {B n : Nat} {S : Nat → Prop} (h : impl_counter_count.Mem w B n) (hk : Kept w w' S) (hS : ¬ S B) : impl_counter_count.Mem w' B n := by
  obtain ⟨D, h1, h2⟩ := h
  refine ⟨D, ?_, h2⟩
  obtain ⟨es, clock, hb, hF, hs, hD⟩ := h1
  exact ⟨es, clock, (hk.2 B (blk_lt hb) hS).trans hb, hF, hs, hD⟩
theorem impl_counter_count.Mem.below {w w' : World} {B n : Nat} (h : impl_counter_count.Mem w B n) (hb : Below w.heap.size w w') : impl_counter_count.Mem w' B n := h.kept (Kept.of_below hb (fun _ => False)) (fun h => h)
theorem impl_counter_count.Mem.mono {w : World} {B n n' : Nat} (h : impl_counter_count.Mem w B n) (hn : n ≤ n') : impl_counter_count.Mem w B n' := by
  obtain ⟨D, h1, h2⟩ := h
  exact ⟨D, h1.mono hn, h2⟩
theorem impl_counter_count.Mem.lt {w : World} {B n : Nat} (h : impl_counter_count.Mem w B n) : B < w.heap.size := by
  obtain ⟨D, h1, h2⟩ := h
  exact h1.lt
theorem impl_counter_count.pow9 (d : Nat) : 1 ≤ 9 ^ d ∧ 9 ^ (d + 1) = 9 * 9 ^ d := ⟨Nat.one_le_pow _ _ (by decide), by rw [Nat.pow_succ, Nat.mul_comm]⟩
set_option maxHeartbeats 8000000 in
set_option maxRecDepth 100000 in
theorem impl_counter_count.calls_g (d : Nat) : ∀ (B n : Nat) (A0 : Option Addr) (c0 : Nat) (l0 : List Int) (r : Int) (w0 w : World) (hB : Below w0.heap.size w0 w) (hb : w0.heap.size ≤ B) (hm : impl_counter_count.Mem w B n) (hn : n + 9 ^ d ≤ 4611686018427387904)
    (hr0 : ∀ W', Kept w W' (fun k_ => k_ = B) → Kd.C (Kd.int .i64) W' A0 l0.length l0) (hc0 : l0.length ≤ c0) (h : impl_counter_count.g d l0 = some r),
    Calls Try.prog 64 #[.map (some B), .slice A0 l0.length c0] w fun e w' => e = .returned (.int .i64 r) ∧ impl_counter_count.Mem w' B (n + 9 ^ d) ∧ Below w0.heap.size w0 w' ∧ Kept w w' (fun k_ => k_ = B) := by
  induction d with
  | zero => intro B n A0 c0 l0 r w0 w _ _ _ _ _ _ h; simp [impl_counter_count.g] at h
  | succ d ih =>
    intro B n A0 c0 l0 r w0 w hB hb hm hn hr0 hc0 h
    obtain ⟨hp1, hp2⟩ := impl_counter_count.pow9 d
    have h0 := h
    rw [impl_counter_count.g] at h
    split at h
    · rename_i hcond
      obtain ⟨hg, h8⟩ := hcond
      have hg := impl_counter_count.good_mem hg
      obtain ⟨ds, hds, h⟩ := Option.bind_eq_some_iff.1 h
      obtain ⟨kd, hds⟩ := impl_counter_count.ev_some hds
      obtain ⟨s, hs, hsk, hs8⟩ := impl_counter_count.orderKey h8 hg
      have hkey : keyOf Try.prog 9 (.string s) = some (Lit.string (impl_counter_count.key l0)) := by
        rw [← hsk]; exact WideMaps.keyOf_string_mk Try.underlying9 (s := s) (by unfold maxLen; omega)
      have hwf : (Lit.int .i64 r).wf = true := by
        split at h
        · cases h; decide
        · split at h
          · exact impl_counter_count.sm_wf _ _ _ _ _ (by decide) h
          · cases h
      have HS := Aside0.mk hs
      have HDS := Aside0.mk hds
      have HKEY := Aside0.mk hkey
      have HWF := Aside0.mk hwf
      have HR := Aside0.mk hr0
      have HC := Aside0.mk hc0
      have HB := Aside0.mk hB
      have HG := Aside0.mk hg
      have HN := Aside0.mk hn
      have Hb := Aside0.mk hb
      have H0 := Aside0.mk h0
      have H := Aside0.mk h
      have IH := Aside0.mk ih
      have HP := Aside0.mk (And.intro hp1 hp2)
      have HM := Aside0.mk hm
      have HK := Aside0.mk (Kept.refl w (fun k_ => k_ = B))
      clear hs hds hkey hwf hr0 hc0 hB hg hn hb h0 h ih hp1 hp2 hm hsk
      obtain ⟨D, hown, hinv⟩ := HM.out
      have HOWN := Aside0.mk hown
      have HINV := Aside0.mk hinv
      clear hown hinv
      cases hh : Maps.has D (.string (impl_counter_count.key l0)) with
      | true =>
        obtain ⟨d1, v1, hv1, hat1⟩ := HINV.out.2 l0 HG.out hh
        obtain rfl := impl_counter_count.g_one hv1 H0.out
        have HAT := Aside0.mk (hat1 (.lit (.int .i64 0)))
        have HH := Aside0.mk hh
        clear hat1 hv1 hh
        go_enter Try.func64, Try.ntmps64
        go_wp2_with (first | (go_at_call 100; (with_reducible refine (impl_orderKey.calls 100 _ _ l0 s _ ?side1 ?side2 HS.out).mono ?_); (case side1 => exact HR.out _ (by repeat (first | (with_reducible first | exact HK.out | apply Kept.alloc | apply Kept.drewN | apply Kept.drew) | exact HK.out))); (case side2 => exact HC.out); rintro e w1 ⟨rfl, hb1⟩; have HB1 := Aside0.mk (below_then HB.out HB.out.size hb1); have HK1 := Aside0.mk (HK.out.below hb1); have HM1 := Aside0.mk (HM.out.below hb1); have HOWN1 := Aside0.mk (HOWN.out.kept (grown_of_below hb1 none) (by simp)); clear hb1) | (at_lookup; refine wpList_lookup_own_ok_int _ rfl _ _ 71 rfl 9 3 .i64 impl_counter_count.law Try.underlying71 Try.underlying3 (impl_counter_count.zero _) B n D rfl HOWN1.out _ _ rfl HKEY.out ?_; intro c hat hwc; obtain rfl : c = v1 := (by have h_ := hat.symm.trans HAT.out; simpa using h_); rw [HH.out]))
        go_ret
        exact ⟨rfl, HM1.out.mono (by have := HP.out; omega), HB1.out, HK1.out⟩
      | false =>
        obtain ⟨rr, hsm, hrr, hd8⟩ : ∃ rr, impl_counter_count.sm (impl_counter_count.g d) l0 ds 0 = some rr ∧ r = (if ds.length = 0 then 1 else rr) ∧ ds.length ≤ 8 := by
          have h := H.out
          by_cases hz : ds.length = 0
          · rw [if_pos hz] at h
            have e := List.length_eq_zero_iff.1 hz
            subst e
            exact ⟨0, rfl, (Option.some.inj h).symm, by simp⟩
          · rw [if_neg hz] at h
            split at h
            · rename_i h8
              exact ⟨r, h, by rw [if_neg hz], h8⟩
            · cases h
        have HSM := Aside0.mk hsm
        have HRR := Aside0.mk hrr
        have HD8 := Aside0.mk hd8
        clear hsm hrr hd8 hds
        have HH := Aside0.mk hh
        clear hh
        go_enter Try.func64, Try.ntmps64
        go_wp2_with (first | (go_at_call 100; (with_reducible refine (impl_orderKey.calls 100 _ _ l0 s _ ?side1 ?side2 HS.out).mono ?_); (case side1 => exact HR.out _ (by repeat (first | (with_reducible first | exact HK.out | apply Kept.alloc | apply Kept.drewN | apply Kept.drew) | exact HK.out))); (case side2 => exact HC.out); rintro e w1 ⟨rfl, hb1⟩; have HB1 := Aside0.mk (below_then HB.out HB.out.size hb1); have HK1 := Aside0.mk (HK.out.below hb1); have HM1 := Aside0.mk (HM.out.below hb1); have HOWN1 := Aside0.mk (HOWN.out.kept (grown_of_below hb1 none) (by simp)); clear hb1) | (at_lookup; refine wpList_lookup_own_ok_int _ rfl _ _ 71 rfl 9 3 .i64 impl_counter_count.law Try.underlying71 Try.underlying3 (impl_counter_count.zero _) B n D rfl HOWN1.out _ _ rfl HKEY.out ?_; intro c hat hwc; rw [HH.out]; clear hat hwc) | (go_at_call 68; (with_reducible refine (impl_descents.calls kd _ _ l0 ds _ ?side1 ?side2 HDS.out).mono ?_); (case side1 => exact HR.out _ (by repeat (first | (with_reducible first | exact HK1.out | apply Kept.alloc | apply Kept.drewN | apply Kept.drew) | exact HK1.out))); (case side2 => exact HC.out); rintro e w2 ⟨v2, rfl, ho2, hb2⟩; have HL := Aside0.mk (Kd.R_mono (Kd.R_bound ho2) (fun k_ h_ => (show k_ ≠ B from fun e_ => by have := HM1.out.lt; have := h_.2.1; omega))); have HB2 := Aside0.mk (below_then HB1.out HB1.out.size hb2); have HK2 := Aside0.mk (HK1.out.below hb2); have HM2 := Aside0.mk (HM1.out.below hb2); clear hb2 ho2; obtain ⟨A2, c2, e2⟩ := Kd.R_slice HL.out; subst e2))
        go_loopg [9, 26] ds.length (fun gg v9 v26 w' => ∃ (i : Nat) (acc : Int) (N : Nat), v9 = .int .i64 acc ∧ v26 = .int .i64 i ∧ i ≤ ds.length ∧ ds.length - i ≤ gg ∧ Aside0 (impl_counter_count.sm (impl_counter_count.g d) l0 (ds.drop i) acc = some rr) ∧ Aside0 (N ≤ n + i * 9 ^ d) ∧ Aside0 (impl_counter_count.Mem w' B N) ∧ Aside0 (Kd.R (Kd.int .i64) 3 w' w1.heap.size (fun k_ => k_ ≠ B) (.slice A2 ds.length c2) ds) ∧ Aside0 (Below w0.heap.size w0 w') ∧ Aside0 (Kept w w' (fun k_ => k_ = B)))
        case atStart => exact ⟨0, 0, n, rfl, rfl, Nat.zero_le _, by omega, ⟨by rw [List.drop_zero]; exact HSM.out⟩, ⟨by omega⟩, HM2, HL, HB2, HK2⟩
        case round =>
          clear HB1 HK1 HM1 HOWN1 HB2 HK2 HM2 HL HSM
          obtain ⟨i, acc, N, rfl, rfl, hi, hgk, HSM, HNN, HM2, HL, HB2, HK2⟩ := hrel
          by_cases hlt : i < ds.length
          · have hltz : (i : Int) < (ds.length : Int) := by omega
            have hdr : ds.drop i = rd ds (i : Int) :: ds.drop (i + 1) := by
              have hr_ : rd ds (i : Int) = ds[i] := by
                show ds.getD ((i : Int)).toNat 0 = _
                rw [Int.toNat_natCast, List.getD_eq_getElem?_getD, List.getElem?_eq_getElem hlt]; rfl
              rw [hr_]; exact List.drop_eq_getElem_cons hlt
            obtain ⟨ad, ead, hx0⟩ := Kd.at_int (Kd.R_reads' HL.out).2.2 (i : Int) (Int.natCast_nonneg i) hltz
            cases ead
            obtain ⟨x, hx⟩ : ∃ x, x = rd ds (i : Int) := ⟨_, rfl⟩
            rw [← hx] at hx0 hdr
            have hsm := HSM.out
            rw [hdr, impl_counter_count.sm] at hsm
            obtain ⟨q, hq, hsm⟩ := Option.bind_eq_some_iff.1 hsm
            obtain ⟨m, hm, hsm⟩ := Option.bind_eq_some_iff.1 hsm
            rw [Int.toNat_natCast] at hx0
            have HQ := Aside0.mk hq
            have HMM := Aside0.mk hm
            have HSM2 := Aside0.mk hsm
            clear HSM hsm hq hm hdr hx
            have hb9 : N + 9 ^ d ≤ n + (i + 1) * 9 ^ d := by have := HNN.out; rw [Nat.add_mul, Nat.one_mul]; omega
            have hlim : N + 9 ^ d ≤ 4611686018427387904 := by
              have h1 := HN.out; have h2 := HP.out; have h3 := HD8.out
              have h4 : (i + 1) * 9 ^ d ≤ 8 * 9 ^ d := Nat.mul_le_mul_right _ (by omega)
              omega
            have HB9 := Aside0.mk hb9
            have HLIM := Aside0.mk hlim
            clear hb9 hlim
            go_wp2_with (first | (go_at_call 69; (with_reducible refine (impl_exchanged.calls _ _ l0 x q _ ?side1 ?side2 HQ.out).mono ?_); (case side1 => exact HR.out _ (by repeat (first | (with_reducible first | exact HK2.out | apply Kept.alloc | apply Kept.drewN | apply Kept.drew) | exact HK2.out))); (case side2 => exact HC.out); rintro e w4 ⟨v4, rfl, ho4, hb4⟩; have HQR := Aside0.mk (Kd.R_mono (Kd.R_bound ho4) (fun k_ h_ => (show k_ ≠ B from fun e_ => by have h1_ := HM2.out.lt; have h2_ := h_.2.1; exact absurd (Nat.lt_of_lt_of_le h1_ h2_) (by rw [e_]; exact Nat.lt_irrefl B)))); have HB4 := Aside0.mk (below_then HB2.out HB2.out.size hb4); have HK4 := Aside0.mk (HK2.out.below hb4); have HM4 := Aside0.mk (HM2.out.below hb4); have HL4 := Aside0.mk (Kd.R_below (by (with_reducible repeat (first | apply Kd.R_alloc | apply Kd.R_drewN | apply Kd.R_drew)); exact HL.out) hb4); clear hb4 ho4; obtain ⟨A4, c4, e4⟩ := Kd.R_slice HQR.out; subst e4) | (go_at_call 64; (with_reducible refine (IH.out B N A4 c4 q m w0 _ ?side1 Hb.out ?side2 HLIM.out ?side3 ?side4 HMM.out).mono ?_); (case side1 => exact HB4.out); (case side2 => exact HM4.out); (case side3 => exact Kd.C_kept_own HQR.out (fun _ h1_ h2_ => h1_ h2_)); (case side4 => exact (Kd.R_reads' HQR.out).2.1); rintro e w5 ⟨rfl, hm5, hb5, hk5⟩; have HM5 := Aside0.mk hm5; have HB5 := Aside0.mk hb5; have HK5 := Aside0.mk (HK4.out.then_ hk5 (fun _ h_ => .inl h_)); have HL5 := Aside0.mk (Kd.R_kept HL4.out hk5 (fun _ h1_ h2_ => h1_ h2_)); clear hm5 hb5 hk5))
            have hd8_ := HD8.out
            go_roundg (ds.length - (i + 1))
            case measure => omega
            case rel => exact ⟨i + 1, wrap64 (acc + m), N + 9 ^ d, (by first | rfl | (simp; done)), (by first | go_num | (congr 1; unfold wrap64; omega)), by omega, by omega, HSM2, HB9, HM5, HL5, HB5, HK5⟩
          · have hltz : ¬ (i : Int) < (ds.length : Int) := by omega
            have hie : i = ds.length := by omega
            have hsm := HSM.out
            rw [List.drop_eq_nil_of_le (by omega), impl_counter_count.sm] at hsm
            obtain rfl := Option.some.inj hsm
            clear HSM hsm
            obtain ⟨D5, hown5, hinv5⟩ := HM2.out
            have HO5 := Aside0.mk hown5
            have HI5 := Aside0.mk hinv5
            clear hown5 hinv5
            have hlim : N + 1 ≤ n + 9 ^ (d + 1) ∧ N < 4611686018427387904 := by
              have h1 := HN.out; have h2 := HP.out; have h3 := HD8.out; have h4 := HNN.out
              have h5 : i * 9 ^ d ≤ 8 * 9 ^ d := Nat.mul_le_mul_right _ (by omega)
              omega
            have HLIM := Aside0.mk hlim
            clear hlim
            by_cases hz : ds.length = 0
            · have hr1 : r = 1 := by have := HRR.out; rw [if_pos hz] at this; exact this
              subst hr1
              have hz0 : decide ((ds.length : Int) = 0) = true := decide_eq_true (by omega)
              have hz1 : decide (ds.length = 0) = true := decide_eq_true hz
              go_wp2_with (at_mapUpdate; refine wpList_mapUpdate_own _ rfl _ _ _ 71 rfl 9 3 impl_counter_count.law Try.underlying71 _ B N D5 rfl HO5.out (by have := HLIM.out; unfold maxLen; omega) _ _ _ rfl rfl HKEY.out _ [] (plainElem_int Try.underlying3 HWF.out) ?_; intro w6 hown6 hgrow6)
              go_ret
              exact ⟨rfl, ⟨_, hown6.mono HLIM.out.1, impl_counter_count.inv_put HI5.out HG.out H0.out⟩, HB2.out.grown hgrow6 HB2.out.size (fun k_ h_ => by cases h_; exact Hb.out), Kept.of_grown hgrow6 HK2.out (fun k_ h_ => by cases h_; exact .inl rfl)⟩
            · have hr1 : r = acc := by have := HRR.out; rw [if_neg hz] at this; exact this
              subst hr1
              have hz0 : decide ((ds.length : Int) = 0) = false := decide_eq_false (by omega)
              have hz1 : decide (ds.length = 0) = false := decide_eq_false hz
              go_wp2_with (at_mapUpdate; refine wpList_mapUpdate_own _ rfl _ _ _ 71 rfl 9 3 impl_counter_count.law Try.underlying71 _ B N D5 rfl HO5.out (by have := HLIM.out; unfold maxLen; omega) _ _ _ rfl rfl HKEY.out _ [] (plainElem_int Try.underlying3 HWF.out) ?_; intro w6 hown6 hgrow6)
              go_ret
              exact ⟨rfl, ⟨_, hown6.mono HLIM.out.1, impl_counter_count.inv_put HI5.out HG.out H0.out⟩, HB2.out.grown hgrow6 HB2.out.size (fun k_ h_ => by cases h_; exact Hb.out), Kept.of_grown hgrow6 HK2.out (fun k_ h_ => by cases h_; exact .inl rfl)⟩
    · cases h
theorem impl_counter_count.calls (B n : Nat) (A0 : Option Addr) (c0 : Nat) (l0 : List Int) (r : Int) (w0 w : World) (hB : Below w0.heap.size w0 w) (hb : w0.heap.size ≤ B) (hm : impl_counter_count.Mem w B n) (hn : n + 9 ^ 16 ≤ 4611686018427387904)
    (hr0 : ∀ W', Kept w W' (fun k_ => k_ = B) → Kd.C (Kd.int .i64) W' A0 l0.length l0) (hc0 : l0.length ≤ c0) (h : impl_counter_count.f l0 = some r) :
    Calls Try.prog 64 #[.map (some B), .slice A0 l0.length c0] w fun e w' => e = .returned (.int .i64 r) ∧ impl_counter_count.Mem w' B (n + 9 ^ 16) ∧ Below w0.heap.size w0 w' ∧ Kept w w' (fun k_ => k_ = B) :=
  impl_counter_count.calls_g 16 B n A0 c0 l0 r w0 w hB hb hm hn hr0 hc0 h
theorem impl_counter_count.Mem.made (w : World) : impl_counter_count.Mem (w.alloc (.map #[] 0)) w.heap.size 0 := ⟨_, World.ownsMap_made _ _ _ _, impl_counter_count.inv_empty⟩
theorem impl_counter_count.callsN (B n : Nat) (A0 : Option Addr) (c0 : Nat) (l0 : List Int) (r : Int) (w0 w : World) (hB : Below w0.heap.size w0 w) (hb : w0.heap.size ≤ B) (hm : impl_counter_count.Mem w B n) (hn : n + 1853020188851841 ≤ 4611686018427387904)
    (hr0 : ∀ W', Kept w W' (fun k_ => k_ = B) → Kd.C (Kd.int .i64) W' A0 l0.length l0) (hc0 : l0.length ≤ c0) (h : impl_counter_count.f l0 = some r) :
    Calls Try.prog 64 #[.map (some B), .slice A0 l0.length c0] w fun e w' => e = .returned (.int .i64 r) ∧ impl_counter_count.Mem w' B (n + 1853020188851841) ∧ Below w0.heap.size w0 w' ∧ Kept w w' (fun k_ => k_ = B) := by
  have e : (9 : Nat) ^ 16 = 1853020188851841 := by decide
  have h1 := impl_counter_count.calls B n A0 c0 l0 r w0 w hB hb hm (by rw [e]; exact hn) hr0 hc0 h
  rw [e] at h1
  exact h1

-- NOT PRINTED: function 62 (impl_CountByLength_1)

end
end Go.Proofs.Ytnddmmjofpfmfaa.PCb
