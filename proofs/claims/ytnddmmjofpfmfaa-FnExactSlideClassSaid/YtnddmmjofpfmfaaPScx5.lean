-- Written for this claim by a program of this session (myprint.py) over the kit's printer.
import Derived.Test.YtnddmmjofpfmfaaPScx0
import Derived.Test.YtnddmmjofpfmfaaPScx3
import Derived.Test.YtnddmmjofpfmfaaPScx4
namespace Go.Proofs.Ytnddmmjofpfmfaa.PSc
noncomputable section
open Go.RowKit Go.Proofs.YtnddmmjofpfmfaaW.PrintWords Go.Proofs.YtnddmmjofpfmfaaW.PrintLast Go.Proofs.YtnddmmjofpfmfaaW.PrintMore
attribute [local go_sem] max2_int min2_int max_two min_two max_three min_three max_four min_four   -- for this text's walks alone
set_option linter.unusedVariables false
set_option linter.unusedSimpArgs false

/-! ### spec_SlideClass: function 29 -/
/-- What the order holds behind the copy that makes room at a place. -/
def spec_SlideClass.shf (x : List Int) (n : Nat) : List Int := x.take (n + 1) ++ (x.drop n).take (x.length - (n + 1))
theorem spec_SlideClass.shf_length (x : List Int) (n : Nat) (h : n < x.length) : (spec_SlideClass.shf x n).length = x.length := by
  unfold spec_SlideClass.shf
  rw [List.length_append, List.length_take, List.length_take, List.length_drop]; omega
/-- A copy whose run is known, as a step of a region that draws its order. -/
theorem spec_SlideClass.step {P : Program} {ops : Array Oper} {o : Oper} {a : Act} {W : World} {K : Act → World → Prop} {Q : Exit → Act → World → Prop} {E : Prop} (hg : o.guard = none) (d x : Operand) (t t' : TypeId)
    (hop : o.op = Op.call { callee := Callee.builtin Builtin.copy, args := #[d, x], argTypes := #[t, t'] }) (v u : Value) (hd : a.eval d = v) (hx : a.eval x = u) {z : Value} {W' : World} (hr : (Builtin.copy_ #[t, t'] o.type #[v, u]).run P W = .ok z W') (hK : K (a.put o.dst z) W') :
    if Region.wanted o (yielded ops a.tmps) = true then Oper.wp P o a W K Q else E := by
  rw [if_pos (show Region.wanted o (yielded ops a.tmps) = true by simp [Region.wanted, hg])]
  unfold Oper.wp
  simp [execOp, hop, resolve, invoke, builtin, hd, hx, hr, Result.andThen]
  exact hK
theorem spec_SlideClass.copy_run {P : Program} {w0 W : World} (base : Nat) (t t' e : TypeId) (ht : P.underlying t = some (.slice e)) (hinfo : (P.info? e).map (·.size) = some 1)
    (A : Option Addr) (cap n : Nat) (xs : List Int) (ok : Nat → Prop) (hn : n < xs.length)
    (HO : Kd.R (Kd.int .i64) e W base ok (.slice A xs.length cap) xs) (HB : Below base w0 W) (hbase : base ≤ W.heap.size) (c1 c2 : Nat) :
    ∃ w1, (∀ ty, (Builtin.copy_ #[t, t'] ty #[.slice (if cap = n + 1 then A else A.map (·.add ((n + 1) * 1))) (xs.length - (n + 1)) c1, .slice (if cap = n then A else A.map (·.add (n * 1))) (xs.length - n) c2]).run P W = .ok (goInt ((xs.length - (n + 1) : Nat) : Int)) w1) ∧ Kd.R (Kd.int .i64) e w1 base ok (.slice A xs.length cap) (spec_SlideClass.shf xs n) ∧ Below base w0 w1 ∧ W.grownBy w1 (Value.slice A xs.length cap).ownBlock := by
  have hown := Kd.own_of_R (enc := Value.int .i64) (h1 := fun _ => rfl) HO
  have hok := HO.1
  rcases hown.2 with ⟨hv, h0⟩ | ⟨g, cap', cur, hv, hb, hh, hnc, hcm, hcs, htake⟩
  · injection hv with h1 h2 h3
    omega
  · injection hv with h1 h2 h3
    subst h1; subst h3
    rw [Nat.mul_one] at hcs htake
    have henc : ∀ ys : List Int, encs (Value.int .i64) ys = ys.map (Value.int .i64) := fun ys => by simp [encs]
    rw [henc] at htake
    by_cases h1 : xs.length = n + 1
    · have hz : Nat.min (xs.length - n) (xs.length - (n + 1)) = 0 := by
        rw [h1, Nat.sub_self]; exact Nat.min_zero _
      have hr := fun ty => run_copy_none (P := P) W t t' ty e (if cap = n + 1 then some ⟨g, 0, none⟩ else (some ⟨g, 0, none⟩ : Option Addr).map (·.add ((n + 1) * 1))) (if cap = n then some ⟨g, 0, none⟩ else (some ⟨g, 0, none⟩ : Option Addr).map (·.add (n * 1))) (xs.length - (n + 1)) c1 (xs.length - n) c2 ht hinfo hz
      refine ⟨W, fun ty => ?_, ?_, HB, ⟨rfl, rfl, rfl, Nat.le_refl _, fun _ _ _ => rfl⟩⟩
      · rw [hr ty, h1, Nat.sub_self]; rfl
      · have e1 : spec_SlideClass.shf xs n = xs := by
          unfold spec_SlideClass.shf
          rw [← h1, List.take_length, Nat.sub_self, List.take_zero, List.append_nil]
        rw [e1]; exact HO
    · have ecap : ¬ cap = n + 1 ∧ ¬ cap = n := by omega
      have ea : ((⟨g, 0, none⟩ : Addr).add ((n + 1) * 1)) = ⟨g, n + 1, none⟩ := by simp [Addr.add]
      have eb : ((⟨g, 0, none⟩ : Addr).add (n * 1)) = ⟨g, n, none⟩ := by simp [Addr.add]; omega
      rw [if_neg ecap.1, if_neg ecap.2, Option.map_some, Option.map_some, ea, eb]
      have hkl : (encs (Value.int .i64) ((xs.drop n).take (xs.length - (n + 1)))).length = xs.length - (n + 1) := by rw [encs_length, List.length_take, List.length_drop]; omega
      have hsrc : ∀ j u, (encs (Value.int .i64) ((xs.drop n).take (xs.length - (n + 1))))[j]? = some u → W.cell? ((⟨g, n, none⟩ : Addr).add j) = some u := by
        intro j u hu
        have ec : (⟨g, n, none⟩ : Addr).add j = ⟨g, n + j, none⟩ := by simp [Addr.add]
        rw [ec, cell_of_row W g _ cur e (0, 0) hh, ← Array.getElem?_toList]
        rw [henc, List.getElem?_map, List.getElem?_take] at hu
        split at hu
        · rename_i hj
          have h4 : (cur.toList.take xs.length)[n + j]? = (xs.map (Value.int .i64))[n + j]? := by rw [htake]
          rw [List.getElem?_take, if_pos (by omega), List.getElem?_map] at h4
          rw [List.getElem?_drop] at hu
          rw [h4, hu]
        · cases hu
      have hr := fun ty => run_copy_cells (P := P) W t t' ty e g (n + 1) (xs.length - (n + 1)) c1 ⟨g, n, none⟩ (xs.length - n) c2 (encs (Value.int .i64) ((xs.drop n).take (xs.length - (n + 1)))) ht hinfo (by rw [hkl]; exact (Nat.min_eq_right (by omega)).symm) hsrc
        (fun j hj => by rw [cell_of_row W g _ cur e (0, 0) hh]; simp; omega) (fun j _ => blk_frozen hh _) (by intro u hu; simp only [encs, List.mem_map] at hu; obtain ⟨q, _, rfl⟩ := hu; rfl)
      obtain ⟨cur', h3, h4, h5⟩ := setCells_row (encs (Value.int .i64) ((xs.drop n).take (xs.length - (n + 1)))) (n + 1) W cur hh (by rw [hkl]; omega)
      obtain ⟨s1, s2, s3, s4⟩ := setCells_same g (encs (Value.int .i64) ((xs.drop n).take (xs.length - (n + 1)))) (n + 1) W
      rw [hkl] at hr
      have hg : W.grownBy (W.setCells g (n + 1) (encs (Value.int .i64) ((xs.drop n).take (xs.length - (n + 1))))) (Value.slice (some ⟨g, 0, none⟩) xs.length cap).ownBlock := ⟨s1, s2, s3, by rw [s4]; exact Nat.le_refl _, fun k _ hk => setCells_far _ _ k (fun he => hk (by rw [he]; simp [Value.ownBlock]))⟩
      refine ⟨_, hr, Kd.R_of_own (enc := Value.int .i64) (h1 := fun _ => rfl) ?_ hok, HB.grown hg hbase (own_base hown), hg⟩
      rw [spec_SlideClass.shf_length xs n hn]
      refine ⟨by rw [encs_length, spec_SlideClass.shf_length xs n hn, Nat.mul_one], .inr ⟨g, cap, cur', rfl, hb, h3, hnc, hcm, by rw [h4]; omega, ?_⟩⟩
      rw [h5, Nat.mul_one, hkl, henc, henc]
      have e1 : cur.toList.take (n + 1) = (xs.take (n + 1)).map (Value.int .i64) := by rw [List.map_take, ← htake, List.take_take, Nat.min_eq_left (by omega)]
      unfold spec_SlideClass.shf
      rw [List.map_append, ← e1]
      exact List.take_left' (by rw [List.length_append, List.length_take, List.length_map, List.length_take, List.length_drop, Array.length_toList]; omega)
mutual
def spec_SlideClass.l0 : Nat → List (List Int) → List Int → Int → Int → List Int → Option ((List (S31)) × Bool)
  | 0, _, _, _, _, _ => none
  | k + 1, x4, x5, x6, x149000, x149001 => if x6 < (x4.length : Int) then (spec_SlideClass.l1 k x4 x5 x6 (x149001.length : Int) 0 x149000 x149001) else (spec_SlideClass.l3 k x4 ([] : List (S31)) x5 (x5.length : Int) 0 x149000 x149001)
def spec_SlideClass.l1 : Nat → List (List Int) → List Int → Int → Int → Int → Int → List Int → Option ((List (S31)) × Bool)
  | 0, _, _, _, _, _, _, _ => none
  | k + 1, x4, x5, x6, x32, x33, x149000, x149001 => if x33 < x32 then (if 0 ≤ x6 then (if x6 < (x4.length : Int) then ((spec_lsSlide.f (rd_L1 x4 x6) x33).bind fun bt160 => (if bt160.2 = true then (spec_SlideClass.l2 k x4 x5 x6 bt160.1 0 (x5.length : Int) x32 x33 x149000 x149001) else (spec_SlideClass.l1 k x4 x5 x6 x32 (wrap64 (x33 + 1)) x149000 x149001))) else (none)) else (none)) else (spec_SlideClass.l0 k x4 x5 (wrap64 (x6 + 1)) x149000 x149001)
def spec_SlideClass.l2 : Nat → List (List Int) → List Int → Int → List Int → Int → Int → Int → Int → Int → List Int → Option ((List (S31)) × Bool)
  | 0, _, _, _, _, _, _, _, _, _, _ => none
  | k + 1, x4, x5, x6, x8, x10, x11, x32, x33, x149000, x149001 => if x10 < x11 then (if 0 ≤ (wrap64 (Int.tdiv (wrap64 (x10 + x11)) 2)) then (if (wrap64 (Int.tdiv (wrap64 (x10 + x11)) 2)) < (x5.length : Int) then (if 0 ≤ (rd x5 (wrap64 (Int.tdiv (wrap64 (x10 + x11)) 2))) then (if (rd x5 (wrap64 (Int.tdiv (wrap64 (x10 + x11)) 2))) < (x4.length : Int) then ((spec_lsLess.f k (rd_L1 x4 (rd x5 (wrap64 (Int.tdiv (wrap64 (x10 + x11)) 2)))) x8).bind fun t166 => (if t166 = true then (spec_SlideClass.l2 k x4 x5 x6 x8 (wrap64 ((wrap64 (Int.tdiv (wrap64 (x10 + x11)) 2)) + 1)) x11 x32 x33 x149000 x149001) else (spec_SlideClass.l2 k x4 x5 x6 x8 x10 (wrap64 (Int.tdiv (wrap64 (x10 + x11)) 2)) x32 x33 x149000 x149001))) else (none)) else (none)) else (none)) else (none)) else (if x10 < (x5.length : Int) then (if 0 ≤ x10 then (if 0 ≤ (rd x5 x10) then (if (rd x5 x10) < (x4.length : Int) then ((spec_lsSame.f k (rd_L1 x4 (rd x5 x10)) x8).bind fun t169 => (spec_SlideClass.j3 k x4 x5 x6 x8 x10 x32 x33 t169 x149000 x149001)) else (none)) else (none)) else (none)) else (spec_SlideClass.j3 k x4 x5 x6 x8 x10 x32 x33 false x149000 x149001))
def spec_SlideClass.j3 : Nat → List (List Int) → List Int → Int → List Int → Int → Int → Int → Bool → Int → List Int → Option ((List (S31)) × Bool)
  | 0, _, _, _, _, _, _, _, _, _, _ => none
  | k + 1, x4, x5, x6, x8, x10, x32, x33, x82, x149000, x149001 => if x82 = true then (spec_SlideClass.l1 k x4 x5 x6 x32 (wrap64 (x33 + 1)) x149000 x149001) else (if x4.length < 5864062014805 then ((some (x4 ++ [x8] : List (List Int))).bind fun y170 => (if x5.length < 17592186044416 then ((some (x5 ++ [0] : List Int)).bind fun y173 => (if 0 ≤ (wrap64 (x10 + 1)) then (if (wrap64 (x10 + 1)) ≤ (y173.length : Int) then (if 0 ≤ x10 then (if x10 ≤ (y173.length : Int) then (if x10 < (y173.length : Int) then (if (y170.length : Int) > 400 then (some (([] : List (S31)), false)) else (spec_SlideClass.l1 k y170 ((spec_SlideClass.shf y173 (x10 : Int).toNat).set (x10 : Int).toNat (wrap64 ((y170.length : Int) - 1))) x6 x32 (wrap64 (x33 + 1)) x149000 x149001)) else (none)) else (none)) else (none)) else (none)) else (none))) else (none))) else (none))
def spec_SlideClass.l3 : Nat → List (List Int) → List (S31) → List Int → Int → Int → Int → List Int → Option ((List (S31)) × Bool)
  | 0, _, _, _, _, _, _, _ => none
  | k + 1, x4, x13, x108, x109, x110, x149000, x149001 => if x110 < x109 then (if 0 ≤ x110 then (if x110 < (x108.length : Int) then (if 0 ≤ (rd x108 x110) then (if (rd x108 x110) < (x4.length : Int) then (if x13.length < 4398046511104 then (spec_SlideClass.l3 k x4 (x13 ++ [(⟨x149000, rd_L1 x4 (rd x108 x110)⟩ : S31)]) x108 x109 (wrap64 (x110 + 1)) x149000 x149001) else (none)) else (none)) else (none)) else (none)) else (none)) else (some (x13, true))
end
def spec_SlideClass.f (k : Nat) (a0_0 : Int) (l0_1 : List Int) : Option ((List (S31)) × Bool) := (spec_laGood.f k a0_0 l0_1).bind fun t149 => (if t149 = true then ((spec_l1Own.f l0_1).bind fun t150 => (spec_SlideClass.l0 k (([t150] : List (List Int))) (([0] : List Int)) 0 a0_0 l0_1)) else (some (([] : List (S31)), false)))
theorem spec_SlideClass.mono_l : ∀ k, (∀ y0 y1 y2 y3 y4, LeO (spec_SlideClass.l0 k y0 y1 y2 y3 y4) (spec_SlideClass.l0 (k + 1) y0 y1 y2 y3 y4)) ∧ (∀ y0 y1 y2 y3 y4 y5 y6, LeO (spec_SlideClass.l1 k y0 y1 y2 y3 y4 y5 y6) (spec_SlideClass.l1 (k + 1) y0 y1 y2 y3 y4 y5 y6)) ∧ (∀ y0 y1 y2 y3 y4 y5 y6 y7 y8 y9, LeO (spec_SlideClass.l2 k y0 y1 y2 y3 y4 y5 y6 y7 y8 y9) (spec_SlideClass.l2 (k + 1) y0 y1 y2 y3 y4 y5 y6 y7 y8 y9)) ∧ (∀ y0 y1 y2 y3 y4 y5 y6 y7 y8 y9, LeO (spec_SlideClass.j3 k y0 y1 y2 y3 y4 y5 y6 y7 y8 y9) (spec_SlideClass.j3 (k + 1) y0 y1 y2 y3 y4 y5 y6 y7 y8 y9)) ∧ (∀ y0 y1 y2 y3 y4 y5 y6, LeO (spec_SlideClass.l3 k y0 y1 y2 y3 y4 y5 y6) (spec_SlideClass.l3 (k + 1) y0 y1 y2 y3 y4 y5 y6))
  | 0 => ⟨fun _ _ _ _ _ r h => by simp [spec_SlideClass.l0] at h, fun _ _ _ _ _ _ _ r h => by simp [spec_SlideClass.l1] at h, fun _ _ _ _ _ _ _ _ _ _ r h => by simp [spec_SlideClass.l2] at h, fun _ _ _ _ _ _ _ _ _ _ r h => by simp [spec_SlideClass.j3] at h, fun _ _ _ _ _ _ _ r h => by simp [spec_SlideClass.l3] at h⟩
  | k + 1 => by
    obtain ⟨ih0, ih1, ih2, ih3, ih4⟩ := spec_SlideClass.mono_l k
    refine ⟨?_, ?_, ?_, ?_, ?_⟩
    · intro y0 y1 y2 y3 y4
      unfold spec_SlideClass.l0
      repeat' first
      | (with_reducible exact ih0 _ _ _ _ _)
      | (with_reducible exact ih1 _ _ _ _ _ _ _)
      | (with_reducible exact ih2 _ _ _ _ _ _ _ _ _ _)
      | (with_reducible exact ih3 _ _ _ _ _ _ _ _ _ _)
      | (with_reducible exact ih4 _ _ _ _ _ _ _)
      | (with_reducible exact spec_laGood.mono _ _ _)
      | (with_reducible exact spec_lsLess.mono _ _ _)
      | (with_reducible exact spec_lsSame.mono _ _ _)
      | (with_reducible exact LeO.refl _)
      | (with_reducible exact LeO.none _)
      | (with_reducible refine LeO.ite ?_ ?_)
      | (with_reducible refine LeO.bind ?_ (fun _ => ?_))
      | exact ih0 _ _ _ _ _
      | exact ih1 _ _ _ _ _ _ _
      | exact ih2 _ _ _ _ _ _ _ _ _ _
      | exact ih3 _ _ _ _ _ _ _ _ _ _
      | exact ih4 _ _ _ _ _ _ _
      | exact spec_laGood.mono _ _ _
      | exact spec_lsLess.mono _ _ _
      | exact spec_lsSame.mono _ _ _
      | exact LeO.none _
      | refine LeO.ite ?_ ?_
      | refine LeO.bind ?_ (fun _ => ?_)
    · intro y0 y1 y2 y3 y4 y5 y6
      unfold spec_SlideClass.l1
      repeat' first
      | (with_reducible exact ih0 _ _ _ _ _)
      | (with_reducible exact ih1 _ _ _ _ _ _ _)
      | (with_reducible exact ih2 _ _ _ _ _ _ _ _ _ _)
      | (with_reducible exact ih3 _ _ _ _ _ _ _ _ _ _)
      | (with_reducible exact ih4 _ _ _ _ _ _ _)
      | (with_reducible exact spec_laGood.mono _ _ _)
      | (with_reducible exact spec_lsLess.mono _ _ _)
      | (with_reducible exact spec_lsSame.mono _ _ _)
      | (with_reducible exact LeO.refl _)
      | (with_reducible exact LeO.none _)
      | (with_reducible refine LeO.ite ?_ ?_)
      | (with_reducible refine LeO.bind ?_ (fun _ => ?_))
      | exact ih0 _ _ _ _ _
      | exact ih1 _ _ _ _ _ _ _
      | exact ih2 _ _ _ _ _ _ _ _ _ _
      | exact ih3 _ _ _ _ _ _ _ _ _ _
      | exact ih4 _ _ _ _ _ _ _
      | exact spec_laGood.mono _ _ _
      | exact spec_lsLess.mono _ _ _
      | exact spec_lsSame.mono _ _ _
      | exact LeO.none _
      | refine LeO.ite ?_ ?_
      | refine LeO.bind ?_ (fun _ => ?_)
    · intro y0 y1 y2 y3 y4 y5 y6 y7 y8 y9
      unfold spec_SlideClass.l2
      repeat' first
      | (with_reducible exact ih0 _ _ _ _ _)
      | (with_reducible exact ih1 _ _ _ _ _ _ _)
      | (with_reducible exact ih2 _ _ _ _ _ _ _ _ _ _)
      | (with_reducible exact ih3 _ _ _ _ _ _ _ _ _ _)
      | (with_reducible exact ih4 _ _ _ _ _ _ _)
      | (with_reducible exact spec_laGood.mono _ _ _)
      | (with_reducible exact spec_lsLess.mono _ _ _)
      | (with_reducible exact spec_lsSame.mono _ _ _)
      | (with_reducible exact LeO.refl _)
      | (with_reducible exact LeO.none _)
      | (with_reducible refine LeO.ite ?_ ?_)
      | (with_reducible refine LeO.bind ?_ (fun _ => ?_))
      | exact ih0 _ _ _ _ _
      | exact ih1 _ _ _ _ _ _ _
      | exact ih2 _ _ _ _ _ _ _ _ _ _
      | exact ih3 _ _ _ _ _ _ _ _ _ _
      | exact ih4 _ _ _ _ _ _ _
      | exact spec_laGood.mono _ _ _
      | exact spec_lsLess.mono _ _ _
      | exact spec_lsSame.mono _ _ _
      | exact LeO.none _
      | refine LeO.ite ?_ ?_
      | refine LeO.bind ?_ (fun _ => ?_)
    · intro y0 y1 y2 y3 y4 y5 y6 y7 y8 y9
      unfold spec_SlideClass.j3
      repeat' first
      | (with_reducible exact ih0 _ _ _ _ _)
      | (with_reducible exact ih1 _ _ _ _ _ _ _)
      | (with_reducible exact ih2 _ _ _ _ _ _ _ _ _ _)
      | (with_reducible exact ih3 _ _ _ _ _ _ _ _ _ _)
      | (with_reducible exact ih4 _ _ _ _ _ _ _)
      | (with_reducible exact spec_laGood.mono _ _ _)
      | (with_reducible exact spec_lsLess.mono _ _ _)
      | (with_reducible exact spec_lsSame.mono _ _ _)
      | (with_reducible exact LeO.refl _)
      | (with_reducible exact LeO.none _)
      | (with_reducible refine LeO.ite ?_ ?_)
      | (with_reducible refine LeO.bind ?_ (fun _ => ?_))
      | exact ih0 _ _ _ _ _
      | exact ih1 _ _ _ _ _ _ _
      | exact ih2 _ _ _ _ _ _ _ _ _ _
      | exact ih3 _ _ _ _ _ _ _ _ _ _
      | exact ih4 _ _ _ _ _ _ _
      | exact spec_laGood.mono _ _ _
      | exact spec_lsLess.mono _ _ _
      | exact spec_lsSame.mono _ _ _
      | exact LeO.none _
      | refine LeO.ite ?_ ?_
      | refine LeO.bind ?_ (fun _ => ?_)
    · intro y0 y1 y2 y3 y4 y5 y6
      unfold spec_SlideClass.l3
      repeat' first
      | (with_reducible exact ih0 _ _ _ _ _)
      | (with_reducible exact ih1 _ _ _ _ _ _ _)
      | (with_reducible exact ih2 _ _ _ _ _ _ _ _ _ _)
      | (with_reducible exact ih3 _ _ _ _ _ _ _ _ _ _)
      | (with_reducible exact ih4 _ _ _ _ _ _ _)
      | (with_reducible exact spec_laGood.mono _ _ _)
      | (with_reducible exact spec_lsLess.mono _ _ _)
      | (with_reducible exact spec_lsSame.mono _ _ _)
      | (with_reducible exact LeO.refl _)
      | (with_reducible exact LeO.none _)
      | (with_reducible refine LeO.ite ?_ ?_)
      | (with_reducible refine LeO.bind ?_ (fun _ => ?_))
      | exact ih0 _ _ _ _ _
      | exact ih1 _ _ _ _ _ _ _
      | exact ih2 _ _ _ _ _ _ _ _ _ _
      | exact ih3 _ _ _ _ _ _ _ _ _ _
      | exact ih4 _ _ _ _ _ _ _
      | exact spec_laGood.mono _ _ _
      | exact spec_lsLess.mono _ _ _
      | exact spec_lsSame.mono _ _ _
      | exact LeO.none _
      | refine LeO.ite ?_ ?_
      | refine LeO.bind ?_ (fun _ => ?_)
theorem spec_SlideClass.mono : ∀ a0 a1 k, LeO (spec_SlideClass.f k a0 a1) (spec_SlideClass.f (k + 1) a0 a1) := by
  intro a0 a1 k
  obtain ⟨ih0, ih1, ih2, ih3, ih4⟩ := spec_SlideClass.mono_l k
  unfold spec_SlideClass.f
  repeat' first
      | (with_reducible exact ih0 _ _ _ _ _)
      | (with_reducible exact ih1 _ _ _ _ _ _ _)
      | (with_reducible exact ih2 _ _ _ _ _ _ _ _ _ _)
      | (with_reducible exact ih3 _ _ _ _ _ _ _ _ _ _)
      | (with_reducible exact ih4 _ _ _ _ _ _ _)
      | (with_reducible exact spec_laGood.mono _ _ _)
      | (with_reducible exact spec_lsLess.mono _ _ _)
      | (with_reducible exact spec_lsSame.mono _ _ _)
      | (with_reducible exact LeO.refl _)
      | (with_reducible exact LeO.none _)
      | (with_reducible refine LeO.ite ?_ ?_)
      | (with_reducible refine LeO.bind ?_ (fun _ => ?_))
      | exact ih0 _ _ _ _ _
      | exact ih1 _ _ _ _ _ _ _
      | exact ih2 _ _ _ _ _ _ _ _ _ _
      | exact ih3 _ _ _ _ _ _ _ _ _ _
      | exact ih4 _ _ _ _ _ _ _
      | exact spec_laGood.mono _ _ _
      | exact spec_lsLess.mono _ _ _
      | exact spec_lsSame.mono _ _ _
      | exact LeO.none _
      | refine LeO.ite ?_ ?_
      | refine LeO.bind ?_ (fun _ => ?_)
def spec_SlideClass.T22 : Bool × List (List Nat × List Nat) := (true, [([], []), ([], []), ([1], [1]), ([0, 2], [0, 2]), ([], []), ([], []), ([4, 5], [4, 5]), ([3, 6], [3, 6])])
def spec_SlideClass.B22 : List Nat := [0, 0, 2, 7, 0, 0, 48, 127]
theorem spec_SlideClass.tab22 : rtab .any (opsOf Try.f29 22) = spec_SlideClass.T22 := by kernel_rfl
theorem spec_SlideClass.bits22 : waitsOk spec_SlideClass.T22.2 spec_SlideClass.B22 = true := by kernel_rfl
def spec_SlideClass.T31 : Bool × List (List Nat × List Nat) := (true, [([], []), ([], []), ([1], [1]), ([], []), ([], []), ([3, 4], [3, 4]), ([5], [5]), ([2, 6], [2, 6]), ([7], [7]), ([0, 8], [0, 8]), ([9, 9, 0, 1, 2, 3, 4, 5, 6, 7, 8, 9], [0, 9])])
def spec_SlideClass.B31 : List Nat := [0, 0, 2, 0, 0, 24, 56, 126, 254, 511, 1023]
theorem spec_SlideClass.tab31 : rtab .any (opsOf Try.f29 31) = spec_SlideClass.T31 := by kernel_rfl
theorem spec_SlideClass.bits31 : waitsOk spec_SlideClass.T31.2 spec_SlideClass.B31 = true := by kernel_rfl
set_option maxHeartbeats 8000000 in
set_option maxRecDepth 100000 in
theorem spec_SlideClass.calls (k : Nat) (a0_0 : Int) (A0_1 : Option Addr) (c0_1 : Nat) (l0_1 : List Int) (r1 : List (S31)) (r2 : Bool) (w : World) (hr0_1 : Kd.C (Kd.int .i64) w A0_1 l0_1.length l0_1) (hc0_1 : l0_1.length ≤ c0_1) (h : spec_SlideClass.f k a0_0 l0_1 = some (r1, r2)) :
    Calls Try.prog 29 #[.agg #[.int .i64 a0_0, .slice A0_1 l0_1.length c0_1]] w fun e w' => ∃ v0_ : Value, e = .returned (.tuple #[v0_, .bool r2]) ∧ Kd.N k31 31 w' w.heap.size (fun k_ => (w.heap.size ≤ k_)) v0_ r1 ∧ Below w.heap.size w w' := by
  have hu31 := Try.underlying31
  have HR0_1 := Aside0.mk hr0_1
  have HC0_1 := Aside0.mk hc0_1
  clear hr0_1 hc0_1
  have HB := Aside0.mk (Below.refl w.heap.size w)
  have H : ((spec_laGood.f k a0_0 l0_1).bind fun t149 => (if t149 = true then ((spec_l1Own.f l0_1).bind fun t150 => (spec_SlideClass.l0 k (([t150] : List (List Int))) (([0] : List Int)) 0 a0_0 l0_1)) else (some (([] : List (S31)), false)))) = some (r1, r2) := h
  clear h
  replace H := Option.bind_eq_some_iff.mp H
  obtain ⟨t149, A20, H⟩ := H
  replace H : (if t149 = true then ((spec_l1Own.f l0_1).bind fun t150 => (spec_SlideClass.l0 k (([t150] : List (List Int))) (([0] : List Int)) 0 a0_0 l0_1)) else (some (([] : List (S31)), false))) = some (r1, r2) := H
  have A2 := Aside0.mk A20
  clear A20
  by_cases c3 : t149 = true
  · subst c3
    have H1 : ((spec_l1Own.f l0_1).bind fun t150 => (spec_SlideClass.l0 k (([t150] : List (List Int))) (([0] : List Int)) 0 a0_0 l0_1)) = some (r1, r2) := by rw [if_pos rfl] at H; exact H
    clear H
    have H := H1
    clear H1
    replace H := Option.bind_eq_some_iff.mp H
    obtain ⟨t150, A40, H⟩ := H
    replace H : (spec_SlideClass.l0 k (([t150] : List (List Int))) (([0] : List Int)) 0 a0_0 l0_1) = some (r1, r2) := H
    have A4 := Aside0.mk A40
    clear A40
    obtain ⟨y153, hy153⟩ : ∃ y_ : List (List Int), y_ = (([t150] : List (List Int))) := ⟨_, rfl⟩
    replace H : (spec_SlideClass.l0 k y153 (([0] : List Int)) 0 a0_0 l0_1) = some (r1, r2) := by first | (rw [hy153]; with_reducible exact H) | (have H2_ := (Option.bind_some _ _).symm.trans H; rw [hy153]; with_reducible exact H2_) | (have H2_ := (Option.bind_some _ _).symm.trans H; with_reducible exact H2_) | with_reducible exact H | (rw [hy153]; exact H) | exact H
    have Ny153 := Aside0.mk hy153
    clear hy153
    obtain ⟨y156, hy156⟩ : ∃ y_ : List Int, y_ = (([0] : List Int)) := ⟨_, rfl⟩
    replace H : (spec_SlideClass.l0 k y153 y156 0 a0_0 l0_1) = some (r1, r2) := by first | (rw [hy156]; with_reducible exact H) | (have H2_ := (Option.bind_some _ _).symm.trans H; rw [hy156]; with_reducible exact H2_) | (have H2_ := (Option.bind_some _ _).symm.trans H; with_reducible exact H2_) | with_reducible exact H | (rw [hy156]; exact H) | exact H
    have Ny156 := Aside0.mk hy156
    clear hy156
    have H' := Aside0.mk H
    clear H
    go_enter Try.func29, Try.ntmps29
    go_wp2_with (first | ((with_reducible refine gate_dst (N := 1) rfl ?_); refine box_event ?hg (N := 1) ?hd (cs := #[.int .i64 a0_0, .slice A0_1 l0_1.length c0_1]) (t := 31) ?hr ?_; (case hd => rfl); (case hg => rfl); (case hr => first | (go_simp; done) | (go_simp; rfl)); intro gb148 hg w5 hbox hb; have n0_ := Aside0.mk (below_step (by repeat (first | (with_reducible first | exact HB.out | apply below_alloc | apply pw_below_drewN | apply below_drew1) | exact HB.out)) hb); have n1_ := Aside0.mk (hbox); have n2_ := Aside0.mk ((by rw [hg]; exact (below_size (by repeat (first | (with_reducible first | exact HB.out | apply below_alloc | apply pw_below_drewN | apply below_drew1) | exact HB.out))) : w.heap.size ≤ gb148)); have n3_ := Aside0.mk ((by rw [hg]; exact (below_size (by repeat (first | (with_reducible first | exact HB.out | apply below_alloc | apply pw_below_drewN | apply below_drew1) | exact HB.out))) : w.heap.size ≤ gb148)); clear HB; have HB := n0_; have BK148 := n1_; have GW148 := n2_; have GE148 := n3_; clear n0_ n1_ n2_ n3_; clear hb hbox hg; have hcz6_0 : w5.cell? ⟨gb148, 0, none⟩ = some (.int .i64 a0_0) := (blk_cell BK148.out 0).trans rfl; have hcz6_1 : w5.cell? ⟨gb148, 1, none⟩ = some (.slice A0_1 l0_1.length c0_1) := (blk_cell BK148.out 1).trans rfl; have hfz6_0 := blk_frozen BK148.out 0; have hfz6_1 := blk_frozen BK148.out 1) | ((with_reducible refine gate_callee (f := 74) rfl ?_); refine goesL_ (some 17) rfl rfl Try.func74 (by kernel_rfl) rfl #[.agg #[.int .i64 a0_0, .slice A0_1 l0_1.length c0_1]] rfl (by (try simp only [List.map_toArray, List.map_cons, List.map_nil]); first | done | rfl | (simp only [List.length_drop, List.length_take]; rfl)) ?_; (with_reducible refine (spec_laGood.calls k a0_0 _ _ l0_1 true _ ?side1 ?side2 A2.out).mono ?_); (case side1 => repeat (first | exact (Kd.C_below HR0_1.out HB.out) | (with_reducible refine Kd.C_alloc ?_ _) | (with_reducible refine Kd.C_drewN ?_ _) | (with_reducible refine Kd.C_drew ?_))); (case side2 => exact HC0_1.out); rintro e w7 ⟨rfl, hb⟩; refine ⟨_, rfl, ?_⟩; have n0_ := Aside0.mk (blk_below (g := gb148) (o := .cells #[.int .i64 a0_0, .slice A0_1 l0_1.length c0_1] 31 (0, 0)) (by (with_reducible repeat (first | refine blk_drewN ?_ _ | refine blk_drew ?_ | refine blk_alloc ?_ _)); exact BK148.out) hb); have n1_ := Aside0.mk (below_step (by repeat (first | (with_reducible first | exact HB.out | apply below_alloc | apply pw_below_drewN | apply below_drew1 | refine below_set ?_ GE148.out) | exact HB.out)) hb); clear BK148; clear HB; have BK148 := n0_; have HB := n1_; clear n0_ n1_; (try clear hb); (try clear hb2); (try clear hk); (try clear hi); have hcz8_0 : w7.cell? ⟨gb148, 0, none⟩ = some (.int .i64 a0_0) := (blk_cell BK148.out 0).trans rfl; have hcz8_1 : w7.cell? ⟨gb148, 1, none⟩ = some (.slice A0_1 l0_1.length c0_1) := (blk_cell BK148.out 1).trans rfl; have hfz8_0 := blk_frozen BK148.out 0; have hfz8_1 := blk_frozen BK148.out 1) | ((with_reducible refine gate_callee (f := 75) rfl ?_); refine goesL_ (some 21) rfl rfl Try.func75 (by kernel_rfl) rfl #[.slice A0_1 l0_1.length c0_1] rfl (by (try simp only [List.map_toArray, List.map_cons, List.map_nil]); first | done | rfl | (simp only [List.length_drop, List.length_take]; rfl)) ?_; (with_reducible refine (spec_l1Own.calls _ _ l0_1 t150 _ ?side1 ?side2 A4.out).mono ?_); (case side1 => repeat (first | exact (Kd.C_below HR0_1.out HB.out) | (with_reducible refine Kd.C_alloc ?_ _) | (with_reducible refine Kd.C_drewN ?_ _) | (with_reducible refine Kd.C_drew ?_))); (case side2 => exact HC0_1.out); rintro e w9 ⟨v151, rfl, ho0, hb⟩; refine ⟨_, rfl, ?_⟩; have n0_ := Aside0.mk (Kd.R_lower (Kd.R_newM (M := fun k_ => (w.heap.size ≤ k_)) ho0 (below_size (by repeat (first | (with_reducible first | exact HB.out | apply below_alloc | apply pw_below_drewN | apply below_drew1 | refine below_set ?_ GE148.out) | exact HB.out))) (fun k_ h_ => h_)) (below_size (by repeat (first | (with_reducible first | exact HB.out | apply below_alloc | apply pw_below_drewN | apply below_drew1 | refine below_set ?_ GE148.out) | exact HB.out)))); have n1_ := Aside0.mk (blk_below (g := gb148) (o := .cells #[.int .i64 a0_0, .slice A0_1 l0_1.length c0_1] 31 (0, 0)) (by (with_reducible repeat (first | refine blk_drewN ?_ _ | refine blk_drew ?_ | refine blk_alloc ?_ _)); exact BK148.out) hb); have n2_ := Aside0.mk (below_step (by repeat (first | (with_reducible first | exact HB.out | apply below_alloc | apply pw_below_drewN | apply below_drew1 | refine below_set ?_ GE148.out) | exact HB.out)) hb); clear BK148; clear HB; have HO152 := n0_; have BK148 := n1_; have HB := n2_; clear n0_ n1_ n2_; (try clear hb); (try clear hb2); (try clear hk); (try clear hi); (try clear ho0); obtain ⟨Ao10, co10, eo10⟩ := Kd.R_slice HO152.out; subst eo10) | ((with_reducible refine gate_dst (N := 22) rfl ?_); refine Kd.N_lit (Kd.slice 3 (Kd.int .i64)) _ 25 ?hg (N' := 22) ?hd (xs := ([t150] : List (List Int))) (inner := [.slice Ao10 t150.length co10]) (ok := (fun k_ => (w.heap.size ≤ k_) ∧ k_ ≠ gb148)) (okp := (fun k_ => (w.heap.size ≤ k_) ∧ k_ ≠ gb148)) ?hr ?hp (fun _ hk => hk) ((show ∀ k_, w9.heap.size ≤ k_ → (fun k_ => (w.heap.size ≤ k_) ∧ k_ ≠ gb148) k_ from fun k_ hk => ⟨(Nat.le_trans (below_size (by repeat (first | (with_reducible first | exact HB.out | apply below_alloc | apply pw_below_drewN | apply below_drew1 | refine below_set ?_ GE148.out) | exact HB.out))) hk), Kd.freshB (g := gb148) (o := .cells #[.int .i64 a0_0, .slice A0_1 l0_1.length c0_1] 31 (0, 0)) (by (with_reducible repeat (first | refine blk_drewN ?_ _ | refine blk_drew ?_ | refine blk_alloc ?_ _)); exact BK148.out) k_ hk⟩) _ (Nat.le_refl _)) (Below.refl _ _) (Nat.le_refl _) (by simp) ?_; (case hd => rfl); (case hg => rfl); (case hr => first | (go_simp; done) | (go_simp; rfl)); (case hp => exact (Reps.one (show Kd.FK (Kd.slice 3 (Kd.int .i64)) _ _ t150 [.slice Ao10 t150.length co10] from (Kd.FK_slice_mk (Kd.R_reads' (Kd.R_mono (ok' := (fun k_ => (w.heap.size ≤ k_) ∧ k_ ≠ gb148)) (Kd.R_types (HO152.out) BK148.out (by decide)) (fun k_ hk => ⟨hk.1.1, hk.2⟩))).2.1 (Kd.R_F (Kd.R_mono (ok' := (fun k_ => (w.heap.size ≤ k_) ∧ k_ ≠ gb148)) (Kd.R_types (HO152.out) BK148.out (by decide)) (fun k_ hk => ⟨hk.1.1, hk.2⟩))))) (Reps.none _ _))); intro v154 w11 ho12 hb hg_ hnew_; clear hg_ hnew_; (first | rw [← Ny153.out] at ho12 | (simp only [Int.reduceToNat] at ho12; rw [← Ny153.out] at ho12)); have n0_ := Aside0.mk (Kd.N_lower ho12 (below_size (by repeat (first | (with_reducible first | exact HB.out | apply below_alloc | apply pw_below_drewN | apply below_drew1 | refine below_set ?_ GE148.out) | exact HB.out)))); have n1_ := Aside0.mk (blk_below (g := gb148) (o := .cells #[.int .i64 a0_0, .slice A0_1 l0_1.length c0_1] 31 (0, 0)) (by (with_reducible repeat (first | refine blk_drewN ?_ _ | refine blk_drew ?_ | refine blk_alloc ?_ _)); exact BK148.out) hb); have n2_ := Aside0.mk (below_step (by repeat (first | (with_reducible first | exact HB.out | apply below_alloc | apply pw_below_drewN | apply below_drew1 | refine below_set ?_ GE148.out) | exact HB.out)) hb); clear BK148; clear HB; clear HO152; have HO155 := n0_; have BK148 := n1_; have HB := n2_; clear n0_ n1_ n2_; clear hb ho12) | ((with_reducible refine gate_dst (N := 23) rfl ?_); refine Kd.R_lit (Kd.int .i64) _ 3 ?hg (N := 23) ?hd (xs := ([0] : List Int)) (inner := [.int .i64 0]) (ok := fun _ => True) (okp := fun _ => True) ?hr ?hp (fun _ hk => hk) trivial (Below.refl _ _) (Nat.le_refl _) (by simp) ?_; (case hd => rfl); (case hg => rfl); (case hr => first | (go_simp; done) | (go_simp; rfl)); (case hp => exact (Reps.one (show Kd.M (Kd.int .i64) _ _ _ 0 [.int .i64 0] from rfl) (Reps.none _ _))); intro v157 w13 ho14 hb hg_ hnew_; clear hg_ hnew_; (first | rw [← Ny156.out] at ho14 | (simp only [Int.reduceToNat] at ho14; rw [← Ny156.out] at ho14)); have n0_ := Aside0.mk (Kd.N_elder' (by (with_reducible repeat (first | apply Kd.N_alloc | apply Kd.N_drewN | apply Kd.N_drew)); exact HO155.out) (Kd.R_base ho14) hb); have n1_ := Aside0.mk (Kd.R_lower (Kd.R_newM (M := fun k_ => (w.heap.size ≤ k_)) ho14 (below_size (by repeat (first | (with_reducible first | exact HB.out | apply below_alloc | apply pw_below_drewN | apply below_drew1 | refine below_set ?_ GE148.out) | exact HB.out))) (fun k_ h_ => h_)) (below_size (by repeat (first | (with_reducible first | exact HB.out | apply below_alloc | apply pw_below_drewN | apply below_drew1 | refine below_set ?_ GE148.out) | exact HB.out)))); have n2_ := Aside0.mk (blk_below (g := gb148) (o := .cells #[.int .i64 a0_0, .slice A0_1 l0_1.length c0_1] 31 (0, 0)) (by (with_reducible repeat (first | refine blk_drewN ?_ _ | refine blk_drew ?_ | refine blk_alloc ?_ _)); exact BK148.out) hb); have n3_ := Aside0.mk (below_step (by repeat (first | (with_reducible first | exact HB.out | apply below_alloc | apply pw_below_drewN | apply below_drew1 | refine below_set ?_ GE148.out) | exact HB.out)) hb); clear HO155; clear BK148; clear HB; have HO155 := n0_; have HO158 := n1_; have BK148 := n2_; have HB := n3_; clear n0_ n1_ n2_ n3_; clear hb ho14))
    go_loopg [4, 5, 6] k (fun kq v4 v5 v6 w' => ∃ (x4_1 : List (List Int)) (x5_1 : List Int) (x6_1 : Int), v6 = .int .i64 x6_1 ∧ Aside0 (spec_SlideClass.l0 kq x4_1 x5_1 x6_1 a0_0 l0_1 = some (r1, r2)) ∧ Aside0 (kq ≤ k) ∧ Aside0 (Kd.N (Kd.slice 3 (Kd.int .i64)) 25 w' w.heap.size (fun k_ => (w.heap.size ≤ k_) ∧ some k_ ≠ (v5 : Value).ownBlock ∧ k_ ≠ gb148) v4 x4_1) ∧ Aside0 (Kd.R (Kd.int .i64) 3 w' w.heap.size (fun k_ => (w.heap.size ≤ k_)) v5 x5_1) ∧ Aside0 (w'.heap[gb148]? = some (.cells #[.int .i64 a0_0, (.slice A0_1 l0_1.length c0_1)] 31 (0, 0))) ∧ Aside0 (Below w.heap.size w w'))
    case atStart => exact ⟨(y153), (y156), (0), (by first | rfl | (simp; done) | (simp [*]; done)), H', ⟨Nat.le_refl _⟩, ⟨by (with_reducible repeat (first | apply Kd.N_alloc | apply Kd.N_drewN | apply Kd.N_drew)); exact Kd.N_mono HO155.out (fun _ hk => ⟨hk.1.1, ⟨hk.2, hk.1.2⟩⟩)⟩, ⟨by (with_reducible repeat (first | apply Kd.R_alloc | apply Kd.R_drewN | apply Kd.R_drew)); exact Kd.R_mono HO158.out (fun _ hk => hk.1)⟩, ⟨by (with_reducible repeat (first | refine blk_drewN ?_ _ | refine blk_drew ?_ | refine blk_alloc ?_ _)); exact BK148.out⟩, ⟨by repeat (first | (with_reducible first | exact HB.out | apply below_alloc | apply pw_below_drewN | apply below_drew1 | refine below_set ?_ GE148.out) | exact HB.out)⟩⟩
    case round =>
      clear H'
      try clear c2
      try clear p2
      try clear c3
      try clear c7
      try clear hcz6_0
      try clear hcz6_1
      try clear hcz8_0
      try clear hcz8_1
      try clear hfz6_0
      try clear hfz6_1
      try clear hfz8_0
      try clear hfz8_1
      obtain ⟨x4_1, x5_1, x6_1, rfl, HA, HK1, HO_4, HO_5, BK148, HB⟩ := hrel
      cases gk with
      | zero => exact absurd HA.out (by simp [spec_SlideClass.l0])
      | succ k1 =>
        have H := HA.out
        clear HA
        simp only [spec_SlideClass.l0] at H
        by_cases c15 : x6_1 < (x4_1.length : Int)
        · rw [if_pos c15] at H
          have c15b0 : decide (x6_1 < (x4_1.length : Int)) = true := decide_eq_true c15
          clear c15
          have H' := Aside0.mk H
          clear H
          obtain ⟨Ao16, co16, eo16⟩ := Kd.N_slice HO_4.out
          subst eo16
          have hcz17_0 : wr.cell? ⟨gb148, 0, none⟩ = some (.int .i64 a0_0) := (blk_cell BK148.out 0).trans rfl
          have hcz17_1 : wr.cell? ⟨gb148, 1, none⟩ = some (.slice A0_1 l0_1.length c0_1) := (blk_cell BK148.out 1).trans rfl
          have hfz17_0 := blk_frozen BK148.out 0
          have hfz17_1 := blk_frozen BK148.out 1
          go_wp2
          go_loopg [4, 5, 33] k1 (fun kq v4 v5 v33 w' => ∃ (x4_2 : List (List Int)) (x5_2 : List Int) (x33_2 : Int), v33 = .int .i64 x33_2 ∧ Aside0 (spec_SlideClass.l1 kq x4_2 x5_2 x6_1 (l0_1.length : Int) x33_2 a0_0 l0_1 = some (r1, r2)) ∧ Aside0 (kq ≤ k1) ∧ Aside0 (Kd.N (Kd.slice 3 (Kd.int .i64)) 25 w' w.heap.size (fun k_ => (w.heap.size ≤ k_) ∧ some k_ ≠ (v5 : Value).ownBlock ∧ k_ ≠ gb148) v4 x4_2) ∧ Aside0 (Kd.R (Kd.int .i64) 3 w' w.heap.size (fun k_ => (w.heap.size ≤ k_)) v5 x5_2) ∧ Aside0 (w'.heap[gb148]? = some (.cells #[.int .i64 a0_0, (.slice A0_1 l0_1.length c0_1)] 31 (0, 0))) ∧ Aside0 (Below w.heap.size w w'))
          case atStart => exact ⟨(x4_1), (x5_1), (0), (by first | rfl | (simp; done) | (simp [*]; done)), H', ⟨Nat.le_refl _⟩, ⟨by (with_reducible repeat (first | apply Kd.N_alloc | apply Kd.N_drewN | apply Kd.N_drew)); exact HO_4.out⟩, ⟨by (with_reducible repeat (first | apply Kd.R_alloc | apply Kd.R_drewN | apply Kd.R_drew)); exact HO_5.out⟩, ⟨by (with_reducible repeat (first | refine blk_drewN ?_ _ | refine blk_drew ?_ | refine blk_alloc ?_ _)); exact BK148.out⟩, ⟨by repeat (first | (with_reducible first | exact HB.out | apply below_alloc | apply pw_below_drewN | apply below_drew1 | refine below_set ?_ GE148.out) | exact HB.out)⟩⟩
          case round =>
            clear H'
            try clear c1
            try clear c2
            try clear p2
            try clear c3
            try clear c7
            try clear c15
            try clear c15b0
            try clear hcz17_0
            try clear hcz17_1
            try clear hcz6_0
            try clear hcz6_1
            try clear hcz8_0
            try clear hcz8_1
            try clear hfz17_0
            try clear hfz17_1
            try clear hfz6_0
            try clear hfz6_1
            try clear hfz8_0
            try clear hfz8_1
            try clear p2
            obtain ⟨x4_2, x5_2, x33_2, rfl, HA, HK2, HO_4, HO_5, BK148, HB⟩ := hrel
            cases gk with
            | zero => exact absurd HA.out (by simp [spec_SlideClass.l1])
            | succ k2 =>
              have H := HA.out
              clear HA
              simp only [spec_SlideClass.l1] at H
              by_cases c18 : x33_2 < (l0_1.length : Int)
              · rw [if_pos c18] at H
                have c18b0 : decide (x33_2 < (l0_1.length : Int)) = true := decide_eq_true c18
                clear c18
                by_cases c19 : 0 ≤ x6_1
                · rw [if_pos c19] at H
                  have c19b0 : decide (0 ≤ x6_1) = true := decide_eq_true c19
                  clear c19
                  by_cases c20 : x6_1 < (x4_2.length : Int)
                  · rw [if_pos c20] at H
                    have c20b0 : decide (x6_1 < (x4_2.length : Int)) = true := decide_eq_true c20
                    clear c20
                    replace H := Option.bind_eq_some_iff.mp H
                    obtain ⟨⟨t160, t161⟩, A210, H⟩ := H
                    replace H : (if t161 = true then (spec_SlideClass.l2 k2 x4_2 x5_2 x6_1 t160 0 (x5_2.length : Int) (l0_1.length : Int) x33_2 a0_0 l0_1) else (spec_SlideClass.l1 k2 x4_2 x5_2 x6_1 (l0_1.length : Int) (wrap64 (x33_2 + 1)) a0_0 l0_1)) = some (r1, r2) := H
                    have A21 := Aside0.mk A210
                    clear A210
                    by_cases c22 : t161 = true
                    · subst c22
                      have H1 : (spec_SlideClass.l2 k2 x4_2 x5_2 x6_1 t160 0 (x5_2.length : Int) (l0_1.length : Int) x33_2 a0_0 l0_1) = some (r1, r2) := by rw [if_pos rfl] at H; exact H
                      clear H
                      have H := H1
                      clear H1
                      have H' := Aside0.mk H
                      clear H
                      obtain ⟨Ao23, co23, eo23⟩ := Kd.N_slice HO_4.out
                      subst eo23
                      have p159 : 0 ≤ (x6_1 : Int) := of_decide_eq_true (by first | (with_reducible assumption) | assumption)
                      have q159 : x6_1 < (x4_2.length : Int) := of_decide_eq_true (by first | (with_reducible assumption) | assumption)
                      obtain ⟨ad159, A159_0, c159_0, e159, hx159_0, hl159_0, hi159_0⟩ := at_L1 (Kd.N_reads' HO_4.out).2.2 x6_1 p159 q159
                      cases e159
                      obtain ⟨ce159, hce159, hMe159, hcc159⟩ := Kd.N_get HO_4.out [] x6_1 p159 (by first | exact q159 | exact of_decide_eq_true (by first | (with_reducible assumption) | assumption) | (have e_ := (Kd.N_reads' HO_4.out).1; omega))
                      obtain ⟨ua159_0, uc159_0, rfl, ul159_0, ge159_0⟩ := Kd.FK_slice_open hMe159
                      have hv159_0 := hcc159 0 _ rfl
                      rw [Nat.add_zero, show ((Kd.slice 3 (Kd.int .i64))).sz = 1 from rfl, Nat.mul_one] at hv159_0
                      replace hv159_0 := Option.some.inj (hv159_0.symm.trans hx159_0)
                      injection hv159_0 with hva_ hvn_ hvc_
                      rw [hva_] at ge159_0
                      rw [hvc_] at ul159_0
                      have HL159_0 := Aside0.mk (show Kd.V (Kd.int .i64) 3 _ w.heap.size _ _ (rd_L1 x4_2 x6_1) from Kd.V_mk ul159_0 ge159_0)
                      clear hva_ hvn_ hvc_ ge159_0 ul159_0
                      clear hcc159 hce159
                      have HR159_0 := Aside0.mk hi159_0
                      have HC159_0 := Aside0.mk hl159_0
                      clear hi159_0 hl159_0
                      replace p159 := eq_true p159
                      replace q159 := eq_true q159
                      go_wp2_with (first | ((with_reducible refine gate_callee (f := 76) rfl ?_); refine goesL_ (some 42) rfl rfl Try.func76 (by kernel_rfl) rfl #[.slice A159_0 (rd_L1 x4_2 x6_1).length c159_0, .int .i64 x33_2] rfl (by (try simp only [List.map_toArray, List.map_cons, List.map_nil]); first | done | rfl | (simp only [List.length_drop, List.length_take]; rfl)) ?_; (with_reducible refine (spec_lsSlide.calls _ _ (rd_L1 x4_2 x6_1) x33_2 t160 true _ ?side1 ?side2 A21.out).mono ?_); (case side1 => repeat (first | exact (by repeat (first | (with_reducible exact HR159_0.out) | (with_reducible refine Kd.C_alloc ?_ _) | (with_reducible refine Kd.C_drewN ?_ _) | (with_reducible refine Kd.C_drew ?_) | exact HR159_0.out)) | (with_reducible refine Kd.C_alloc ?_ _) | (with_reducible refine Kd.C_drewN ?_ _) | (with_reducible refine Kd.C_drew ?_))); (case side2 => exact HC159_0.out); rintro e w24 ⟨v162, rfl, ho0, hb⟩; refine ⟨_, rfl, ?_⟩; have n0_ := Aside0.mk (Kd.N_elder' (by (with_reducible repeat (first | apply Kd.N_alloc | apply Kd.N_drewN | apply Kd.N_drew)); exact HO_4.out) (Kd.R_base ho0) hb); have n1_ := Aside0.mk (Kd.R_elder' (by (with_reducible repeat (first | apply Kd.R_alloc | apply Kd.R_drewN | apply Kd.R_drew)); exact HO_5.out) (Kd.R_base ho0) hb); have n2_ := Aside0.mk (Kd.V_elder' (by (with_reducible repeat (first | apply Kd.V_alloc | apply Kd.V_drewN | apply Kd.V_drew)); exact HL159_0.out) (Kd.R_base ho0) hb); have n3_ := Aside0.mk (Kd.R_lower (Kd.R_new' (Kd.R_newM (M := fun k_ => (w.heap.size ≤ k_)) ho0 (below_size (by repeat (first | (with_reducible first | exact HB.out | apply below_alloc | apply pw_below_drewN | apply below_drew1 | refine below_set ?_ GE148.out) | exact HB.out))) (fun k_ h_ => h_)) (Kd.R_lt (by (with_reducible repeat (first | apply Kd.R_alloc | apply Kd.R_drewN | apply Kd.R_drew)); exact HO_5.out))) (below_size (by repeat (first | (with_reducible first | exact HB.out | apply below_alloc | apply pw_below_drewN | apply below_drew1 | refine below_set ?_ GE148.out) | exact HB.out)))); have n4_ := Aside0.mk (blk_below (g := gb148) (o := .cells #[.int .i64 a0_0, .slice A0_1 l0_1.length c0_1] 31 (0, 0)) (by (with_reducible repeat (first | refine blk_drewN ?_ _ | refine blk_drew ?_ | refine blk_alloc ?_ _)); exact BK148.out) hb); have n5_ := Aside0.mk (Kd.C_below (by repeat (first | (with_reducible exact HR159_0.out) | (with_reducible refine Kd.C_alloc ?_ _) | (with_reducible refine Kd.C_drewN ?_ _) | (with_reducible refine Kd.C_drew ?_) | exact HR159_0.out)) hb); have n6_ := Aside0.mk (below_step (by repeat (first | (with_reducible first | exact HB.out | apply below_alloc | apply pw_below_drewN | apply below_drew1 | refine below_set ?_ GE148.out) | exact HB.out)) hb); clear HO_4; clear HO_5; clear HL159_0; clear BK148; clear HR159_0; clear HB; have HO_4 := n0_; have HO_5 := n1_; have HL159_0 := n2_; have HO163 := n3_; have BK148 := n4_; have HR159_0 := n5_; have HB := n6_; clear n0_ n1_ n2_ n3_ n4_ n5_ n6_; (try clear hb); (try clear hb2); (try clear hk); (try clear hi); (try clear ho0); obtain ⟨Ao25, co25, eo25⟩ := Kd.R_slice HO_5.out; subst eo25))
                      go_loopg [10, 11] k2 (fun kq v10 v11 w' => ∃ (x10_3 : Int) (x11_3 : Int), v10 = .int .i64 x10_3 ∧ v11 = .int .i64 x11_3 ∧ Aside0 (spec_SlideClass.l2 kq x4_2 x5_2 x6_1 t160 x10_3 x11_3 (l0_1.length : Int) x33_2 a0_0 l0_1 = some (r1, r2)) ∧ Aside0 (kq ≤ k2) ∧ Aside0 (Kd.N (Kd.slice 3 (Kd.int .i64)) 25 w' w.heap.size (fun k_ => (w.heap.size ≤ k_) ∧ some k_ ≠ ((.slice Ao25 x5_2.length co25) : Value).ownBlock ∧ some k_ ≠ (v162 : Value).ownBlock ∧ k_ ≠ gb148) (.slice (some ad159) x4_2.length co23) x4_2) ∧ Aside0 (Kd.R (Kd.int .i64) 3 w' w.heap.size (fun k_ => (w.heap.size ≤ k_) ∧ some k_ ≠ (v162 : Value).ownBlock) (.slice Ao25 x5_2.length co25) x5_2) ∧ Aside0 (Kd.R (Kd.int .i64) 3 w' w.heap.size (fun k_ => (w.heap.size ≤ k_) ∧ some k_ ≠ ((.slice Ao25 x5_2.length co25) : Value).ownBlock) v162 t160) ∧ Aside0 (w'.heap[gb148]? = some (.cells #[.int .i64 a0_0, (.slice A0_1 l0_1.length c0_1)] 31 (0, 0))) ∧ Aside0 (Kd.C (Kd.int .i64) w' A159_0 (rd_L1 x4_2 x6_1).length (rd_L1 x4_2 x6_1)) ∧ Aside0 (Below w.heap.size w w'))
                      case atStart => exact ⟨(0), ((x5_2.length : Int)), (by first | rfl | (simp; done) | (simp [*]; done)), (by first | rfl | (simp; done) | (simp [*]; done)), H', ⟨Nat.le_refl _⟩, ⟨by (with_reducible repeat (first | apply Kd.N_alloc | apply Kd.N_drewN | apply Kd.N_drew)); exact Kd.N_mono HO_4.out (fun _ hk => ⟨hk.1.1, ⟨hk.1.2.1, ⟨hk.2, hk.1.2.2⟩⟩⟩)⟩, ⟨by (with_reducible repeat (first | apply Kd.R_alloc | apply Kd.R_drewN | apply Kd.R_drew)); exact HO_5.out⟩, ⟨by (with_reducible repeat (first | apply Kd.R_alloc | apply Kd.R_drewN | apply Kd.R_drew)); exact Kd.R_mono HO163.out (fun _ hk => ⟨hk.1.1, hk.2⟩)⟩, ⟨by (with_reducible repeat (first | refine blk_drewN ?_ _ | refine blk_drew ?_ | refine blk_alloc ?_ _)); exact BK148.out⟩, ⟨by repeat (first | (with_reducible exact HR159_0.out) | (with_reducible refine Kd.C_alloc ?_ _) | (with_reducible refine Kd.C_drewN ?_ _) | (with_reducible refine Kd.C_drew ?_) | exact HR159_0.out)⟩, ⟨by repeat (first | (with_reducible first | exact HB.out | apply below_alloc | apply pw_below_drewN | apply below_drew1 | refine below_set ?_ GE148.out) | exact HB.out)⟩⟩
                      case round =>
                        clear H'
                        try clear c1
                        try clear p1
                        try clear q1
                        try clear hx1
                        try clear c2
                        try clear p2
                        try clear c3
                        try clear p6
                        try clear c7
                        try clear c15
                        try clear c15b0
                        try clear p15
                        try clear q15
                        try clear hx15
                        try clear c18
                        try clear c18b0
                        try clear c19
                        try clear c19b0
                        try clear c20
                        try clear c20b0
                        try clear c22
                        try clear hcz17_0
                        try clear hcz17_1
                        try clear hcz6_0
                        try clear hcz6_1
                        try clear hcz8_0
                        try clear hcz8_1
                        try clear hfz17_0
                        try clear hfz17_1
                        try clear hfz6_0
                        try clear hfz6_1
                        try clear hfz8_0
                        try clear hfz8_1
                        try clear hx159_0
                        try clear p159
                        try clear p2
                        try clear q159
                        obtain ⟨x10_3, x11_3, rfl, rfl, HA, HK3, HO_4, HO_5, HO_8, BK148, HR159_0, HB⟩ := hrel
                        cases gk with
                        | zero => exact absurd HA.out (by simp [spec_SlideClass.l2])
                        | succ k3 =>
                          have H := HA.out
                          clear HA
                          simp only [spec_SlideClass.l2] at H
                          by_cases c26 : x10_3 < x11_3
                          · rw [if_pos c26] at H
                            have c26b0 : decide (x10_3 < x11_3) = true := decide_eq_true c26
                            clear c26
                            obtain ⟨ji27, hji27⟩ : ∃ j_ : Int, (wrap64 (Int.tdiv (wrap64 (x10_3 + x11_3)) 2)) = j_ := ⟨_, rfl⟩
                            replace H : (if 0 ≤ (ji27) then (if (ji27) < (x5_2.length : Int) then (if 0 ≤ (rd x5_2 (ji27)) then (if (rd x5_2 (ji27)) < (x4_2.length : Int) then ((spec_lsLess.f k3 (rd_L1 x4_2 (rd x5_2 (ji27))) t160).bind fun t166 => (if t166 = true then (spec_SlideClass.l2 k3 x4_2 x5_2 x6_1 t160 (wrap64 ((ji27) + 1)) x11_3 (l0_1.length : Int) x33_2 a0_0 l0_1) else (spec_SlideClass.l2 k3 x4_2 x5_2 x6_1 t160 x10_3 ji27 (l0_1.length : Int) x33_2 a0_0 l0_1))) else (none)) else (none)) else (none)) else (none)) = some (r1, r2) := by first | (rw [hji27] at H; exact H) | (simp only [hji27] at H ⊢; exact H)
                            have hji27w : (IntKind.i64.wrap (Int.tdiv (wrap64 (x10_3 + x11_3)) 2)) = ji27 := (i64_w _).trans hji27
                            by_cases c28 : 0 ≤ (ji27)
                            · rw [if_pos c28] at H
                              have c28b0 : decide (0 ≤ (ji27)) = true := decide_eq_true c28
                              clear c28
                              by_cases c29 : (ji27) < (x5_2.length : Int)
                              · rw [if_pos c29] at H
                                have c29b0 : decide ((ji27) < (x5_2.length : Int)) = true := decide_eq_true c29
                                clear c29
                                by_cases c30 : 0 ≤ (rd x5_2 (ji27))
                                · rw [if_pos c30] at H
                                  have c30b0 : decide (0 ≤ (rd x5_2 (ji27))) = true := decide_eq_true c30
                                  clear c30
                                  by_cases c31 : (rd x5_2 (ji27)) < (x4_2.length : Int)
                                  · rw [if_pos c31] at H
                                    have c31b0 : decide ((rd x5_2 (ji27)) < (x4_2.length : Int)) = true := decide_eq_true c31
                                    clear c31
                                    replace H := Option.bind_eq_some_iff.mp H
                                    obtain ⟨t166, A320, H⟩ := H
                                    replace H : (if t166 = true then (spec_SlideClass.l2 k3 x4_2 x5_2 x6_1 t160 (wrap64 ((ji27) + 1)) x11_3 (l0_1.length : Int) x33_2 a0_0 l0_1) else (spec_SlideClass.l2 k3 x4_2 x5_2 x6_1 t160 x10_3 ji27 (l0_1.length : Int) x33_2 a0_0 l0_1)) = some (r1, r2) := H
                                    have A32 := Aside0.mk A320
                                    clear A320
                                    by_cases c33 : t166 = true
                                    · subst c33
                                      have H1 : (spec_SlideClass.l2 k3 x4_2 x5_2 x6_1 t160 (wrap64 ((ji27) + 1)) x11_3 (l0_1.length : Int) x33_2 a0_0 l0_1) = some (r1, r2) := by rw [if_pos rfl] at H; exact H
                                      clear H
                                      have H := H1
                                      clear H1
                                      have H' := Aside0.mk H
                                      clear H
                                      have p164 : 0 ≤ ((ji27) : Int) := of_decide_eq_true (by first | (with_reducible assumption) | assumption)
                                      have q164 : (ji27) < (x5_2.length : Int) := of_decide_eq_true (by first | (with_reducible assumption) | assumption)
                                      obtain ⟨ad164, e164, hx164_0⟩ := Kd.at_int (Kd.R_reads' HO_5.out).2.2 (ji27) p164 q164
                                      cases e164
                                      replace p164 := eq_true p164
                                      replace q164 := eq_true q164
                                      have p165 : 0 ≤ ((rd x5_2 (ji27)) : Int) := of_decide_eq_true (by first | (with_reducible assumption) | assumption)
                                      have q165 : (rd x5_2 (ji27)) < (x4_2.length : Int) := of_decide_eq_true (by first | (with_reducible assumption) | assumption)
                                      obtain ⟨ad165, A165_0, c165_0, e165, hx165_0, hl165_0, hi165_0⟩ := at_L1 (Kd.N_reads' HO_4.out).2.2 (rd x5_2 (ji27)) p165 q165
                                      obtain rfl : ad159 = ad165 := (by injection e165)
                                      obtain ⟨ce165, hce165, hMe165, hcc165⟩ := Kd.N_get HO_4.out [] (rd x5_2 (ji27)) p165 (by first | exact q165 | exact of_decide_eq_true (by first | (with_reducible assumption) | assumption) | (have e_ := (Kd.N_reads' HO_4.out).1; omega))
                                      obtain ⟨ua165_0, uc165_0, rfl, ul165_0, ge165_0⟩ := Kd.FK_slice_open hMe165
                                      have hv165_0 := hcc165 0 _ rfl
                                      rw [Nat.add_zero, show ((Kd.slice 3 (Kd.int .i64))).sz = 1 from rfl, Nat.mul_one] at hv165_0
                                      replace hv165_0 := Option.some.inj (hv165_0.symm.trans hx165_0)
                                      injection hv165_0 with hva_ hvn_ hvc_
                                      rw [hva_] at ge165_0
                                      rw [hvc_] at ul165_0
                                      have HL165_0 := Aside0.mk (show Kd.V (Kd.int .i64) 3 _ w.heap.size _ _ (rd_L1 x4_2 (rd x5_2 (ji27))) from Kd.V_mk ul165_0 ge165_0)
                                      clear hva_ hvn_ hvc_ ge165_0 ul165_0
                                      clear hcc165 hce165
                                      have HR165_0 := Aside0.mk hi165_0
                                      have HC165_0 := Aside0.mk hl165_0
                                      clear hi165_0 hl165_0
                                      replace p165 := eq_true p165
                                      replace q165 := eq_true q165
                                      obtain ⟨Ao34, co34, eo34⟩ := Kd.R_slice HO_8.out
                                      subst eo34
                                      go_wp2_with (first | ((with_reducible refine gate_callee (f := 77) rfl ?_); refine goesL_ (some 64) rfl rfl Try.func77 (by kernel_rfl) rfl #[.slice A165_0 (rd_L1 x4_2 (rd x5_2 (ji27))).length c165_0, .slice Ao34 t160.length co34] rfl (by (try simp only [List.map_toArray, List.map_cons, List.map_nil]); first | done | (simp only [hji27]; rfl) | rfl | (simp only [List.length_drop, List.length_take]; rfl)) ?_; (with_reducible refine (spec_lsLess.calls k3 _ _ (rd_L1 x4_2 (rd x5_2 (ji27))) _ _ t160 true _ ?side1 ?side2 ?side3 ?side4 A32.out).mono ?_); (case side1 => repeat (first | exact (by repeat (first | (with_reducible exact HR165_0.out) | (with_reducible refine Kd.C_alloc ?_ _) | (with_reducible refine Kd.C_drewN ?_ _) | (with_reducible refine Kd.C_drew ?_) | exact HR165_0.out)) | (with_reducible refine Kd.C_alloc ?_ _) | (with_reducible refine Kd.C_drewN ?_ _) | (with_reducible refine Kd.C_drew ?_))); (case side2 => exact HC165_0.out); (case side3 => repeat (first | exact (Kd.R_reads' HO_8.out).2.2 | (with_reducible refine Kd.C_alloc ?_ _) | (with_reducible refine Kd.C_drewN ?_ _) | (with_reducible refine Kd.C_drew ?_))); (case side4 => exact (Kd.R_reads' HO_8.out).2.1); rintro e w' ⟨rfl, ⟨nd, rfl⟩⟩; refine ⟨_, rfl, ?_⟩))
                                      go_roundg k3
                                      case measure => have := HK1.out; have := HK2.out; have := HK3.out; omega
                                      case rel => exact ⟨(wrap64 ((ji27) + 1)), (x11_3), (by first | rfl | (simp; done) | (simp only [← hji27] <;> (first | rfl | simp)) | (simp [*]; done)), (by first | rfl | (simp; done) | (simp [*]; done)), H', ⟨by have := HK1.out; have := HK2.out; have := HK3.out; omega⟩, ⟨by (with_reducible repeat (first | apply Kd.N_alloc | apply Kd.N_drewN | apply Kd.N_drew)); exact HO_4.out⟩, ⟨by (with_reducible repeat (first | apply Kd.R_alloc | apply Kd.R_drewN | apply Kd.R_drew)); exact HO_5.out⟩, ⟨by (with_reducible repeat (first | apply Kd.R_alloc | apply Kd.R_drewN | apply Kd.R_drew)); exact HO_8.out⟩, ⟨by (with_reducible repeat (first | refine blk_drewN ?_ _ | refine blk_drew ?_ | refine blk_alloc ?_ _)); exact BK148.out⟩, ⟨by repeat (first | (with_reducible exact HR159_0.out) | (with_reducible refine Kd.C_alloc ?_ _) | (with_reducible refine Kd.C_drewN ?_ _) | (with_reducible refine Kd.C_drew ?_) | exact HR159_0.out)⟩, ⟨by repeat (first | (with_reducible first | exact HB.out | apply below_alloc | apply pw_below_drewN | apply below_drew1 | refine below_set ?_ GE148.out) | exact HB.out)⟩⟩
                                    · replace c33 := Bool.eq_false_iff.mpr c33
                                      subst c33
                                      have H1 : (spec_SlideClass.l2 k3 x4_2 x5_2 x6_1 t160 x10_3 ji27 (l0_1.length : Int) x33_2 a0_0 l0_1) = some (r1, r2) := by rw [if_neg (show ¬ (false = true) by decide)] at H; exact H
                                      clear H
                                      have H := H1
                                      clear H1
                                      have H' := Aside0.mk H
                                      clear H
                                      have p164 : 0 ≤ ((ji27) : Int) := of_decide_eq_true (by first | (with_reducible assumption) | assumption)
                                      have q164 : (ji27) < (x5_2.length : Int) := of_decide_eq_true (by first | (with_reducible assumption) | assumption)
                                      obtain ⟨ad164, e164, hx164_0⟩ := Kd.at_int (Kd.R_reads' HO_5.out).2.2 (ji27) p164 q164
                                      cases e164
                                      replace p164 := eq_true p164
                                      replace q164 := eq_true q164
                                      have p165 : 0 ≤ ((rd x5_2 (ji27)) : Int) := of_decide_eq_true (by first | (with_reducible assumption) | assumption)
                                      have q165 : (rd x5_2 (ji27)) < (x4_2.length : Int) := of_decide_eq_true (by first | (with_reducible assumption) | assumption)
                                      obtain ⟨ad165, A165_0, c165_0, e165, hx165_0, hl165_0, hi165_0⟩ := at_L1 (Kd.N_reads' HO_4.out).2.2 (rd x5_2 (ji27)) p165 q165
                                      obtain rfl : ad159 = ad165 := (by injection e165)
                                      obtain ⟨ce165, hce165, hMe165, hcc165⟩ := Kd.N_get HO_4.out [] (rd x5_2 (ji27)) p165 (by first | exact q165 | exact of_decide_eq_true (by first | (with_reducible assumption) | assumption) | (have e_ := (Kd.N_reads' HO_4.out).1; omega))
                                      obtain ⟨ua165_0, uc165_0, rfl, ul165_0, ge165_0⟩ := Kd.FK_slice_open hMe165
                                      have hv165_0 := hcc165 0 _ rfl
                                      rw [Nat.add_zero, show ((Kd.slice 3 (Kd.int .i64))).sz = 1 from rfl, Nat.mul_one] at hv165_0
                                      replace hv165_0 := Option.some.inj (hv165_0.symm.trans hx165_0)
                                      injection hv165_0 with hva_ hvn_ hvc_
                                      rw [hva_] at ge165_0
                                      rw [hvc_] at ul165_0
                                      have HL165_0 := Aside0.mk (show Kd.V (Kd.int .i64) 3 _ w.heap.size _ _ (rd_L1 x4_2 (rd x5_2 (ji27))) from Kd.V_mk ul165_0 ge165_0)
                                      clear hva_ hvn_ hvc_ ge165_0 ul165_0
                                      clear hcc165 hce165
                                      have HR165_0 := Aside0.mk hi165_0
                                      have HC165_0 := Aside0.mk hl165_0
                                      clear hi165_0 hl165_0
                                      replace p165 := eq_true p165
                                      replace q165 := eq_true q165
                                      obtain ⟨Ao35, co35, eo35⟩ := Kd.R_slice HO_8.out
                                      subst eo35
                                      go_wp2_with (first | ((with_reducible refine gate_callee (f := 77) rfl ?_); refine goesL_ (some 64) rfl rfl Try.func77 (by kernel_rfl) rfl #[.slice A165_0 (rd_L1 x4_2 (rd x5_2 (ji27))).length c165_0, .slice Ao35 t160.length co35] rfl (by (try simp only [List.map_toArray, List.map_cons, List.map_nil]); first | done | (simp only [hji27]; rfl) | rfl | (simp only [List.length_drop, List.length_take]; rfl)) ?_; (with_reducible refine (spec_lsLess.calls k3 _ _ (rd_L1 x4_2 (rd x5_2 (ji27))) _ _ t160 false _ ?side1 ?side2 ?side3 ?side4 A32.out).mono ?_); (case side1 => repeat (first | exact (by repeat (first | (with_reducible exact HR165_0.out) | (with_reducible refine Kd.C_alloc ?_ _) | (with_reducible refine Kd.C_drewN ?_ _) | (with_reducible refine Kd.C_drew ?_) | exact HR165_0.out)) | (with_reducible refine Kd.C_alloc ?_ _) | (with_reducible refine Kd.C_drewN ?_ _) | (with_reducible refine Kd.C_drew ?_))); (case side2 => exact HC165_0.out); (case side3 => repeat (first | exact (Kd.R_reads' HO_8.out).2.2 | (with_reducible refine Kd.C_alloc ?_ _) | (with_reducible refine Kd.C_drewN ?_ _) | (with_reducible refine Kd.C_drew ?_))); (case side4 => exact (Kd.R_reads' HO_8.out).2.1); rintro e w' ⟨rfl, ⟨nd, rfl⟩⟩; refine ⟨_, rfl, ?_⟩))
                                      go_roundg k3
                                      case measure => have := HK1.out; have := HK2.out; have := HK3.out; omega
                                      case rel => exact ⟨(x10_3), (ji27), (by first | rfl | (simp; done) | (simp [*]; done)), (by first | rfl | (simp; done) | (simp only [← hji27] <;> (first | rfl | simp)) | (simp [*]; done)), H', ⟨by have := HK1.out; have := HK2.out; have := HK3.out; omega⟩, ⟨by (with_reducible repeat (first | apply Kd.N_alloc | apply Kd.N_drewN | apply Kd.N_drew)); exact HO_4.out⟩, ⟨by (with_reducible repeat (first | apply Kd.R_alloc | apply Kd.R_drewN | apply Kd.R_drew)); exact HO_5.out⟩, ⟨by (with_reducible repeat (first | apply Kd.R_alloc | apply Kd.R_drewN | apply Kd.R_drew)); exact HO_8.out⟩, ⟨by (with_reducible repeat (first | refine blk_drewN ?_ _ | refine blk_drew ?_ | refine blk_alloc ?_ _)); exact BK148.out⟩, ⟨by repeat (first | (with_reducible exact HR159_0.out) | (with_reducible refine Kd.C_alloc ?_ _) | (with_reducible refine Kd.C_drewN ?_ _) | (with_reducible refine Kd.C_drew ?_) | exact HR159_0.out)⟩, ⟨by repeat (first | (with_reducible first | exact HB.out | apply below_alloc | apply pw_below_drewN | apply below_drew1 | refine below_set ?_ GE148.out) | exact HB.out)⟩⟩
                                  · rw [if_neg c31] at H
                                    exact absurd H (by simp)
                                · rw [if_neg c30] at H
                                  exact absurd H (by simp)
                              · rw [if_neg c29] at H
                                exact absurd H (by simp)
                            · rw [if_neg c28] at H
                              exact absurd H (by simp)
                          · rw [if_neg c26] at H
                            have c26b0 : decide (x10_3 < x11_3) = false := decide_eq_false c26
                            clear c26
                            have HC36 := Aside0.mk H
                            clear H
                            go_upto_region 19 with (fail)
                            go_cut [82] (fun v82 wc => ∃ (kq : Nat) (x82_35 : Bool), v82 = .bool x82_35 ∧ Aside0 (spec_SlideClass.j3 kq x4_2 x5_2 x6_1 t160 x10_3 (l0_1.length : Int) x33_2 x82_35 a0_0 l0_1 = some (r1, r2)) ∧ Aside0 (kq ≤ k3) ∧ Aside0 (Kd.N (Kd.slice 3 (Kd.int .i64)) 25 wc w.heap.size (fun k_ => (w.heap.size ≤ k_) ∧ some k_ ≠ ((.slice Ao25 x5_2.length co25) : Value).ownBlock ∧ some k_ ≠ (v162 : Value).ownBlock ∧ k_ ≠ gb148) (.slice (some ad159) x4_2.length co23) x4_2) ∧ Aside0 (Kd.R (Kd.int .i64) 3 wc w.heap.size (fun k_ => (w.heap.size ≤ k_) ∧ some k_ ≠ (v162 : Value).ownBlock) (.slice Ao25 x5_2.length co25) x5_2) ∧ Aside0 (Kd.R (Kd.int .i64) 3 wc w.heap.size (fun k_ => (w.heap.size ≤ k_) ∧ some k_ ≠ ((.slice Ao25 x5_2.length co25) : Value).ownBlock) v162 t160) ∧ Aside0 (wc.heap[gb148]? = some (.cells #[.int .i64 a0_0, (.slice A0_1 l0_1.length c0_1)] 31 (0, 0))) ∧ Aside0 (Kd.C (Kd.int .i64) wc A159_0 (rd_L1 x4_2 x6_1).length (rd_L1 x4_2 x6_1)) ∧ Aside0 (Below w.heap.size w wc))
                            case first =>
                              have H := HC36.out
                              clear HC36
                              by_cases c37 : x10_3 < (x5_2.length : Int)
                              · rw [if_pos c37] at H
                                have c37b0 : decide (x10_3 < (x5_2.length : Int)) = true := decide_eq_true c37
                                clear c37
                                (first | rw [c37b0] | (simp only [i64_w, i32_w]; rw [c37b0]) | skip)
                                by_cases c38 : 0 ≤ x10_3
                                · rw [if_pos c38] at H
                                  have c38b0 : decide (0 ≤ x10_3) = true := decide_eq_true c38
                                  clear c38
                                  by_cases c39 : 0 ≤ (rd x5_2 x10_3)
                                  · rw [if_pos c39] at H
                                    have c39b0 : decide (0 ≤ (rd x5_2 x10_3)) = true := decide_eq_true c39
                                    clear c39
                                    by_cases c40 : (rd x5_2 x10_3) < (x4_2.length : Int)
                                    · rw [if_pos c40] at H
                                      have c40b0 : decide ((rd x5_2 x10_3) < (x4_2.length : Int)) = true := decide_eq_true c40
                                      clear c40
                                      replace H := Option.bind_eq_some_iff.mp H
                                      obtain ⟨t169, A410, H⟩ := H
                                      replace H : (spec_SlideClass.j3 k3 x4_2 x5_2 x6_1 t160 x10_3 (l0_1.length : Int) x33_2 t169 a0_0 l0_1) = some (r1, r2) := H
                                      have A41 := Aside0.mk A410
                                      clear A410
                                      have H' := Aside0.mk H
                                      clear H
                                      have p167 : 0 ≤ (x10_3 : Int) := of_decide_eq_true (by first | (with_reducible assumption) | assumption)
                                      have q167 : x10_3 < (x5_2.length : Int) := of_decide_eq_true (by first | (with_reducible assumption) | assumption)
                                      obtain ⟨ad167, e167, hx167_0⟩ := Kd.at_int (Kd.R_reads' HO_5.out).2.2 x10_3 p167 q167
                                      cases e167
                                      replace p167 := eq_true p167
                                      replace q167 := eq_true q167
                                      have p168 : 0 ≤ ((rd x5_2 x10_3) : Int) := of_decide_eq_true (by first | (with_reducible assumption) | assumption)
                                      have q168 : (rd x5_2 x10_3) < (x4_2.length : Int) := of_decide_eq_true (by first | (with_reducible assumption) | assumption)
                                      obtain ⟨ad168, A168_0, c168_0, e168, hx168_0, hl168_0, hi168_0⟩ := at_L1 (Kd.N_reads' HO_4.out).2.2 (rd x5_2 x10_3) p168 q168
                                      obtain rfl : ad159 = ad168 := (by injection e168)
                                      obtain ⟨ce168, hce168, hMe168, hcc168⟩ := Kd.N_get HO_4.out [] (rd x5_2 x10_3) p168 (by first | exact q168 | exact of_decide_eq_true (by first | (with_reducible assumption) | assumption) | (have e_ := (Kd.N_reads' HO_4.out).1; omega))
                                      obtain ⟨ua168_0, uc168_0, rfl, ul168_0, ge168_0⟩ := Kd.FK_slice_open hMe168
                                      have hv168_0 := hcc168 0 _ rfl
                                      rw [Nat.add_zero, show ((Kd.slice 3 (Kd.int .i64))).sz = 1 from rfl, Nat.mul_one] at hv168_0
                                      replace hv168_0 := Option.some.inj (hv168_0.symm.trans hx168_0)
                                      injection hv168_0 with hva_ hvn_ hvc_
                                      rw [hva_] at ge168_0
                                      rw [hvc_] at ul168_0
                                      have HL168_0 := Aside0.mk (show Kd.V (Kd.int .i64) 3 _ w.heap.size _ _ (rd_L1 x4_2 (rd x5_2 x10_3)) from Kd.V_mk ul168_0 ge168_0)
                                      clear hva_ hvn_ hvc_ ge168_0 ul168_0
                                      clear hcc168 hce168
                                      have HR168_0 := Aside0.mk hi168_0
                                      have HC168_0 := Aside0.mk hl168_0
                                      clear hi168_0 hl168_0
                                      replace p168 := eq_true p168
                                      replace q168 := eq_true q168
                                      obtain ⟨Ao42, co42, eo42⟩ := Kd.R_slice HO_8.out
                                      subst eo42
                                      go_wp2_with (first | (go_at_call 78; (with_reducible refine (spec_lsSame.calls k3 _ _ (rd_L1 x4_2 (rd x5_2 x10_3)) _ _ t160 t169 _ ?side1 ?side2 ?side3 ?side4 A41.out).mono ?_); (case side1 => repeat (first | exact (by repeat (first | (with_reducible exact HR168_0.out) | (with_reducible refine Kd.C_alloc ?_ _) | (with_reducible refine Kd.C_drewN ?_ _) | (with_reducible refine Kd.C_drew ?_) | exact HR168_0.out)) | (with_reducible refine Kd.C_alloc ?_ _) | (with_reducible refine Kd.C_drewN ?_ _) | (with_reducible refine Kd.C_drew ?_))); (case side2 => exact HC168_0.out); (case side3 => repeat (first | exact (Kd.R_reads' HO_8.out).2.2 | (with_reducible refine Kd.C_alloc ?_ _) | (with_reducible refine Kd.C_drewN ?_ _) | (with_reducible refine Kd.C_drew ?_))); (case side4 => exact (Kd.R_reads' HO_8.out).2.1); rintro e w' ⟨rfl, ⟨nd, rfl⟩⟩))
                                      go_meet
                                      case rel => exact ⟨_, (t169), (by first | rfl | (simp; done) | (simp [*]; done)), H', ⟨by have := HK1.out; have := HK2.out; have := HK3.out; first | omega | exact Nat.le_refl _⟩, ⟨by (with_reducible repeat (first | apply Kd.N_alloc | apply Kd.N_drewN | apply Kd.N_drew)); exact HO_4.out⟩, ⟨by (with_reducible repeat (first | apply Kd.R_alloc | apply Kd.R_drewN | apply Kd.R_drew)); exact HO_5.out⟩, ⟨by (with_reducible repeat (first | apply Kd.R_alloc | apply Kd.R_drewN | apply Kd.R_drew)); exact HO_8.out⟩, ⟨by (with_reducible repeat (first | refine blk_drewN ?_ _ | refine blk_drew ?_ | refine blk_alloc ?_ _)); exact BK148.out⟩, ⟨by repeat (first | (with_reducible exact HR159_0.out) | (with_reducible refine Kd.C_alloc ?_ _) | (with_reducible refine Kd.C_drewN ?_ _) | (with_reducible refine Kd.C_drew ?_) | exact HR159_0.out)⟩, ⟨by repeat (first | (with_reducible first | exact HB.out | apply below_alloc | apply pw_below_drewN | apply below_drew1 | refine below_set ?_ GE148.out) | exact HB.out)⟩⟩
                                    · rw [if_neg c40] at H
                                      exact absurd H (by simp)
                                  · rw [if_neg c39] at H
                                    exact absurd H (by simp)
                                · rw [if_neg c38] at H
                                  exact absurd H (by simp)
                              · rw [if_neg c37] at H
                                have c37b0 : decide (x10_3 < (x5_2.length : Int)) = false := decide_eq_false c37
                                clear c37
                                (first | rw [c37b0] | (simp only [i64_w, i32_w]; rw [c37b0]) | skip)
                                have H' := Aside0.mk H
                                clear H
                                go_wp2
                                go_meet
                                case rel => exact ⟨_, (false), (by first | rfl | (simp; done) | (simp [*]; done)), H', ⟨by have := HK1.out; have := HK2.out; have := HK3.out; first | omega | exact Nat.le_refl _⟩, ⟨by (with_reducible repeat (first | apply Kd.N_alloc | apply Kd.N_drewN | apply Kd.N_drew)); exact HO_4.out⟩, ⟨by (with_reducible repeat (first | apply Kd.R_alloc | apply Kd.R_drewN | apply Kd.R_drew)); exact HO_5.out⟩, ⟨by (with_reducible repeat (first | apply Kd.R_alloc | apply Kd.R_drewN | apply Kd.R_drew)); exact HO_8.out⟩, ⟨by (with_reducible repeat (first | refine blk_drewN ?_ _ | refine blk_drew ?_ | refine blk_alloc ?_ _)); exact BK148.out⟩, ⟨by repeat (first | (with_reducible exact HR159_0.out) | (with_reducible refine Kd.C_alloc ?_ _) | (with_reducible refine Kd.C_drewN ?_ _) | (with_reducible refine Kd.C_drew ?_) | exact HR159_0.out)⟩, ⟨by repeat (first | (with_reducible first | exact HB.out | apply below_alloc | apply pw_below_drewN | apply below_drew1 | refine below_set ?_ GE148.out) | exact HB.out)⟩⟩
                            case rest =>
                              clear HC36
                              try clear c1
                              try clear p1
                              try clear q1
                              try clear hx1
                              try clear c2
                              try clear p2
                              try clear c3
                              try clear c4
                              try clear p6
                              try clear c7
                              try clear c15
                              try clear c15b0
                              try clear p15
                              try clear q15
                              try clear hx15
                              try clear c16
                              try clear p16
                              try clear q16
                              try clear hx16
                              try clear c18
                              try clear c18b0
                              try clear c19
                              try clear c19b0
                              try clear c20
                              try clear c20b0
                              try clear c22
                              try clear c26
                              try clear c26b0
                              try clear c28
                              try clear c28b0
                              try clear c29
                              try clear c29b0
                              try clear c30
                              try clear c30b0
                              try clear c31
                              try clear c31b0
                              try clear c33
                              try clear c37
                              try clear c37b0
                              try clear c38
                              try clear c38b0
                              try clear c39
                              try clear c39b0
                              try clear c40
                              try clear c40b0
                              try clear hcz17_0
                              try clear hcz17_1
                              try clear hcz6_0
                              try clear hcz6_1
                              try clear hcz8_0
                              try clear hcz8_1
                              try clear hfz17_0
                              try clear hfz17_1
                              try clear hfz6_0
                              try clear hfz6_1
                              try clear hfz8_0
                              try clear hfz8_1
                              try clear hx159_0
                              try clear hx164_0
                              try clear hx165_0
                              try clear hx167_0
                              try clear hx168_0
                              try clear p1
                              try clear p15
                              try clear p159
                              try clear p164
                              try clear p165
                              try clear p167
                              try clear p168
                              try clear p2
                              try clear p6
                              try clear q1
                              try clear q15
                              try clear q159
                              try clear q164
                              try clear q165
                              try clear q167
                              try clear q168
                              obtain ⟨kq, x82_35, rfl, HA, HJ35, HO_4, HO_5, HO_8, BK148, HR159_0, HB⟩ := hcut
                              cases kq with
                              | zero => exact absurd HA.out (by simp [spec_SlideClass.j3])
                              | succ kj35 =>
                                have H := HA.out
                                clear HA
                                simp only [spec_SlideClass.j3] at H
                                by_cases c43 : x82_35 = true
                                · subst c43
                                  have H1 : (spec_SlideClass.l1 kj35 x4_2 x5_2 x6_1 (l0_1.length : Int) (wrap64 (x33_2 + 1)) a0_0 l0_1) = some (r1, r2) := by rw [if_pos rfl] at H; exact H
                                  clear H
                                  have H := H1
                                  clear H1
                                  have H' := Aside0.mk H
                                  clear H
                                  go_wp2
                                  go_roundg kj35
                                  case measure => have := HK1.out; have := HK2.out; have := HK3.out; have := HJ35.out; omega
                                  case rel => exact ⟨(x4_2), (x5_2), (wrap64 (x33_2 + 1)), (by first | rfl | (simp; done) | (simp [*]; done)), H', ⟨by have := HK1.out; have := HK2.out; have := HK3.out; have := HJ35.out; omega⟩, ⟨by (with_reducible repeat (first | apply Kd.N_alloc | apply Kd.N_drewN | apply Kd.N_drew)); exact Kd.N_mono HO_4.out (fun _ hk => ⟨hk.1, ⟨hk.2.1, hk.2.2.2⟩⟩)⟩, ⟨by (with_reducible repeat (first | apply Kd.R_alloc | apply Kd.R_drewN | apply Kd.R_drew)); exact Kd.R_mono HO_5.out (fun _ hk => hk.1)⟩, ⟨by (with_reducible repeat (first | refine blk_drewN ?_ _ | refine blk_drew ?_ | refine blk_alloc ?_ _)); exact BK148.out⟩, ⟨by repeat (first | (with_reducible first | exact HB.out | apply below_alloc | apply pw_below_drewN | apply below_drew1 | refine below_set ?_ GE148.out) | exact HB.out)⟩⟩
                                · replace c43 := Bool.eq_false_iff.mpr c43
                                  subst c43
                                  have H1 : (if x4_2.length < 5864062014805 then ((some (x4_2 ++ [t160] : List (List Int))).bind fun y170 => (if x5_2.length < 17592186044416 then ((some (x5_2 ++ [0] : List Int)).bind fun y173 => (if 0 ≤ (wrap64 (x10_3 + 1)) then (if (wrap64 (x10_3 + 1)) ≤ (y173.length : Int) then (if 0 ≤ x10_3 then (if x10_3 ≤ (y173.length : Int) then (if x10_3 < (y173.length : Int) then (if (y170.length : Int) > 400 then (some (([] : List (S31)), false)) else (spec_SlideClass.l1 kj35 y170 ((spec_SlideClass.shf y173 (x10_3 : Int).toNat).set (x10_3 : Int).toNat (wrap64 ((y170.length : Int) - 1))) x6_1 (l0_1.length : Int) (wrap64 (x33_2 + 1)) a0_0 l0_1)) else (none)) else (none)) else (none)) else (none)) else (none))) else (none))) else (none)) = some (r1, r2) := by rw [if_neg (show ¬ (false = true) by decide)] at H; exact H
                                  clear H
                                  have H := H1
                                  clear H1
                                  by_cases c44 : x4_2.length < 5864062014805
                                  · rw [if_pos c44] at H
                                    have LMc44 := Aside0.mk c44
                                    clear c44
                                    obtain ⟨y170, hy170⟩ : ∃ y_ : List (List Int), y_ = (x4_2 ++ [t160]) := ⟨_, rfl⟩
                                    replace H : (if x5_2.length < 17592186044416 then ((some (x5_2 ++ [0] : List Int)).bind fun y173 => (if 0 ≤ (wrap64 (x10_3 + 1)) then (if (wrap64 (x10_3 + 1)) ≤ (y173.length : Int) then (if 0 ≤ x10_3 then (if x10_3 ≤ (y173.length : Int) then (if x10_3 < (y173.length : Int) then (if (y170.length : Int) > 400 then (some (([] : List (S31)), false)) else (spec_SlideClass.l1 kj35 y170 ((spec_SlideClass.shf y173 (x10_3 : Int).toNat).set (x10_3 : Int).toNat (wrap64 ((y170.length : Int) - 1))) x6_1 (l0_1.length : Int) (wrap64 (x33_2 + 1)) a0_0 l0_1)) else (none)) else (none)) else (none)) else (none)) else (none))) else (none)) = some (r1, r2) := by first | (rw [hy170]; with_reducible exact H) | (have H2_ := (Option.bind_some _ _).symm.trans H; rw [hy170]; with_reducible exact H2_) | (have H2_ := (Option.bind_some _ _).symm.trans H; with_reducible exact H2_) | with_reducible exact H | (rw [hy170]; exact H) | exact H
                                    have Ny170 := Aside0.mk hy170
                                    clear hy170
                                    by_cases c45 : x5_2.length < 17592186044416
                                    · rw [if_pos c45] at H
                                      have LMc45 := Aside0.mk c45
                                      clear c45
                                      obtain ⟨y173, hy173⟩ : ∃ y_ : List Int, y_ = (x5_2 ++ [0]) := ⟨_, rfl⟩
                                      replace H : (if 0 ≤ (wrap64 (x10_3 + 1)) then (if (wrap64 (x10_3 + 1)) ≤ (y173.length : Int) then (if 0 ≤ x10_3 then (if x10_3 ≤ (y173.length : Int) then (if x10_3 < (y173.length : Int) then (if (y170.length : Int) > 400 then (some (([] : List (S31)), false)) else (spec_SlideClass.l1 kj35 y170 ((spec_SlideClass.shf y173 (x10_3 : Int).toNat).set (x10_3 : Int).toNat (wrap64 ((y170.length : Int) - 1))) x6_1 (l0_1.length : Int) (wrap64 (x33_2 + 1)) a0_0 l0_1)) else (none)) else (none)) else (none)) else (none)) else (none)) = some (r1, r2) := by first | (rw [hy173]; with_reducible exact H) | (have H2_ := (Option.bind_some _ _).symm.trans H; rw [hy173]; with_reducible exact H2_) | (have H2_ := (Option.bind_some _ _).symm.trans H; with_reducible exact H2_) | with_reducible exact H | (rw [hy173]; exact H) | exact H
                                      have Ny173 := Aside0.mk hy173
                                      clear hy173
                                      obtain ⟨ji46, hji46⟩ : ∃ j_ : Int, (wrap64 (x10_3 + 1)) = j_ := ⟨_, rfl⟩
                                      replace H : (if 0 ≤ (ji46) then (if (ji46) ≤ (y173.length : Int) then (if 0 ≤ x10_3 then (if x10_3 ≤ (y173.length : Int) then (if x10_3 < (y173.length : Int) then (if (y170.length : Int) > 400 then (some (([] : List (S31)), false)) else (spec_SlideClass.l1 kj35 y170 ((spec_SlideClass.shf y173 (x10_3 : Int).toNat).set (x10_3 : Int).toNat (wrap64 ((y170.length : Int) - 1))) x6_1 (l0_1.length : Int) (wrap64 (x33_2 + 1)) a0_0 l0_1)) else (none)) else (none)) else (none)) else (none)) else (none)) = some (r1, r2) := by first | (rw [hji46] at H; exact H) | (simp only [hji46] at H ⊢; exact H)
                                      have hji46w : (IntKind.i64.wrap (x10_3 + 1)) = ji46 := (i64_w _).trans hji46
                                      by_cases c47 : 0 ≤ (ji46)
                                      · rw [if_pos c47] at H
                                        have c47b0 := eq_true c47
                                        have c47b1 : decide (0 ≤ (ji46)) = true := decide_eq_true c47
                                        clear c47
                                        by_cases c48 : (ji46) ≤ (y173.length : Int)
                                        · rw [if_pos c48] at H
                                          have c48b0 := eq_true c48
                                          have c48b1 : decide ((ji46) ≤ (y173.length : Int)) = true := decide_eq_true c48
                                          clear c48
                                          obtain ⟨y176, hy176⟩ : ∃ y_ : List Int, y_ = (y173.drop ((ji46) : Int).toNat) := ⟨_, rfl⟩
                                          replace H : (if 0 ≤ x10_3 then (if x10_3 ≤ (y173.length : Int) then (if x10_3 < (y173.length : Int) then (if (y170.length : Int) > 400 then (some (([] : List (S31)), false)) else (spec_SlideClass.l1 kj35 y170 ((spec_SlideClass.shf y173 (x10_3 : Int).toNat).set (x10_3 : Int).toNat (wrap64 ((y170.length : Int) - 1))) x6_1 (l0_1.length : Int) (wrap64 (x33_2 + 1)) a0_0 l0_1)) else (none)) else (none)) else (none)) = some (r1, r2) := by first | (rw [hy176]; with_reducible exact H) | (have H2_ := (Option.bind_some _ _).symm.trans H; rw [hy176]; with_reducible exact H2_) | (have H2_ := (Option.bind_some _ _).symm.trans H; with_reducible exact H2_) | with_reducible exact H | (rw [hy176]; exact H) | exact H
                                          have Ny176 := Aside0.mk hy176
                                          clear hy176
                                          by_cases c49 : 0 ≤ x10_3
                                          · rw [if_pos c49] at H
                                            have c49b0 := eq_true c49
                                            have c49b1 : decide (0 ≤ x10_3) = true := decide_eq_true c49
                                            clear c49
                                            by_cases c50 : x10_3 ≤ (y173.length : Int)
                                            · rw [if_pos c50] at H
                                              have c50b0 := eq_true c50
                                              have c50b1 : decide (x10_3 ≤ (y173.length : Int)) = true := decide_eq_true c50
                                              clear c50
                                              obtain ⟨y181, hy181⟩ : ∃ y_ : List Int, y_ = (y173.drop (x10_3 : Int).toNat) := ⟨_, rfl⟩
                                              replace H : (if x10_3 < (y173.length : Int) then (if (y170.length : Int) > 400 then (some (([] : List (S31)), false)) else (spec_SlideClass.l1 kj35 y170 ((spec_SlideClass.shf y173 (x10_3 : Int).toNat).set (x10_3 : Int).toNat (wrap64 ((y170.length : Int) - 1))) x6_1 (l0_1.length : Int) (wrap64 (x33_2 + 1)) a0_0 l0_1)) else (none)) = some (r1, r2) := by first | (rw [hy181]; with_reducible exact H) | (have H2_ := (Option.bind_some _ _).symm.trans H; rw [hy181]; with_reducible exact H2_) | (have H2_ := (Option.bind_some _ _).symm.trans H; with_reducible exact H2_) | with_reducible exact H | (rw [hy181]; exact H) | exact H
                                              have Ny181 := Aside0.mk hy181
                                              clear hy181
                                              by_cases c51 : x10_3 < (y173.length : Int)
                                              · rw [if_pos c51] at H
                                                have c51b0 : decide (x10_3 < (y173.length : Int)) = true := decide_eq_true c51
                                                clear c51
                                                obtain ⟨y186, hy186⟩ : ∃ y_ : List Int, y_ = ((spec_SlideClass.shf y173 (x10_3 : Int).toNat).set (x10_3 : Int).toNat (wrap64 ((y170.length : Int) - 1))) := ⟨_, rfl⟩
                                                replace H : (if (y170.length : Int) > 400 then (some (([] : List (S31)), false)) else (spec_SlideClass.l1 kj35 y170 y186 x6_1 (l0_1.length : Int) (wrap64 (x33_2 + 1)) a0_0 l0_1)) = some (r1, r2) := by first | (rw [hy186]; with_reducible exact H) | (have H2_ := (Option.bind_some _ _).symm.trans H; rw [hy186]; with_reducible exact H2_) | (have H2_ := (Option.bind_some _ _).symm.trans H; with_reducible exact H2_) | with_reducible exact H | (rw [hy186]; exact H) | exact H
                                                have Ny186 := Aside0.mk hy186
                                                clear hy186
                                                by_cases c53 : (y170.length : Int) > 400
                                                · rw [if_pos c53] at H
                                                  have c53b0 : decide (400 < (y170.length : Int)) = true := decide_eq_true c53
                                                  have c53b1 : decide (400 < y170.length) = true := decide_eq_true (by omega)
                                                  clear c53
                                                  simp only [Option.some.injEq, Prod.mk.injEq] at H
                                                  obtain ⟨rfl, rfl⟩ := H
                                                  obtain ⟨Ao55, co55, eo55⟩ := Kd.R_slice HO_8.out
                                                  subst eo55
                                                  try go_wp2_with (first | ((with_reducible refine gate_builtin (b := .append) (xs := #[.tmp 83, .tmp 85]) rfl ?_); at_builtin; refine Kd.N_append (Kd.slice 3 (Kd.int .i64)) (w0 := w) w.heap.size rfl (.tmp 83) (.tmp 85) 67 25 (.slice none 0 0) 24 rfl Try.underlying67 info25 rfl (by decide) (by omega) (.slice (some ad159) x4_2.length co23) x4_2 t160 [.slice Ao55 t160.length co55] (fun k_ => (w.heap.size ≤ k_) ∧ some k_ ≠ (.slice Ao25 x5_2.length co25 : Value).ownBlock ∧ k_ ≠ gb148) (fun k_ => ((fun k_ => (w.heap.size ≤ k_) ∧ some k_ ≠ (.slice Ao25 x5_2.length co25 : Value).ownBlock ∧ k_ ≠ gb148)) k_ ∧ some k_ ≠ (.slice (some ad159) x4_2.length co23 : Value).ownBlock) rfl rfl ?aP (fun _ hk => hk) ?aF ?aO ?aB ?aS ?aL ?_; (case aP => exact (Kd.FK_slice_mk (Kd.R_reads' (Kd.R_mono (ok' := (fun k_ => ((fun k_ => (w.heap.size ≤ k_) ∧ some k_ ≠ (.slice Ao25 x5_2.length co25 : Value).ownBlock ∧ k_ ≠ gb148)) k_ ∧ some k_ ≠ (.slice (some ad159) x4_2.length co23 : Value).ownBlock)) (Kd.R_types (Kd.R_apart' (HO_8.out) (Kd.N_typed HO_4.out) (by decide)) BK148.out (by decide)) (fun k_ hk => ⟨⟨hk.1.1.1, ⟨hk.1.1.2, hk.2⟩⟩, hk.1.2⟩))).2.1 (Kd.R_F (Kd.R_mono (ok' := (fun k_ => ((fun k_ => (w.heap.size ≤ k_) ∧ some k_ ≠ (.slice Ao25 x5_2.length co25 : Value).ownBlock ∧ k_ ≠ gb148)) k_ ∧ some k_ ≠ (.slice (some ad159) x4_2.length co23 : Value).ownBlock)) (Kd.R_types (Kd.R_apart' (HO_8.out) (Kd.N_typed HO_4.out) (by decide)) BK148.out (by decide)) (fun k_ hk => ⟨⟨hk.1.1.1, ⟨hk.1.1.2, hk.2⟩⟩, hk.1.2⟩))))); (case aB => exact (by repeat (first | (with_reducible first | exact HB.out | apply below_alloc | apply pw_below_drewN | apply below_drew1 | refine below_set ?_ GE148.out) | exact HB.out))); (case aF => exact (fun k_ hk => ⟨(Nat.le_trans (below_size (by repeat (first | (with_reducible first | exact HB.out | apply below_alloc | apply pw_below_drewN | apply below_drew1 | refine below_set ?_ GE148.out) | exact HB.out))) hk), Kd.fresh' (Kd.R_lt (by (with_reducible repeat (first | apply Kd.R_alloc | apply Kd.R_drewN | apply Kd.R_drew)); exact HO_5.out)) k_ hk, Kd.freshB (g := gb148) (o := .cells #[.int .i64 a0_0, .slice A0_1 l0_1.length c0_1] 31 (0, 0)) (by (with_reducible repeat (first | refine blk_drewN ?_ _ | refine blk_drew ?_ | refine blk_alloc ?_ _)); exact BK148.out) k_ hk⟩)); (case aO => exact (by (with_reducible repeat (first | apply Kd.N_alloc | apply Kd.N_drewN | apply Kd.N_drew)); exact Kd.N_mono HO_4.out (fun _ hk => ⟨hk.1, ⟨hk.2.1, hk.2.2.2⟩⟩))); (case aS => exact (below_size (by repeat (first | (with_reducible first | exact HB.out | apply below_alloc | apply pw_below_drewN | apply below_drew1 | refine below_set ?_ GE148.out) | exact HB.out)))); (case aL => have := LMc44.out; omega); intro v171 w54 ho hb hg hat; rw [← Ny170.out] at ho; have n0_ := Aside0.mk (Kd.R_over' (by (with_reducible repeat (first | apply Kd.R_alloc | apply Kd.R_drewN | apply Kd.R_drew)); exact HO_5.out) (Kd.N_typed (by (with_reducible repeat (first | apply Kd.N_alloc | apply Kd.N_drewN | apply Kd.N_drew)); exact HO_4.out)) (by decide) hg); have n1_ := Aside0.mk (blk_grown (g := gb148) (o := .cells #[.int .i64 a0_0, .slice A0_1 l0_1.length c0_1] 31 (0, 0)) (by (with_reducible repeat (first | refine blk_drewN ?_ _ | refine blk_drew ?_ | refine blk_alloc ?_ _)); exact BK148.out) hg (Kd.N_ne HO_4.out BK148.out (by decide))); have n2_ := Aside0.mk (hb); have n3_ := Aside0.mk (ho); clear HO_5; clear BK148; clear HB; clear HO_4; clear HO_8; have HO_5 := n0_; have BK148 := n1_; have HB := n2_; have HO172 := n3_; clear n0_ n1_ n2_ n3_; clear ho hb hg hat) | ((with_reducible refine gate_builtin (b := .append) (xs := #[.tmp 87, .tmp 88]) rfl ?_); at_builtin; refine Kd.R_append (Kd.int .i64) (w0 := w) w.heap.size rfl (.tmp 87) (.tmp 88) 25 3 (.int .i64 0) 8 rfl Try.underlying25 info3 rfl (by decide) (by omega) (.slice Ao25 x5_2.length co25) x5_2 0 [.int .i64 0] (fun k_ => (w.heap.size ≤ k_)) (fun _ => False) rfl rfl ?aP (fun _ hk => hk.elim) ?aF ?aO ?aB ?aS ?aL ?_; (case aP => exact rfl); (case aB => exact (by repeat (first | (with_reducible first | exact HB.out | apply below_alloc | apply pw_below_drewN | apply below_drew1 | refine below_set ?_ GE148.out) | exact HB.out))); (case aF => exact (fun k_ hk => (Nat.le_trans (below_size (by repeat (first | (with_reducible first | exact HB.out | apply below_alloc | apply pw_below_drewN | apply below_drew1 | refine below_set ?_ GE148.out) | exact HB.out))) hk))); (case aO => exact (by (with_reducible repeat (first | apply Kd.R_alloc | apply Kd.R_drewN | apply Kd.R_drew)); exact Kd.R_mono HO_5.out (fun _ hk => hk.1))); (case aS => exact (below_size (by repeat (first | (with_reducible first | exact HB.out | apply below_alloc | apply pw_below_drewN | apply below_drew1 | refine below_set ?_ GE148.out) | exact HB.out)))); (case aL => have := LMc45.out; omega); intro v174 w56 ho hb hg hat; rw [← Ny173.out] at ho; have n0_ := Aside0.mk (blk_grown (g := gb148) (o := .cells #[.int .i64 a0_0, .slice A0_1 l0_1.length c0_1] 31 (0, 0)) (by (with_reducible repeat (first | refine blk_drewN ?_ _ | refine blk_drew ?_ | refine blk_alloc ?_ _)); exact BK148.out) hg (Kd.R_ne HO_5.out BK148.out (by decide))); have n1_ := Aside0.mk (Kd.N_afterv (ok := (fun k_ => (w.heap.size ≤ k_) ∧ k_ ≠ gb148)) (by (with_reducible repeat (first | apply Kd.N_alloc | apply Kd.N_drewN | apply Kd.N_drew)); exact Kd.N_mono HO172.out (fun _ hk => ⟨⟨hk.1, hk.2.2⟩, hk.2.1⟩)) hg hat); have n2_ := Aside0.mk (hb); have n3_ := Aside0.mk (ho); clear BK148; clear HO172; clear HB; clear HO_5; have BK148 := n0_; have HO172 := n1_; have HB := n2_; have HO175 := n3_; clear n0_ n1_ n2_ n3_; clear ho hb hg hat))
                                                  have n0_ := Aside0.mk (Kd.N_drew HO172.out)
                                                  have n1_ := Aside0.mk (Kd.R_drew HO175.out)
                                                  have n2_ := Aside0.mk (blk_drew BK148.out)
                                                  have n3_ := Aside0.mk (below_drew1 HB.out)
                                                  clear HO172
                                                  clear HO175
                                                  clear BK148
                                                  clear HB
                                                  have HO172 := n0_
                                                  have HO175 := n1_
                                                  have BK148 := n2_
                                                  have HB := n3_
                                                  clear n0_ n1_ n2_ n3_
                                                  obtain ⟨Ao59, co59, eo59⟩ := Kd.R_slice HO175.out
                                                  (first | subst eo59 | (injection eo59 with f1_ f2_ f3_; have f4_ := f1_.symm; have f5_ := f3_.symm; clear f1_ f2_ f3_; subst f4_; subst f5_))
                                                  have q58 : ((ji46) : Int) ≤ ((y173.length : Int) : Int) := of_decide_eq_true (by first | (with_reducible assumption) | assumption)
                                                  obtain ⟨i058, hi058, _, hsz58, _⟩ := info_parts info3
                                                  have hroom58 : y173.length ≤ co59 := (Kd.R_reads' HO175.out).2.1
                                                  have hC58 : Kd.F (Kd.int .i64) _ _ Ao59 y173.length y173 := (Kd.V_at (base := w.heap.size) (Kd.R_V (Kd.R_types (Kd.R_apart' (HO175.out) (Kd.N_typed HO172.out) (by decide)) BK148.out (by decide)))).2.2
                                                  have q058 : (0 : Int) ≤ ((ji46) : Int) := of_decide_eq_true (by first | (with_reducible assumption) | assumption)
                                                  have hcut58 := cut_from (P := Try.prog) 25 3 .i64 Try.underlying25 hi058 1 hsz58 Ao59 y173.length co59 (ji46) q058 q58
                                                  have hr58 := Kd.F_cut (m := ((ji46) : Int).toNat) (c := co59) hC58 (by omega) hroom58
                                                  obtain ⟨A58, hA58⟩ : ∃ A1, A1 = (if co59 = ((ji46) : Int).toNat then Ao59 else (Ao59 : Option Addr).map (·.add (((ji46) : Int).toNat * 1))) := ⟨_, rfl⟩
                                                  obtain ⟨c58, hc58⟩ : ∃ c1, c1 = co59 - ((ji46) : Int).toNat := ⟨_, rfl⟩
                                                  have hy58 : y176.length = y173.length - ((ji46) : Int).toNat := (by rw [Ny176.out, List.length_drop] <;> omega)
                                                  rw [show (y173).drop ((ji46) : Int).toNat = y176 from Ny176.out.symm] at hr58
                                                  replace hr58 : Kd.F (Kd.int .i64) _ _ A58 y176.length y176 := (by rw [hA58]; exact hr58)
                                                  rw [← hy58, ← hA58, ← hc58] at hcut58
                                                  have HO180 := Aside0.mk (show Kd.V (Kd.int .i64) 3 _ w.heap.size _ (.slice A58 y176.length c58) y176 from Kd.V_mk (by rw [hy58, hc58]; exact Nat.sub_le_sub_right hroom58 _) hr58)
                                                  have HC180 := Aside0.mk (show y176.length ≤ c58 from by rw [hy58, hc58]; exact Nat.sub_le_sub_right hroom58 _)
                                                  clear hr58 hC58 hroom58 hi058 hsz58 hc58
                                                  have KY58 := Aside0.mk hy58
                                                  have KA58 := Aside0.mk hA58
                                                  clear hy58 hA58
                                                  replace q58 := eq_true q58
                                                  have q60 : (x10_3 : Int) ≤ ((y173.length : Int) : Int) := of_decide_eq_true (by first | (with_reducible assumption) | assumption)
                                                  obtain ⟨i060, hi060, _, hsz60, _⟩ := info_parts info3
                                                  have hroom60 : y173.length ≤ co59 := (Kd.R_reads' HO175.out).2.1
                                                  have hC60 : Kd.F (Kd.int .i64) _ _ Ao59 y173.length y173 := (Kd.V_at (base := w.heap.size) (Kd.R_V (Kd.R_types (Kd.R_apart' (HO175.out) (Kd.N_typed HO172.out) (by decide)) BK148.out (by decide)))).2.2
                                                  have q060 : (0 : Int) ≤ (x10_3 : Int) := of_decide_eq_true (by first | (with_reducible assumption) | assumption)
                                                  have hcut60 := cut_from (P := Try.prog) 25 3 .i64 Try.underlying25 hi060 1 hsz60 Ao59 y173.length co59 x10_3 q060 q60
                                                  have hr60 := Kd.F_cut (m := (x10_3 : Int).toNat) (c := co59) hC60 (by omega) hroom60
                                                  obtain ⟨A60, hA60⟩ : ∃ A1, A1 = (if co59 = (x10_3 : Int).toNat then Ao59 else (Ao59 : Option Addr).map (·.add ((x10_3 : Int).toNat * 1))) := ⟨_, rfl⟩
                                                  obtain ⟨c60, hc60⟩ : ∃ c1, c1 = co59 - (x10_3 : Int).toNat := ⟨_, rfl⟩
                                                  have hy60 : y181.length = y173.length - (x10_3 : Int).toNat := (by rw [Ny181.out, List.length_drop] <;> omega)
                                                  rw [show (y173).drop (x10_3 : Int).toNat = y181 from Ny181.out.symm] at hr60
                                                  replace hr60 : Kd.F (Kd.int .i64) _ _ A60 y181.length y181 := (by rw [hA60]; exact hr60)
                                                  rw [← hy60, ← hA60, ← hc60] at hcut60
                                                  have HO185 := Aside0.mk (show Kd.V (Kd.int .i64) 3 _ w.heap.size _ (.slice A60 y181.length c60) y181 from Kd.V_mk (by rw [hy60, hc60]; exact Nat.sub_le_sub_right hroom60 _) hr60)
                                                  have HC185 := Aside0.mk (show y181.length ≤ c60 from by rw [hy60, hc60]; exact Nat.sub_le_sub_right hroom60 _)
                                                  clear hr60 hC60 hroom60 hi060 hsz60 hc60
                                                  have KY60 := Aside0.mk hy60
                                                  have KA60 := Aside0.mk hA60
                                                  clear hy60 hA60
                                                  replace q60 := eq_true q60
                                                  refine start_ (n := 8) (S := fun w' => True) (ds := []) #[false, false, false, false, false, false, false, false] (by kernel_rfl) rfl rfl trivial (fun hHeld => ?_); refine with_tabW spec_SlideClass.tab22 spec_SlideClass.bits22 (fun HT_ HW_ => ?_)
                                                  generalize w56.drew = w57 at HO172 HO175 BK148 HB HO180 HO185 hHeld ⊢
                                                  refine pure_ (i := 0) (N := some 90) (v := ?_) (a' := ?_) #[true, false, false, false, false, false, false, false] rfl rfl (any_of HT_.out (by kernel_rfl)) (fun _ _ _ h => h) (Or.inl ⟨by rfl, ?_⟩) ?_ ?_
                                                  rotate_left
                                                  · intro w'
                                                    go_simp
                                                    with_reducible rfl
                                                  rotate_left
                                                  · simp only [Act.put, List.setIfInBounds_toArray, List.set_cons_zero, List.set_cons_succ, i64_w, i32_w]
                                                    rfl
                                                  refine pure_ (i := 1) (N := some 91) (v := ?_) (a' := ?_) #[true, true, false, false, false, false, false, false] rfl rfl (any_of HT_.out (by kernel_rfl)) (fun _ _ _ h => h) (Or.inl ⟨by rfl, ?_⟩) ?_ ?_
                                                  rotate_left
                                                  · intro w'
                                                    go_simp
                                                    with_reducible rfl
                                                  rotate_left
                                                  · simp only [Act.put, List.setIfInBounds_toArray, List.set_cons_zero, List.set_cons_succ, i64_w, i32_w]
                                                    rfl
                                                  refine pure_ (i := 2) (N := some 92) (v := ?_) (a' := ?_) #[true, true, true, false, false, false, false, false] rfl rfl (any_of HT_.out (by kernel_rfl)) (fun _ _ _ h => h) (Or.inl ⟨by rfl, ?_⟩) ?_ ?_
                                                  rotate_left
                                                  · intro w'
                                                    go_simp
                                                    with_reducible rfl
                                                  rotate_left
                                                  · simp only [Act.put, List.setIfInBounds_toArray, List.set_cons_zero, List.set_cons_succ, i64_w, i32_w]
                                                    rfl
                                                  refine pure_ (i := 3) (N := some 93) (v := ?_) (a' := ?_) #[true, true, true, true, false, false, false, false] rfl rfl (any_of HT_.out (by kernel_rfl)) (fun _ _ _ h => h) (Or.inl ⟨by rfl, ?_⟩) ?_ ?_
                                                  rotate_left
                                                  · intro w'
                                                    go_simp
                                                    with_reducible rfl
                                                  rotate_left
                                                  · simp only [Act.put, List.setIfInBounds_toArray, List.set_cons_zero, List.set_cons_succ, i64_w, i32_w]
                                                    rfl
                                                  refine pure_ (i := 4) (N := some 94) (v := ?_) (a' := ?_) #[true, true, true, true, true, false, false, false] rfl rfl (any_of HT_.out (by kernel_rfl)) (fun _ _ _ h => h) (Or.inl ⟨by rfl, ?_⟩) ?_ ?_
                                                  rotate_left
                                                  · intro w'
                                                    go_simp
                                                    with_reducible rfl
                                                  rotate_left
                                                  · simp only [Act.put, List.setIfInBounds_toArray, List.set_cons_zero, List.set_cons_succ, i64_w, i32_w]
                                                    rfl
                                                  refine pure_ (i := 5) (N := some 95) (v := ?_) (a' := ?_) #[true, true, true, true, true, true, false, false] rfl rfl (any_of HT_.out (by kernel_rfl)) (fun _ _ _ h => h) (Or.inl ⟨by rfl, ?_⟩) ?_ ?_
                                                  rotate_left
                                                  · intro w'
                                                    go_simp
                                                    with_reducible rfl
                                                  rotate_left
                                                  · simp only [Act.put, List.setIfInBounds_toArray, List.set_cons_zero, List.set_cons_succ, i64_w, i32_w]
                                                    rfl
                                                  refine pure_ (i := 6) (N := some 96) (v := ?_) (a' := ?_) #[true, true, true, true, true, true, true, false] rfl rfl (any_of HT_.out (by kernel_rfl)) (fun _ _ _ h => h) (Or.inl ⟨by rfl, ?_⟩) ?_ ?_
                                                  rotate_left
                                                  · intro w'
                                                    go_simp
                                                    with_reducible rfl
                                                  rotate_left
                                                  · simp only [Act.put, List.setIfInBounds_toArray, List.set_cons_zero, List.set_cons_succ, i64_w, i32_w]
                                                    rfl
                                                  refine one_ (i := 7) (N := some 97) #[true, true, true, true, true, true, true, true] rfl rfl (one_of HT_.out (by kernel_rfl)) (by decide) (fun K hK => ?_)
                                                  have hx0_ : (0 : Int) ≤ x10_3 := of_decide_eq_true (by first | (with_reducible assumption) | assumption)
                                                  have hx1_ : x10_3 < (y173.length : Int) := of_decide_eq_true (by first | (with_reducible assumption) | assumption)
                                                  have hx2_ := Kd.F_max (Kd.R_F HO175.out)
                                                  have hj_ : (ji46 : Int).toNat = (x10_3 : Int).toNat + 1 := (by rw [← hji46]; unfold wrap64; omega)
                                                  obtain ⟨wc_, hrun_, hR_, hB_, hg_⟩ := spec_SlideClass.copy_run (P := Try.prog) w.heap.size 25 25 3 Try.underlying25 (by kernel_rfl) Ao59 co59 (x10_3 : Int).toNat y173 _ (by omega) HO175.out HB.out (below_size HB.out) c58 c60
                                                  rw [← hj_, ← KA58.out, ← KY58.out, ← KA60.out, ← KY60.out] at hrun_
                                                  refine spec_SlideClass.step rfl (.tmp 93) (.tmp 96) 25 25 rfl _ _ rfl rfl (hrun_ _) ?_
                                                  have n0_ := Aside0.mk (blk_grown (g := gb148) (o := .cells #[.int .i64 a0_0, .slice A0_1 l0_1.length c0_1] 31 (0, 0)) BK148.out hg_ (Kd.R_ne HO175.out BK148.out (by decide)))
                                                  have n1_ := Aside0.mk (Kd.N_afterv (v := (.slice Ao59 y173.length co59)) (v1 := (.slice Ao59 y173.length co59)) (ok := (fun k_ => (w.heap.size ≤ k_) ∧ k_ ≠ gb148)) HO172.out hg_ (.inl rfl))
                                                  obtain ⟨y9173, hy9173⟩ : ∃ y_ : List Int, y_ = spec_SlideClass.shf y173 (x10_3 : Int).toNat := ⟨_, rfl⟩
                                                  rw [← hy9173] at hR_
                                                  have hL_ : y9173.length = y173.length := (by rw [hy9173]; exact spec_SlideClass.shf_length _ _ (by omega))
                                                  have n2_ := Aside0.mk (show y186 = y9173.set _ _ from by rw [hy9173]; exact Ny186.out)
                                                  have n3_ := Aside0.mk hB_
                                                  rw [← hL_] at n1_ hR_ c51b0
                                                  have n4_ := Aside0.mk hR_
                                                  clear BK148
                                                  clear HO172
                                                  clear HO175
                                                  clear HB
                                                  clear HO180 HO185 HC180 HC185 Ny186 hHeld hrun_ hR_ hB_ hg_ hx0_ hx1_ hx2_ hj_ hy9173
                                                  have BK148 := n0_
                                                  have HO172 := n1_
                                                  have HO175 := n4_
                                                  have HB := n3_
                                                  have Ny186 := n2_
                                                  clear n0_ n1_ n2_ n3_ n4_
                                                  refine hK.out _ _ trivial (fun hHeld => ?_)
                                                  clear hK K
                                                  refine norm_ (a' := ?_) ?_ ?_
                                                  rotate_left
                                                  · show Act.put _ (some 97) _ = _
                                                    simp only [Act.put, List.setIfInBounds_toArray, List.set_cons_zero, List.set_cons_succ, i64_w, i32_w]
                                                    rfl
                                                  rw [← hL_]
                                                  have KL_ := Aside0.mk hL_
                                                  clear hL_
                                                  refine done_ (done_of HT_.out (by kernel_rfl)) ?_
                                                  obtain ⟨Ao61, co61, eo61⟩ := Kd.N_slice HO172.out
                                                  subst eo61
                                                  have p52 : 0 ≤ (x10_3 : Int) := of_decide_eq_true (by first | (with_reducible assumption) | assumption)
                                                  have q52 : (x10_3 : Int) < ((y9173.length : Int) : Int) := of_decide_eq_true (by first | (with_reducible assumption) | assumption)
                                                  obtain ⟨go52, co52, eo52, gb52, gl52, cl52, HG52⟩ := Kd.R_form HO175.out (by have h1_ : x10_3 < (y9173.length : Int) := of_decide_eq_true (by first | (with_reducible assumption) | assumption); have h2_ : (0 : Int) ≤ x10_3 := of_decide_eq_true (by first | (with_reducible assumption) | assumption); omega)
                                                  (first | cases eo52 | (injection eo52 with ea_ en_ ec_; (first | subst ea_ | (injection ea_ with ea_; subst ea_)); subst ec_; clear en_))
                                                  have GB52 := Aside0.mk gb52
                                                  have GG52 := Aside0.mk HG52
                                                  clear gb52 gl52 HG52
                                                  obtain ⟨hx52_0, hf52_0⟩ := Kd.R_celln 0 HO175.out (x10_3 : Int) p52 q52
                                                  replace p52 := eq_true p52
                                                  replace q52 := eq_true q52
                                                  obtain ⟨hy62_, hz62_⟩ := Kd.R_celln 0 HO175.out (x10_3 : Int) (of_decide_eq_true (by first | (with_reducible assumption) | assumption)) (of_decide_eq_true (by first | (with_reducible assumption) | assumption))
                                                  have HP62 := Kd.R_putg HO175.out (x10_3 : Int) (wrap64 ((y170.length : Int) - 1))
                                                  try go_wp2_with (first | ((with_reducible refine gate_store (t := 3) (p := 103) rfl ?_); refine store_event (t := 3) (p := 103) (v := ?vo_w63) (w1 := (wc_.setCell ⟨go52, (x10_3 : Int).toNat, none⟩ (.int .i64 (wrap64 ((y170.length : Int) - 1))))) ?hg ?ho ?hn ?hr ?_; (case ho => rfl); (case hg => rfl); (case hn => rfl); (case hr => first | (go_simp; done) | (go_simp; rfl)); intro w63 hw; have hg : wc_.grownBy w63 (some go52) := (by rw [hw]; exact HP62.2); have hp_ : Kd.R (Kd.int .i64) 3 w63 w.heap.size (fun k_ => (w.heap.size ≤ k_)) (.slice (some ⟨go52, 0, none⟩) y9173.length co59) y186 := (by rw [hw, Ny186.out]; exact HP62.1); clear HP62; have n0_ := Aside0.mk (blk_grown (g := gb148) (o := .cells #[.int .i64 a0_0, .slice A0_1 l0_1.length c0_1] 31 (0, 0)) (by (with_reducible repeat (first | refine blk_drewN ?_ _ | refine blk_drew ?_ | refine blk_alloc ?_ _)); exact BK148.out) hg (Kd.R_ne HO175.out BK148.out (by decide))); have n1_ := Aside0.mk (Kd.N_afterv (v := (.slice (some ⟨go52, 0, none⟩) y9173.length co59)) (v1 := (.slice (some ⟨go52, 0, none⟩) y9173.length co59)) (ok := (fun k_ => (w.heap.size ≤ k_) ∧ k_ ≠ gb148)) (by (with_reducible repeat (first | apply Kd.N_alloc | apply Kd.N_drewN | apply Kd.N_drew)); exact HO172.out) hg (.inl rfl)); have n2_ := Aside0.mk (hp_); have n3_ := Aside0.mk ((by rw [hw]; exact below_set (HB.out) GB52.out : Below w.heap.size w w63)); clear BK148; clear HO172; clear HO175; clear HB; have BK148 := n0_; have HO172 := n1_; have HO175 := n2_; have HB := n3_; clear n0_ n1_ n2_ n3_; clear hg hw hp_))
                                                  go_ret2
                                                  exact ⟨_, by first | rfl | (simp [errW_none, errW_some] <;> rfl) | (simp only [← hji46]; first | rfl | (simp [errW_none, errW_some] <;> rfl)) | (simp [*, errW_none, errW_some] <;> rfl), by first | exact Kd.S_nil _ _ _ _ _ | exact Kd.N_nil _ _ _ _ _ | exact Kd.V_nil _ _ _ _ _ | exact Kd.Q_nil _ _ _ _ _ | exact Kd.R_nil _ _ _ _ _, by repeat (first | (with_reducible first | exact HB.out | apply below_alloc | apply pw_below_drewN | apply below_drew1 | refine below_set ?_ GE148.out) | exact HB.out)⟩
                                                · rw [if_neg c53] at H
                                                  have c53b0 : decide (400 < (y170.length : Int)) = false := decide_eq_false c53
                                                  have c53b1 : decide (400 < y170.length) = false := decide_eq_false (by omega)
                                                  clear c53
                                                  have H' := Aside0.mk H
                                                  clear H
                                                  obtain ⟨Ao65, co65, eo65⟩ := Kd.R_slice HO_8.out
                                                  subst eo65
                                                  try go_wp2_with (first | ((with_reducible refine gate_builtin (b := .append) (xs := #[.tmp 83, .tmp 85]) rfl ?_); at_builtin; refine Kd.N_append (Kd.slice 3 (Kd.int .i64)) (w0 := w) w.heap.size rfl (.tmp 83) (.tmp 85) 67 25 (.slice none 0 0) 24 rfl Try.underlying67 info25 rfl (by decide) (by omega) (.slice (some ad159) x4_2.length co23) x4_2 t160 [.slice Ao65 t160.length co65] (fun k_ => (w.heap.size ≤ k_) ∧ some k_ ≠ (.slice Ao25 x5_2.length co25 : Value).ownBlock ∧ k_ ≠ gb148) (fun k_ => ((fun k_ => (w.heap.size ≤ k_) ∧ some k_ ≠ (.slice Ao25 x5_2.length co25 : Value).ownBlock ∧ k_ ≠ gb148)) k_ ∧ some k_ ≠ (.slice (some ad159) x4_2.length co23 : Value).ownBlock) rfl rfl ?aP (fun _ hk => hk) ?aF ?aO ?aB ?aS ?aL ?_; (case aP => exact (Kd.FK_slice_mk (Kd.R_reads' (Kd.R_mono (ok' := (fun k_ => ((fun k_ => (w.heap.size ≤ k_) ∧ some k_ ≠ (.slice Ao25 x5_2.length co25 : Value).ownBlock ∧ k_ ≠ gb148)) k_ ∧ some k_ ≠ (.slice (some ad159) x4_2.length co23 : Value).ownBlock)) (Kd.R_types (Kd.R_apart' (HO_8.out) (Kd.N_typed HO_4.out) (by decide)) BK148.out (by decide)) (fun k_ hk => ⟨⟨hk.1.1.1, ⟨hk.1.1.2, hk.2⟩⟩, hk.1.2⟩))).2.1 (Kd.R_F (Kd.R_mono (ok' := (fun k_ => ((fun k_ => (w.heap.size ≤ k_) ∧ some k_ ≠ (.slice Ao25 x5_2.length co25 : Value).ownBlock ∧ k_ ≠ gb148)) k_ ∧ some k_ ≠ (.slice (some ad159) x4_2.length co23 : Value).ownBlock)) (Kd.R_types (Kd.R_apart' (HO_8.out) (Kd.N_typed HO_4.out) (by decide)) BK148.out (by decide)) (fun k_ hk => ⟨⟨hk.1.1.1, ⟨hk.1.1.2, hk.2⟩⟩, hk.1.2⟩))))); (case aB => exact (by repeat (first | (with_reducible first | exact HB.out | apply below_alloc | apply pw_below_drewN | apply below_drew1 | refine below_set ?_ GE148.out) | exact HB.out))); (case aF => exact (fun k_ hk => ⟨(Nat.le_trans (below_size (by repeat (first | (with_reducible first | exact HB.out | apply below_alloc | apply pw_below_drewN | apply below_drew1 | refine below_set ?_ GE148.out) | exact HB.out))) hk), Kd.fresh' (Kd.R_lt (by (with_reducible repeat (first | apply Kd.R_alloc | apply Kd.R_drewN | apply Kd.R_drew)); exact HO_5.out)) k_ hk, Kd.freshB (g := gb148) (o := .cells #[.int .i64 a0_0, .slice A0_1 l0_1.length c0_1] 31 (0, 0)) (by (with_reducible repeat (first | refine blk_drewN ?_ _ | refine blk_drew ?_ | refine blk_alloc ?_ _)); exact BK148.out) k_ hk⟩)); (case aO => exact (by (with_reducible repeat (first | apply Kd.N_alloc | apply Kd.N_drewN | apply Kd.N_drew)); exact Kd.N_mono HO_4.out (fun _ hk => ⟨hk.1, ⟨hk.2.1, hk.2.2.2⟩⟩))); (case aS => exact (below_size (by repeat (first | (with_reducible first | exact HB.out | apply below_alloc | apply pw_below_drewN | apply below_drew1 | refine below_set ?_ GE148.out) | exact HB.out)))); (case aL => have := LMc44.out; omega); intro v171 w64 ho hb hg hat; rw [← Ny170.out] at ho; have n0_ := Aside0.mk (Kd.R_over' (by (with_reducible repeat (first | apply Kd.R_alloc | apply Kd.R_drewN | apply Kd.R_drew)); exact HO_5.out) (Kd.N_typed (by (with_reducible repeat (first | apply Kd.N_alloc | apply Kd.N_drewN | apply Kd.N_drew)); exact HO_4.out)) (by decide) hg); have n1_ := Aside0.mk (blk_grown (g := gb148) (o := .cells #[.int .i64 a0_0, .slice A0_1 l0_1.length c0_1] 31 (0, 0)) (by (with_reducible repeat (first | refine blk_drewN ?_ _ | refine blk_drew ?_ | refine blk_alloc ?_ _)); exact BK148.out) hg (Kd.N_ne HO_4.out BK148.out (by decide))); have n2_ := Aside0.mk (hb); have n3_ := Aside0.mk (ho); clear HO_5; clear BK148; clear HB; clear HO_4; clear HO_8; have HO_5 := n0_; have BK148 := n1_; have HB := n2_; have HO172 := n3_; clear n0_ n1_ n2_ n3_; clear ho hb hg hat) | ((with_reducible refine gate_builtin (b := .append) (xs := #[.tmp 87, .tmp 88]) rfl ?_); at_builtin; refine Kd.R_append (Kd.int .i64) (w0 := w) w.heap.size rfl (.tmp 87) (.tmp 88) 25 3 (.int .i64 0) 8 rfl Try.underlying25 info3 rfl (by decide) (by omega) (.slice Ao25 x5_2.length co25) x5_2 0 [.int .i64 0] (fun k_ => (w.heap.size ≤ k_)) (fun _ => False) rfl rfl ?aP (fun _ hk => hk.elim) ?aF ?aO ?aB ?aS ?aL ?_; (case aP => exact rfl); (case aB => exact (by repeat (first | (with_reducible first | exact HB.out | apply below_alloc | apply pw_below_drewN | apply below_drew1 | refine below_set ?_ GE148.out) | exact HB.out))); (case aF => exact (fun k_ hk => (Nat.le_trans (below_size (by repeat (first | (with_reducible first | exact HB.out | apply below_alloc | apply pw_below_drewN | apply below_drew1 | refine below_set ?_ GE148.out) | exact HB.out))) hk))); (case aO => exact (by (with_reducible repeat (first | apply Kd.R_alloc | apply Kd.R_drewN | apply Kd.R_drew)); exact Kd.R_mono HO_5.out (fun _ hk => hk.1))); (case aS => exact (below_size (by repeat (first | (with_reducible first | exact HB.out | apply below_alloc | apply pw_below_drewN | apply below_drew1 | refine below_set ?_ GE148.out) | exact HB.out)))); (case aL => have := LMc45.out; omega); intro v174 w66 ho hb hg hat; rw [← Ny173.out] at ho; have n0_ := Aside0.mk (blk_grown (g := gb148) (o := .cells #[.int .i64 a0_0, .slice A0_1 l0_1.length c0_1] 31 (0, 0)) (by (with_reducible repeat (first | refine blk_drewN ?_ _ | refine blk_drew ?_ | refine blk_alloc ?_ _)); exact BK148.out) hg (Kd.R_ne HO_5.out BK148.out (by decide))); have n1_ := Aside0.mk (Kd.N_afterv (ok := (fun k_ => (w.heap.size ≤ k_) ∧ k_ ≠ gb148)) (by (with_reducible repeat (first | apply Kd.N_alloc | apply Kd.N_drewN | apply Kd.N_drew)); exact Kd.N_mono HO172.out (fun _ hk => ⟨⟨hk.1, hk.2.2⟩, hk.2.1⟩)) hg hat); have n2_ := Aside0.mk (hb); have n3_ := Aside0.mk (ho); clear BK148; clear HO172; clear HB; clear HO_5; have BK148 := n0_; have HO172 := n1_; have HB := n2_; have HO175 := n3_; clear n0_ n1_ n2_ n3_; clear ho hb hg hat))
                                                  have n0_ := Aside0.mk (Kd.N_drew HO172.out)
                                                  have n1_ := Aside0.mk (Kd.R_drew HO175.out)
                                                  have n2_ := Aside0.mk (blk_drew BK148.out)
                                                  have n3_ := Aside0.mk (below_drew1 HB.out)
                                                  clear HO172
                                                  clear HO175
                                                  clear BK148
                                                  clear HB
                                                  have HO172 := n0_
                                                  have HO175 := n1_
                                                  have BK148 := n2_
                                                  have HB := n3_
                                                  clear n0_ n1_ n2_ n3_
                                                  obtain ⟨Ao69, co69, eo69⟩ := Kd.R_slice HO175.out
                                                  (first | subst eo69 | (injection eo69 with f1_ f2_ f3_; have f4_ := f1_.symm; have f5_ := f3_.symm; clear f1_ f2_ f3_; subst f4_; subst f5_))
                                                  have q68 : ((ji46) : Int) ≤ ((y173.length : Int) : Int) := of_decide_eq_true (by first | (with_reducible assumption) | assumption)
                                                  obtain ⟨i068, hi068, _, hsz68, _⟩ := info_parts info3
                                                  have hroom68 : y173.length ≤ co69 := (Kd.R_reads' HO175.out).2.1
                                                  have hC68 : Kd.F (Kd.int .i64) _ _ Ao69 y173.length y173 := (Kd.V_at (base := w.heap.size) (Kd.R_V (Kd.R_types (Kd.R_apart' (HO175.out) (Kd.N_typed HO172.out) (by decide)) BK148.out (by decide)))).2.2
                                                  have q068 : (0 : Int) ≤ ((ji46) : Int) := of_decide_eq_true (by first | (with_reducible assumption) | assumption)
                                                  have hcut68 := cut_from (P := Try.prog) 25 3 .i64 Try.underlying25 hi068 1 hsz68 Ao69 y173.length co69 (ji46) q068 q68
                                                  have hr68 := Kd.F_cut (m := ((ji46) : Int).toNat) (c := co69) hC68 (by omega) hroom68
                                                  obtain ⟨A68, hA68⟩ : ∃ A1, A1 = (if co69 = ((ji46) : Int).toNat then Ao69 else (Ao69 : Option Addr).map (·.add (((ji46) : Int).toNat * 1))) := ⟨_, rfl⟩
                                                  obtain ⟨c68, hc68⟩ : ∃ c1, c1 = co69 - ((ji46) : Int).toNat := ⟨_, rfl⟩
                                                  have hy68 : y176.length = y173.length - ((ji46) : Int).toNat := (by rw [Ny176.out, List.length_drop] <;> omega)
                                                  rw [show (y173).drop ((ji46) : Int).toNat = y176 from Ny176.out.symm] at hr68
                                                  replace hr68 : Kd.F (Kd.int .i64) _ _ A68 y176.length y176 := (by rw [hA68]; exact hr68)
                                                  rw [← hy68, ← hA68, ← hc68] at hcut68
                                                  have HO180 := Aside0.mk (show Kd.V (Kd.int .i64) 3 _ w.heap.size _ (.slice A68 y176.length c68) y176 from Kd.V_mk (by rw [hy68, hc68]; exact Nat.sub_le_sub_right hroom68 _) hr68)
                                                  have HC180 := Aside0.mk (show y176.length ≤ c68 from by rw [hy68, hc68]; exact Nat.sub_le_sub_right hroom68 _)
                                                  clear hr68 hC68 hroom68 hi068 hsz68 hc68
                                                  have KY68 := Aside0.mk hy68
                                                  have KA68 := Aside0.mk hA68
                                                  clear hy68 hA68
                                                  replace q68 := eq_true q68
                                                  have q70 : (x10_3 : Int) ≤ ((y173.length : Int) : Int) := of_decide_eq_true (by first | (with_reducible assumption) | assumption)
                                                  obtain ⟨i070, hi070, _, hsz70, _⟩ := info_parts info3
                                                  have hroom70 : y173.length ≤ co69 := (Kd.R_reads' HO175.out).2.1
                                                  have hC70 : Kd.F (Kd.int .i64) _ _ Ao69 y173.length y173 := (Kd.V_at (base := w.heap.size) (Kd.R_V (Kd.R_types (Kd.R_apart' (HO175.out) (Kd.N_typed HO172.out) (by decide)) BK148.out (by decide)))).2.2
                                                  have q070 : (0 : Int) ≤ (x10_3 : Int) := of_decide_eq_true (by first | (with_reducible assumption) | assumption)
                                                  have hcut70 := cut_from (P := Try.prog) 25 3 .i64 Try.underlying25 hi070 1 hsz70 Ao69 y173.length co69 x10_3 q070 q70
                                                  have hr70 := Kd.F_cut (m := (x10_3 : Int).toNat) (c := co69) hC70 (by omega) hroom70
                                                  obtain ⟨A70, hA70⟩ : ∃ A1, A1 = (if co69 = (x10_3 : Int).toNat then Ao69 else (Ao69 : Option Addr).map (·.add ((x10_3 : Int).toNat * 1))) := ⟨_, rfl⟩
                                                  obtain ⟨c70, hc70⟩ : ∃ c1, c1 = co69 - (x10_3 : Int).toNat := ⟨_, rfl⟩
                                                  have hy70 : y181.length = y173.length - (x10_3 : Int).toNat := (by rw [Ny181.out, List.length_drop] <;> omega)
                                                  rw [show (y173).drop (x10_3 : Int).toNat = y181 from Ny181.out.symm] at hr70
                                                  replace hr70 : Kd.F (Kd.int .i64) _ _ A70 y181.length y181 := (by rw [hA70]; exact hr70)
                                                  rw [← hy70, ← hA70, ← hc70] at hcut70
                                                  have HO185 := Aside0.mk (show Kd.V (Kd.int .i64) 3 _ w.heap.size _ (.slice A70 y181.length c70) y181 from Kd.V_mk (by rw [hy70, hc70]; exact Nat.sub_le_sub_right hroom70 _) hr70)
                                                  have HC185 := Aside0.mk (show y181.length ≤ c70 from by rw [hy70, hc70]; exact Nat.sub_le_sub_right hroom70 _)
                                                  clear hr70 hC70 hroom70 hi070 hsz70 hc70
                                                  have KY70 := Aside0.mk hy70
                                                  have KA70 := Aside0.mk hA70
                                                  clear hy70 hA70
                                                  replace q70 := eq_true q70
                                                  refine start_ (n := 8) (S := fun w' => True) (ds := []) #[false, false, false, false, false, false, false, false] (by kernel_rfl) rfl rfl trivial (fun hHeld => ?_); refine with_tabW spec_SlideClass.tab22 spec_SlideClass.bits22 (fun HT_ HW_ => ?_)
                                                  generalize w66.drew = w67 at HO172 HO175 BK148 HB HO180 HO185 hHeld ⊢
                                                  refine pure_ (i := 0) (N := some 90) (v := ?_) (a' := ?_) #[true, false, false, false, false, false, false, false] rfl rfl (any_of HT_.out (by kernel_rfl)) (fun _ _ _ h => h) (Or.inl ⟨by rfl, ?_⟩) ?_ ?_
                                                  rotate_left
                                                  · intro w'
                                                    go_simp
                                                    with_reducible rfl
                                                  rotate_left
                                                  · simp only [Act.put, List.setIfInBounds_toArray, List.set_cons_zero, List.set_cons_succ, i64_w, i32_w]
                                                    rfl
                                                  refine pure_ (i := 1) (N := some 91) (v := ?_) (a' := ?_) #[true, true, false, false, false, false, false, false] rfl rfl (any_of HT_.out (by kernel_rfl)) (fun _ _ _ h => h) (Or.inl ⟨by rfl, ?_⟩) ?_ ?_
                                                  rotate_left
                                                  · intro w'
                                                    go_simp
                                                    with_reducible rfl
                                                  rotate_left
                                                  · simp only [Act.put, List.setIfInBounds_toArray, List.set_cons_zero, List.set_cons_succ, i64_w, i32_w]
                                                    rfl
                                                  refine pure_ (i := 2) (N := some 92) (v := ?_) (a' := ?_) #[true, true, true, false, false, false, false, false] rfl rfl (any_of HT_.out (by kernel_rfl)) (fun _ _ _ h => h) (Or.inl ⟨by rfl, ?_⟩) ?_ ?_
                                                  rotate_left
                                                  · intro w'
                                                    go_simp
                                                    with_reducible rfl
                                                  rotate_left
                                                  · simp only [Act.put, List.setIfInBounds_toArray, List.set_cons_zero, List.set_cons_succ, i64_w, i32_w]
                                                    rfl
                                                  refine pure_ (i := 3) (N := some 93) (v := ?_) (a' := ?_) #[true, true, true, true, false, false, false, false] rfl rfl (any_of HT_.out (by kernel_rfl)) (fun _ _ _ h => h) (Or.inl ⟨by rfl, ?_⟩) ?_ ?_
                                                  rotate_left
                                                  · intro w'
                                                    go_simp
                                                    with_reducible rfl
                                                  rotate_left
                                                  · simp only [Act.put, List.setIfInBounds_toArray, List.set_cons_zero, List.set_cons_succ, i64_w, i32_w]
                                                    rfl
                                                  refine pure_ (i := 4) (N := some 94) (v := ?_) (a' := ?_) #[true, true, true, true, true, false, false, false] rfl rfl (any_of HT_.out (by kernel_rfl)) (fun _ _ _ h => h) (Or.inl ⟨by rfl, ?_⟩) ?_ ?_
                                                  rotate_left
                                                  · intro w'
                                                    go_simp
                                                    with_reducible rfl
                                                  rotate_left
                                                  · simp only [Act.put, List.setIfInBounds_toArray, List.set_cons_zero, List.set_cons_succ, i64_w, i32_w]
                                                    rfl
                                                  refine pure_ (i := 5) (N := some 95) (v := ?_) (a' := ?_) #[true, true, true, true, true, true, false, false] rfl rfl (any_of HT_.out (by kernel_rfl)) (fun _ _ _ h => h) (Or.inl ⟨by rfl, ?_⟩) ?_ ?_
                                                  rotate_left
                                                  · intro w'
                                                    go_simp
                                                    with_reducible rfl
                                                  rotate_left
                                                  · simp only [Act.put, List.setIfInBounds_toArray, List.set_cons_zero, List.set_cons_succ, i64_w, i32_w]
                                                    rfl
                                                  refine pure_ (i := 6) (N := some 96) (v := ?_) (a' := ?_) #[true, true, true, true, true, true, true, false] rfl rfl (any_of HT_.out (by kernel_rfl)) (fun _ _ _ h => h) (Or.inl ⟨by rfl, ?_⟩) ?_ ?_
                                                  rotate_left
                                                  · intro w'
                                                    go_simp
                                                    with_reducible rfl
                                                  rotate_left
                                                  · simp only [Act.put, List.setIfInBounds_toArray, List.set_cons_zero, List.set_cons_succ, i64_w, i32_w]
                                                    rfl
                                                  refine one_ (i := 7) (N := some 97) #[true, true, true, true, true, true, true, true] rfl rfl (one_of HT_.out (by kernel_rfl)) (by decide) (fun K hK => ?_)
                                                  have hx0_ : (0 : Int) ≤ x10_3 := of_decide_eq_true (by first | (with_reducible assumption) | assumption)
                                                  have hx1_ : x10_3 < (y173.length : Int) := of_decide_eq_true (by first | (with_reducible assumption) | assumption)
                                                  have hx2_ := Kd.F_max (Kd.R_F HO175.out)
                                                  have hj_ : (ji46 : Int).toNat = (x10_3 : Int).toNat + 1 := (by rw [← hji46]; unfold wrap64; omega)
                                                  obtain ⟨wc_, hrun_, hR_, hB_, hg_⟩ := spec_SlideClass.copy_run (P := Try.prog) w.heap.size 25 25 3 Try.underlying25 (by kernel_rfl) Ao69 co69 (x10_3 : Int).toNat y173 _ (by omega) HO175.out HB.out (below_size HB.out) c68 c70
                                                  rw [← hj_, ← KA68.out, ← KY68.out, ← KA70.out, ← KY70.out] at hrun_
                                                  refine spec_SlideClass.step rfl (.tmp 93) (.tmp 96) 25 25 rfl _ _ rfl rfl (hrun_ _) ?_
                                                  have n0_ := Aside0.mk (blk_grown (g := gb148) (o := .cells #[.int .i64 a0_0, .slice A0_1 l0_1.length c0_1] 31 (0, 0)) BK148.out hg_ (Kd.R_ne HO175.out BK148.out (by decide)))
                                                  have n1_ := Aside0.mk (Kd.N_afterv (v := (.slice Ao69 y173.length co69)) (v1 := (.slice Ao69 y173.length co69)) (ok := (fun k_ => (w.heap.size ≤ k_) ∧ k_ ≠ gb148)) HO172.out hg_ (.inl rfl))
                                                  obtain ⟨y9173, hy9173⟩ : ∃ y_ : List Int, y_ = spec_SlideClass.shf y173 (x10_3 : Int).toNat := ⟨_, rfl⟩
                                                  rw [← hy9173] at hR_
                                                  have hL_ : y9173.length = y173.length := (by rw [hy9173]; exact spec_SlideClass.shf_length _ _ (by omega))
                                                  have n2_ := Aside0.mk (show y186 = y9173.set _ _ from by rw [hy9173]; exact Ny186.out)
                                                  have n3_ := Aside0.mk hB_
                                                  rw [← hL_] at n1_ hR_ c51b0
                                                  have n4_ := Aside0.mk hR_
                                                  clear BK148
                                                  clear HO172
                                                  clear HO175
                                                  clear HB
                                                  clear HO180 HO185 HC180 HC185 Ny186 hHeld hrun_ hR_ hB_ hg_ hx0_ hx1_ hx2_ hj_ hy9173
                                                  have BK148 := n0_
                                                  have HO172 := n1_
                                                  have HO175 := n4_
                                                  have HB := n3_
                                                  have Ny186 := n2_
                                                  clear n0_ n1_ n2_ n3_ n4_
                                                  refine hK.out _ _ trivial (fun hHeld => ?_)
                                                  clear hK K
                                                  refine norm_ (a' := ?_) ?_ ?_
                                                  rotate_left
                                                  · show Act.put _ (some 97) _ = _
                                                    simp only [Act.put, List.setIfInBounds_toArray, List.set_cons_zero, List.set_cons_succ, i64_w, i32_w]
                                                    rfl
                                                  rw [← hL_]
                                                  have KL_ := Aside0.mk hL_
                                                  clear hL_
                                                  refine done_ (done_of HT_.out (by kernel_rfl)) ?_
                                                  obtain ⟨Ao71, co71, eo71⟩ := Kd.N_slice HO172.out
                                                  subst eo71
                                                  have p52 : 0 ≤ (x10_3 : Int) := of_decide_eq_true (by first | (with_reducible assumption) | assumption)
                                                  have q52 : (x10_3 : Int) < ((y9173.length : Int) : Int) := of_decide_eq_true (by first | (with_reducible assumption) | assumption)
                                                  obtain ⟨go52, co52, eo52, gb52, gl52, cl52, HG52⟩ := Kd.R_form HO175.out (by have h1_ : x10_3 < (y9173.length : Int) := of_decide_eq_true (by first | (with_reducible assumption) | assumption); have h2_ : (0 : Int) ≤ x10_3 := of_decide_eq_true (by first | (with_reducible assumption) | assumption); omega)
                                                  (first | cases eo52 | (injection eo52 with ea_ en_ ec_; (first | subst ea_ | (injection ea_ with ea_; subst ea_)); subst ec_; clear en_))
                                                  have GB52 := Aside0.mk gb52
                                                  have GG52 := Aside0.mk HG52
                                                  clear gb52 gl52 HG52
                                                  obtain ⟨hx52_0, hf52_0⟩ := Kd.R_celln 0 HO175.out (x10_3 : Int) p52 q52
                                                  replace p52 := eq_true p52
                                                  replace q52 := eq_true q52
                                                  obtain ⟨hy72_, hz72_⟩ := Kd.R_celln 0 HO175.out (x10_3 : Int) (of_decide_eq_true (by first | (with_reducible assumption) | assumption)) (of_decide_eq_true (by first | (with_reducible assumption) | assumption))
                                                  have HP72 := Kd.R_putg HO175.out (x10_3 : Int) (wrap64 ((y170.length : Int) - 1))
                                                  try go_wp2_with (first | ((with_reducible refine gate_store (t := 3) (p := 103) rfl ?_); refine store_event (t := 3) (p := 103) (v := ?vo_w73) (w1 := (wc_.setCell ⟨go52, (x10_3 : Int).toNat, none⟩ (.int .i64 (wrap64 ((y170.length : Int) - 1))))) ?hg ?ho ?hn ?hr ?_; (case ho => rfl); (case hg => rfl); (case hn => rfl); (case hr => first | (go_simp; done) | (go_simp; rfl)); intro w73 hw; have hg : wc_.grownBy w73 (some go52) := (by rw [hw]; exact HP72.2); have hp_ : Kd.R (Kd.int .i64) 3 w73 w.heap.size (fun k_ => (w.heap.size ≤ k_)) (.slice (some ⟨go52, 0, none⟩) y9173.length co69) y186 := (by rw [hw, Ny186.out]; exact HP72.1); clear HP72; have n0_ := Aside0.mk (blk_grown (g := gb148) (o := .cells #[.int .i64 a0_0, .slice A0_1 l0_1.length c0_1] 31 (0, 0)) (by (with_reducible repeat (first | refine blk_drewN ?_ _ | refine blk_drew ?_ | refine blk_alloc ?_ _)); exact BK148.out) hg (Kd.R_ne HO175.out BK148.out (by decide))); have n1_ := Aside0.mk (Kd.N_afterv (v := (.slice (some ⟨go52, 0, none⟩) y9173.length co69)) (v1 := (.slice (some ⟨go52, 0, none⟩) y9173.length co69)) (ok := (fun k_ => (w.heap.size ≤ k_) ∧ k_ ≠ gb148)) (by (with_reducible repeat (first | apply Kd.N_alloc | apply Kd.N_drewN | apply Kd.N_drew)); exact HO172.out) hg (.inl rfl)); have n2_ := Aside0.mk (hp_); have n3_ := Aside0.mk ((by rw [hw]; exact below_set (HB.out) GB52.out : Below w.heap.size w w73)); clear BK148; clear HO172; clear HO175; clear HB; have BK148 := n0_; have HO172 := n1_; have HO175 := n2_; have HB := n3_; clear n0_ n1_ n2_ n3_; clear hg hw hp_))
                                                  go_roundg kj35
                                                  case measure => have := HK1.out; have := HK2.out; have := HK3.out; have := HJ35.out; omega
                                                  case rel => exact ⟨(y170), (y186), (wrap64 (x33_2 + 1)), (by first | rfl | (simp; done) | (simp [*]; done)), H', ⟨by have := HK1.out; have := HK2.out; have := HK3.out; have := HJ35.out; omega⟩, ⟨by (with_reducible repeat (first | apply Kd.N_alloc | apply Kd.N_drewN | apply Kd.N_drew)); exact Kd.N_mono HO172.out (fun _ hk => ⟨hk.1.1, ⟨hk.2, hk.1.2⟩⟩)⟩, ⟨by (with_reducible repeat (first | apply Kd.R_alloc | apply Kd.R_drewN | apply Kd.R_drew)); exact HO175.out⟩, ⟨by (with_reducible repeat (first | refine blk_drewN ?_ _ | refine blk_drew ?_ | refine blk_alloc ?_ _)); exact BK148.out⟩, ⟨by repeat (first | (with_reducible first | exact HB.out | apply below_alloc | apply pw_below_drewN | apply below_drew1 | refine below_set ?_ GE148.out) | exact HB.out)⟩⟩
                                              · rw [if_neg c51] at H
                                                exact absurd H (by simp)
                                            · rw [if_neg c50] at H
                                              exact absurd H (by simp)
                                          · rw [if_neg c49] at H
                                            exact absurd H (by simp)
                                        · rw [if_neg c48] at H
                                          exact absurd H (by simp)
                                      · rw [if_neg c47] at H
                                        exact absurd H (by simp)
                                    · rw [if_neg c45] at H
                                      exact absurd H (by simp)
                                  · rw [if_neg c44] at H
                                    exact absurd H (by simp)
                    · replace c22 := Bool.eq_false_iff.mpr c22
                      subst c22
                      have H1 : (spec_SlideClass.l1 k2 x4_2 x5_2 x6_1 (l0_1.length : Int) (wrap64 (x33_2 + 1)) a0_0 l0_1) = some (r1, r2) := by rw [if_neg (show ¬ (false = true) by decide)] at H; exact H
                      clear H
                      have H := H1
                      clear H1
                      have H' := Aside0.mk H
                      clear H
                      obtain ⟨Ao74, co74, eo74⟩ := Kd.N_slice HO_4.out
                      subst eo74
                      have p159 : 0 ≤ (x6_1 : Int) := of_decide_eq_true (by first | (with_reducible assumption) | assumption)
                      have q159 : x6_1 < (x4_2.length : Int) := of_decide_eq_true (by first | (with_reducible assumption) | assumption)
                      obtain ⟨ad159, A159_0, c159_0, e159, hx159_0, hl159_0, hi159_0⟩ := at_L1 (Kd.N_reads' HO_4.out).2.2 x6_1 p159 q159
                      cases e159
                      obtain ⟨ce159, hce159, hMe159, hcc159⟩ := Kd.N_get HO_4.out [] x6_1 p159 (by first | exact q159 | exact of_decide_eq_true (by first | (with_reducible assumption) | assumption) | (have e_ := (Kd.N_reads' HO_4.out).1; omega))
                      obtain ⟨ua159_0, uc159_0, rfl, ul159_0, ge159_0⟩ := Kd.FK_slice_open hMe159
                      have hv159_0 := hcc159 0 _ rfl
                      rw [Nat.add_zero, show ((Kd.slice 3 (Kd.int .i64))).sz = 1 from rfl, Nat.mul_one] at hv159_0
                      replace hv159_0 := Option.some.inj (hv159_0.symm.trans hx159_0)
                      injection hv159_0 with hva_ hvn_ hvc_
                      rw [hva_] at ge159_0
                      rw [hvc_] at ul159_0
                      have HL159_0 := Aside0.mk (show Kd.V (Kd.int .i64) 3 _ w.heap.size _ _ (rd_L1 x4_2 x6_1) from Kd.V_mk ul159_0 ge159_0)
                      clear hva_ hvn_ hvc_ ge159_0 ul159_0
                      clear hcc159 hce159
                      have HR159_0 := Aside0.mk hi159_0
                      have HC159_0 := Aside0.mk hl159_0
                      clear hi159_0 hl159_0
                      replace p159 := eq_true p159
                      replace q159 := eq_true q159
                      go_wp2_with (first | ((with_reducible refine gate_callee (f := 76) rfl ?_); refine goesL_ (some 42) rfl rfl Try.func76 (by kernel_rfl) rfl #[.slice A159_0 (rd_L1 x4_2 x6_1).length c159_0, .int .i64 x33_2] rfl (by (try simp only [List.map_toArray, List.map_cons, List.map_nil]); first | done | rfl | (simp only [List.length_drop, List.length_take]; rfl)) ?_; (with_reducible refine (spec_lsSlide.calls _ _ (rd_L1 x4_2 x6_1) x33_2 t160 false _ ?side1 ?side2 A21.out).mono ?_); (case side1 => repeat (first | exact (by repeat (first | (with_reducible exact HR159_0.out) | (with_reducible refine Kd.C_alloc ?_ _) | (with_reducible refine Kd.C_drewN ?_ _) | (with_reducible refine Kd.C_drew ?_) | exact HR159_0.out)) | (with_reducible refine Kd.C_alloc ?_ _) | (with_reducible refine Kd.C_drewN ?_ _) | (with_reducible refine Kd.C_drew ?_))); (case side2 => exact HC159_0.out); rintro e w75 ⟨v162, rfl, ho0, hb⟩; refine ⟨_, rfl, ?_⟩; have n0_ := Aside0.mk (Kd.N_elder' (by (with_reducible repeat (first | apply Kd.N_alloc | apply Kd.N_drewN | apply Kd.N_drew)); exact HO_4.out) (Kd.R_base ho0) hb); have n1_ := Aside0.mk (Kd.R_elder' (by (with_reducible repeat (first | apply Kd.R_alloc | apply Kd.R_drewN | apply Kd.R_drew)); exact HO_5.out) (Kd.R_base ho0) hb); have n2_ := Aside0.mk (Kd.V_elder' (by (with_reducible repeat (first | apply Kd.V_alloc | apply Kd.V_drewN | apply Kd.V_drew)); exact HL159_0.out) (Kd.R_base ho0) hb); have n3_ := Aside0.mk (Kd.R_lower (Kd.R_new' (Kd.R_newM (M := fun k_ => (w.heap.size ≤ k_)) ho0 (below_size (by repeat (first | (with_reducible first | exact HB.out | apply below_alloc | apply pw_below_drewN | apply below_drew1 | refine below_set ?_ GE148.out) | exact HB.out))) (fun k_ h_ => h_)) (Kd.R_lt (by (with_reducible repeat (first | apply Kd.R_alloc | apply Kd.R_drewN | apply Kd.R_drew)); exact HO_5.out))) (below_size (by repeat (first | (with_reducible first | exact HB.out | apply below_alloc | apply pw_below_drewN | apply below_drew1 | refine below_set ?_ GE148.out) | exact HB.out)))); have n4_ := Aside0.mk (blk_below (g := gb148) (o := .cells #[.int .i64 a0_0, .slice A0_1 l0_1.length c0_1] 31 (0, 0)) (by (with_reducible repeat (first | refine blk_drewN ?_ _ | refine blk_drew ?_ | refine blk_alloc ?_ _)); exact BK148.out) hb); have n5_ := Aside0.mk (Kd.C_below (by repeat (first | (with_reducible exact HR159_0.out) | (with_reducible refine Kd.C_alloc ?_ _) | (with_reducible refine Kd.C_drewN ?_ _) | (with_reducible refine Kd.C_drew ?_) | exact HR159_0.out)) hb); have n6_ := Aside0.mk (below_step (by repeat (first | (with_reducible first | exact HB.out | apply below_alloc | apply pw_below_drewN | apply below_drew1 | refine below_set ?_ GE148.out) | exact HB.out)) hb); clear HO_4; clear HO_5; clear HL159_0; clear BK148; clear HR159_0; clear HB; have HO_4 := n0_; have HO_5 := n1_; have HL159_0 := n2_; have HO163 := n3_; have BK148 := n4_; have HR159_0 := n5_; have HB := n6_; clear n0_ n1_ n2_ n3_ n4_ n5_ n6_; (try clear hb); (try clear hb2); (try clear hk); (try clear hi); (try clear ho0)))
                      go_roundg k2
                      case measure => have := HK1.out; have := HK2.out; omega
                      case rel => exact ⟨(x4_2), (x5_2), (wrap64 (x33_2 + 1)), (by first | rfl | (simp; done) | (simp [*]; done)), H', ⟨by have := HK1.out; have := HK2.out; omega⟩, ⟨by (with_reducible repeat (first | apply Kd.N_alloc | apply Kd.N_drewN | apply Kd.N_drew)); exact Kd.N_mono HO_4.out (fun _ hk => ⟨hk.1.1, ⟨hk.1.2.1, hk.1.2.2⟩⟩)⟩, ⟨by (with_reducible repeat (first | apply Kd.R_alloc | apply Kd.R_drewN | apply Kd.R_drew)); exact Kd.R_mono HO_5.out (fun _ hk => hk.1)⟩, ⟨by (with_reducible repeat (first | refine blk_drewN ?_ _ | refine blk_drew ?_ | refine blk_alloc ?_ _)); exact BK148.out⟩, ⟨by repeat (first | (with_reducible first | exact HB.out | apply below_alloc | apply pw_below_drewN | apply below_drew1 | refine below_set ?_ GE148.out) | exact HB.out)⟩⟩
                  · rw [if_neg c20] at H
                    exact absurd H (by simp)
                · rw [if_neg c19] at H
                  exact absurd H (by simp)
              · rw [if_neg c18] at H
                have c18b0 : decide (x33_2 < (l0_1.length : Int)) = false := decide_eq_false c18
                clear c18
                have H' := Aside0.mk H
                clear H
                go_wp2
                go_roundg k2
                case measure => have := HK1.out; have := HK2.out; omega
                case rel => exact ⟨(x4_2), (x5_2), (wrap64 (x6_1 + 1)), (by first | rfl | (simp; done) | (simp [*]; done)), H', ⟨by have := HK1.out; have := HK2.out; omega⟩, ⟨by (with_reducible repeat (first | apply Kd.N_alloc | apply Kd.N_drewN | apply Kd.N_drew)); exact HO_4.out⟩, ⟨by (with_reducible repeat (first | apply Kd.R_alloc | apply Kd.R_drewN | apply Kd.R_drew)); exact HO_5.out⟩, ⟨by (with_reducible repeat (first | refine blk_drewN ?_ _ | refine blk_drew ?_ | refine blk_alloc ?_ _)); exact BK148.out⟩, ⟨by repeat (first | (with_reducible first | exact HB.out | apply below_alloc | apply pw_below_drewN | apply below_drew1 | refine below_set ?_ GE148.out) | exact HB.out)⟩⟩
        · rw [if_neg c15] at H
          have c15b0 : decide (x6_1 < (x4_1.length : Int)) = false := decide_eq_false c15
          clear c15
          have H' := Aside0.mk H
          clear H
          obtain ⟨Ao76, co76, eo76⟩ := Kd.N_slice HO_4.out
          subst eo76
          obtain ⟨Ao77, co77, eo77⟩ := Kd.R_slice HO_5.out
          subst eo77
          go_wp2
          go_loopg [13, 110] k1 (fun kq v13 v110 w' => ∃ (x13_2 : List (S31)) (x110_2 : Int), v110 = .int .i64 x110_2 ∧ Aside0 (spec_SlideClass.l3 kq x4_1 x13_2 x5_1 (x5_1.length : Int) x110_2 a0_0 l0_1 = some (r1, r2)) ∧ Aside0 (kq ≤ k1) ∧ Aside0 (Kd.N (Kd.slice 3 (Kd.int .i64)) 25 w' w.heap.size (fun k_ => (w.heap.size ≤ k_) ∧ some k_ ≠ (v13 : Value).ownBlock ∧ some k_ ≠ ((.slice Ao77 x5_1.length co77) : Value).ownBlock ∧ k_ ≠ gb148) (.slice Ao76 x4_1.length co76) x4_1) ∧ Aside0 (Kd.N k31 31 w' w.heap.size (fun k_ => (w.heap.size ≤ k_) ∧ some k_ ≠ ((.slice Ao76 x4_1.length co76) : Value).ownBlock ∧ some k_ ≠ ((.slice Ao77 x5_1.length co77) : Value).ownBlock ∧ k_ ≠ gb148) v13 x13_2) ∧ Aside0 (Kd.R (Kd.int .i64) 3 w' w.heap.size (fun k_ => (w.heap.size ≤ k_)) (.slice Ao77 x5_1.length co77) x5_1) ∧ Aside0 (w'.heap[gb148]? = some (.cells #[.int .i64 a0_0, (.slice A0_1 l0_1.length c0_1)] 31 (0, 0))) ∧ Aside0 (Below w.heap.size w w'))
          case atStart => exact ⟨(([] : List (S31))), (0), (by first | rfl | (simp; done) | (simp [*]; done)), H', ⟨Nat.le_refl _⟩, ⟨by (with_reducible repeat (first | apply Kd.N_alloc | apply Kd.N_drewN | apply Kd.N_drew)); exact Kd.N_mono HO_4.out (fun _ hk => ⟨hk.1, ⟨(by simp [Value.ownBlock]), ⟨hk.2.1, hk.2.2⟩⟩⟩)⟩, ⟨by first | exact Kd.S_nil _ _ _ _ _ | exact Kd.N_nil _ _ _ _ _ | exact Kd.V_nil _ _ _ _ _ | exact Kd.Q_nil _ _ _ _ _ | exact Kd.R_nil _ _ _ _ _⟩, ⟨by (with_reducible repeat (first | apply Kd.R_alloc | apply Kd.R_drewN | apply Kd.R_drew)); exact HO_5.out⟩, ⟨by (with_reducible repeat (first | refine blk_drewN ?_ _ | refine blk_drew ?_ | refine blk_alloc ?_ _)); exact BK148.out⟩, ⟨by repeat (first | (with_reducible first | exact HB.out | apply below_alloc | apply pw_below_drewN | apply below_drew1 | refine below_set ?_ GE148.out) | exact HB.out)⟩⟩
          case round =>
            clear H'
            try clear c1
            try clear p1
            try clear q1
            try clear hx1
            try clear c2
            try clear p2
            try clear c3
            try clear c4
            try clear c5
            try clear p5
            try clear q5
            try clear hx5
            try clear hf5
            try clear c6
            try clear p6
            try clear q6
            try clear c7
            try clear q7
            try clear c15
            try clear c15b0
            try clear p15
            try clear q15
            try clear hx15
            try clear c16
            try clear p16
            try clear q16
            try clear hx16
            try clear c18
            try clear c18b0
            try clear c19
            try clear c19b0
            try clear c20
            try clear c20b0
            try clear c22
            try clear c26
            try clear c26b0
            try clear c28
            try clear c28b0
            try clear c29
            try clear c29b0
            try clear c30
            try clear c30b0
            try clear c31
            try clear c31b0
            try clear c33
            try clear c37
            try clear c37b0
            try clear c38
            try clear c38b0
            try clear c39
            try clear c39b0
            try clear c40
            try clear c40b0
            try clear c43
            try clear c44
            try clear c45
            try clear c47
            try clear c47b0
            try clear c47b1
            try clear c48
            try clear c48b0
            try clear c48b1
            try clear c49
            try clear c49b0
            try clear c49b1
            try clear c50
            try clear c50b0
            try clear c50b1
            try clear c51
            try clear c51b0
            try clear p52
            try clear q52
            try clear hx52
            try clear hf52
            try clear c53
            try clear c53b0
            try clear c53b1
            try clear c58
            try clear q58
            try clear c60
            try clear q60
            try clear p64
            try clear c68
            try clear q68
            try clear c70
            try clear q70
            try clear c76
            try clear hcz17_0
            try clear hcz17_1
            try clear hcz6_0
            try clear hcz6_1
            try clear hcz8_0
            try clear hcz8_1
            try clear hfz17_0
            try clear hfz17_1
            try clear hfz6_0
            try clear hfz6_1
            try clear hfz8_0
            try clear hfz8_1
            try clear hx159_0
            try clear hx164_0
            try clear hx165_0
            try clear hx167_0
            try clear hx168_0
            try clear hx52_0
            try clear p1
            try clear p15
            try clear p159
            try clear p16
            try clear p164
            try clear p165
            try clear p167
            try clear p168
            try clear p2
            try clear p52
            try clear p6
            try clear q058
            try clear q060
            try clear q068
            try clear q070
            try clear q1
            try clear q15
            try clear q159
            try clear q16
            try clear q164
            try clear q165
            try clear q167
            try clear q168
            try clear q52
            try clear q58
            try clear q60
            try clear q68
            try clear q70
            obtain ⟨x13_2, x110_2, rfl, HA, HK2, HO_4, HO_13, HO_108, BK148, HB⟩ := hrel
            cases gk with
            | zero => exact absurd HA.out (by simp [spec_SlideClass.l3])
            | succ k2 =>
              have H := HA.out
              clear HA
              simp only [spec_SlideClass.l3] at H
              by_cases c78 : x110_2 < (x5_1.length : Int)
              · rw [if_pos c78] at H
                have c78b0 : decide (x110_2 < (x5_1.length : Int)) = true := decide_eq_true c78
                clear c78
                by_cases c79 : 0 ≤ x110_2
                · rw [if_pos c79] at H
                  have c79b0 : decide (0 ≤ x110_2) = true := decide_eq_true c79
                  clear c79
                  by_cases c80 : x110_2 < (x5_1.length : Int)
                  · rw [if_pos c80] at H
                    have c80b0 : decide (x110_2 < (x5_1.length : Int)) = true := decide_eq_true c80
                    clear c80
                    by_cases c81 : 0 ≤ (rd x5_1 x110_2)
                    · rw [if_pos c81] at H
                      have c81b0 : decide (0 ≤ (rd x5_1 x110_2)) = true := decide_eq_true c81
                      clear c81
                      by_cases c82 : (rd x5_1 x110_2) < (x4_1.length : Int)
                      · rw [if_pos c82] at H
                        have c82b0 : decide ((rd x5_1 x110_2) < (x4_1.length : Int)) = true := decide_eq_true c82
                        clear c82
                        by_cases c83 : x13_2.length < 4398046511104
                        · rw [if_pos c83] at H
                          have LMc83 := Aside0.mk c83
                          clear c83
                          obtain ⟨y189, hy189⟩ : ∃ y_ : List (S31), y_ = (x13_2 ++ [(⟨a0_0, rd_L1 x4_1 (rd x5_1 x110_2)⟩ : S31)]) := ⟨_, rfl⟩
                          replace H : (spec_SlideClass.l3 k2 x4_1 y189 x5_1 (x5_1.length : Int) (wrap64 (x110_2 + 1)) a0_0 l0_1) = some (r1, r2) := by first | (rw [hy189]; with_reducible exact H) | (have H2_ := (Option.bind_some _ _).symm.trans H; rw [hy189]; with_reducible exact H2_) | (have H2_ := (Option.bind_some _ _).symm.trans H; with_reducible exact H2_) | with_reducible exact H | (rw [hy189]; exact H) | exact H
                          have Ny189 := Aside0.mk hy189
                          clear hy189
                          have H' := Aside0.mk H
                          clear H
                          have p187 : 0 ≤ (x110_2 : Int) := of_decide_eq_true (by first | (with_reducible assumption) | assumption)
                          have q187 : x110_2 < (x5_1.length : Int) := of_decide_eq_true (by first | (with_reducible assumption) | assumption)
                          obtain ⟨ad187, e187, hx187_0⟩ := Kd.at_int (Kd.R_reads' HO_108.out).2.2 x110_2 p187 q187
                          cases e187
                          replace p187 := eq_true p187
                          replace q187 := eq_true q187
                          try go_wp2
                          have n0_ := Aside0.mk (Kd.N_drew HO_4.out)
                          have n1_ := Aside0.mk (Kd.N_drew HO_13.out)
                          have n2_ := Aside0.mk (Kd.R_drew HO_108.out)
                          have n3_ := Aside0.mk (blk_drew BK148.out)
                          have n4_ := Aside0.mk (below_drew1 HB.out)
                          clear HO_4
                          clear HO_13
                          clear HO_108
                          clear BK148
                          clear HB
                          have HO_4 := n0_
                          have HO_13 := n1_
                          have HO_108 := n2_
                          have BK148 := n3_
                          have HB := n4_
                          clear n0_ n1_ n2_ n3_ n4_
                          have p188 : 0 ≤ ((rd x5_1 x110_2) : Int) := of_decide_eq_true (by first | (with_reducible assumption) | assumption)
                          have q188 : (rd x5_1 x110_2) < (x4_1.length : Int) := of_decide_eq_true (by first | (with_reducible assumption) | assumption)
                          obtain ⟨ad188, A188_0, c188_0, e188, hx188_0, hl188_0, hi188_0⟩ := at_L1 (Kd.N_reads' HO_4.out).2.2 (rd x5_1 x110_2) p188 q188
                          cases e188
                          obtain ⟨ce188, hce188, hMe188, hcc188⟩ := Kd.N_get HO_4.out [] (rd x5_1 x110_2) p188 (by first | exact q188 | exact of_decide_eq_true (by first | (with_reducible assumption) | assumption) | (have e_ := (Kd.N_reads' HO_4.out).1; omega))
                          obtain ⟨ua188_0, uc188_0, rfl, ul188_0, ge188_0⟩ := Kd.FK_slice_open hMe188
                          have hv188_0 := hcc188 0 _ rfl
                          rw [Nat.add_zero, show ((Kd.slice 3 (Kd.int .i64))).sz = 1 from rfl, Nat.mul_one] at hv188_0
                          replace hv188_0 := Option.some.inj (hv188_0.symm.trans hx188_0)
                          injection hv188_0 with hva_ hvn_ hvc_
                          rw [hva_] at ge188_0
                          rw [hvc_] at ul188_0
                          have HL188_0 := Aside0.mk (show Kd.V (Kd.int .i64) 3 _ w.heap.size _ _ (rd_L1 x4_1 (rd x5_1 x110_2)) from Kd.V_mk ul188_0 ge188_0)
                          clear hva_ hvn_ hvc_ ge188_0 ul188_0
                          clear hcc188 hce188
                          have HR188_0 := Aside0.mk hi188_0
                          have HC188_0 := Aside0.mk hl188_0
                          clear hi188_0 hl188_0
                          replace p188 := eq_true p188
                          replace q188 := eq_true q188
                          refine start_ (n := 11) (S := fun w' => w'.cell? ⟨gb148, 0, none⟩ = some (.int .i64 a0_0) ∧ w'.cell? ⟨gb148, 1, none⟩ = some (.slice A0_1 l0_1.length c0_1) ∧ w'.cell? (ad188.add ((rd x5_1 x110_2)).toNat) = some (.slice A188_0 (rd_L1 x4_1 (rd x5_1 x110_2)).length c188_0)) (ds := [8, 9]) #[false, false, false, false, false, false, false, false, false, false, false] (by kernel_rfl) rfl rfl ⟨(blk_cell BK148.out 0).trans rfl, (blk_cell BK148.out 1).trans rfl, hx188_0⟩ (fun hHeld => ?_); refine with_tabW spec_SlideClass.tab31 spec_SlideClass.bits31 (fun HT_ HW_ => ?_)
                          generalize wr.drew = w84 at HO_4 HO_13 HO_108 BK148 HB HL188_0 HR188_0 hx188_0 hHeld ⊢
                          refine pure_ (i := 0) (N := some 114) (v := ?_) (a' := ?_) #[true, false, false, false, false, false, false, false, false, false, false] rfl rfl (any_of HT_.out (by kernel_rfl)) (fun _ _ _ h => h) (Or.inl ⟨by rfl, ?_⟩) ?_ ?_
                          rotate_left
                          · intro w'
                            go_simp
                            with_reducible rfl
                          rotate_left
                          · simp only [Act.put, List.setIfInBounds_toArray, List.set_cons_zero, List.set_cons_succ, i64_w, i32_w]
                            rfl
                          refine pure_ (i := 1) (N := some 115) (v := ?_) (a' := ?_) #[true, true, false, false, false, false, false, false, false, false, false] rfl rfl (any_of HT_.out (by kernel_rfl)) (fun _ _ _ h => h) (Or.inl ⟨by rfl, ?_⟩) ?_ ?_
                          rotate_left
                          · intro w'
                            go_simp
                            with_reducible rfl
                          rotate_left
                          · simp only [Act.put, List.setIfInBounds_toArray, List.set_cons_zero, List.set_cons_succ, i64_w, i32_w]
                            rfl
                          refine pure_ (i := 3) (N := some 117) (v := ?_) (a' := ?_) #[true, true, false, true, false, false, false, false, false, false, false] rfl rfl (any_of HT_.out (by kernel_rfl)) (fun _ _ _ h => h) (Or.inl ⟨by rfl, ?_⟩) ?_ ?_
                          rotate_left
                          · intro w'
                            go_simp
                            with_reducible rfl
                          rotate_left
                          · simp only [Act.put, List.setIfInBounds_toArray, List.set_cons_zero, List.set_cons_succ, i64_w, i32_w]
                            rfl
                          refine pure_ (i := 4) (N := some 118) (v := ?_) (a' := ?_) #[true, true, false, true, true, false, false, false, false, false, false] rfl rfl (any_of HT_.out (by kernel_rfl)) (fun _ _ _ h => h) (Or.inl ⟨by rfl, ?_⟩) ?_ ?_
                          rotate_left
                          · intro w'
                            go_simp
                            with_reducible rfl
                          rotate_left
                          · simp only [Act.put, List.setIfInBounds_toArray, List.set_cons_zero, List.set_cons_succ, i64_w, i32_w]
                            rfl
                          refine pure_ (i := 5) (N := some 119) (v := ?_) (a' := ?_) #[true, true, false, true, true, true, false, false, false, false, false] rfl rfl (any_of HT_.out (by kernel_rfl)) (fun _ _ _ h => h) (Or.inl ⟨by rfl, ?_⟩) ?_ ?_
                          rotate_left
                          · intro w'
                            go_simp
                            with_reducible rfl
                          rotate_left
                          · simp only [Act.put, List.setIfInBounds_toArray, List.set_cons_zero, List.set_cons_succ, i64_w, i32_w]
                            rfl
                          refine take_ (i := 2) (N := some 116) (v := ?_) (a' := ?_) #[true, true, true, true, true, true, false, false, false, false, false] rfl rfl (take_ofW HT_.out HW_.out (by kernel_rfl)) (fun _ _ _ h => h) (Or.inl ⟨by rfl, ?_⟩) hHeld ?_ ?_
                          rotate_left
                          · rintro w' ⟨s0, s1, s2⟩
                            go_simp
                            with_reducible rfl
                          rotate_left
                          · simp only [Act.put, List.setIfInBounds_toArray, List.set_cons_zero, List.set_cons_succ, i64_w, i32_w]
                            rfl
                          refine take_ (i := 6) (N := some 120) (v := ?_) (a' := ?_) #[true, true, true, true, true, true, true, false, false, false, false] rfl rfl (take_ofW HT_.out HW_.out (by kernel_rfl)) (fun _ _ _ h => h) (Or.inl ⟨by rfl, ?_⟩) hHeld ?_ ?_
                          rotate_left
                          · rintro w' ⟨s0, s1, s2⟩
                            go_simp
                            with_reducible rfl
                          rotate_left
                          · simp only [Act.put, List.setIfInBounds_toArray, List.set_cons_zero, List.set_cons_succ, i64_w, i32_w]
                            rfl
                          refine pure_ (i := 7) (N := some 121) (v := ?_) (a' := ?_) #[true, true, true, true, true, true, true, true, false, false, false] rfl rfl (any_of HT_.out (by kernel_rfl)) (fun _ _ _ h => h) (Or.inl ⟨by rfl, ?_⟩) ?_ ?_
                          rotate_left
                          · intro w'
                            go_simp
                            with_reducible rfl
                          rotate_left
                          · simp only [Act.put, List.setIfInBounds_toArray, List.set_cons_zero, List.set_cons_succ, i64_w, i32_w]
                            rfl
                          refine last_ (i := 8) (N := some 122) #[true, true, true, true, true, true, true, true, true, false, false] rfl rfl (one_of HT_.out (by kernel_rfl)) (by decide) (fun K hK => ?_)
                          refine value_ (w1 := ?_) (v := ?_) (by rfl) rfl ?_ ?_
                          rotate_left 2
                          · go_simp
                            constructor
                            · rfl
                            · rfl
                          refine hK.out _ _ ?_
                          clear hK K
                          refine norm_ (a' := ?_) ?_ ?_
                          rotate_left
                          · show Act.put _ (some 122) _ = _
                            simp only [Act.put, List.setIfInBounds_toArray, List.set_cons_zero, List.set_cons_succ, i64_w, i32_w]
                            rfl
                          refine last_ (i := 9) (N := some 123) #[true, true, true, true, true, true, true, true, true, true, false] rfl rfl (one_of HT_.out (by kernel_rfl)) (by decide) (fun K hK => ?_)
                          refine Kd.N_append_step k31 (w0 := w) w.heap.size (by rfl) (.tmp 114) (.tmp 122) 38 31 (.agg #[(.int .i64 0), (.slice none 0 0)]) 32 rfl Try.underlying38 info31 rfl (by decide) (by omega) u13 x13_2 (⟨a0_0, rd_L1 x4_1 (rd x5_1 x110_2)⟩ : S31) [.int .i64 a0_0, .slice A188_0 (rd_L1 x4_1 (rd x5_1 x110_2)).length c188_0] (fun k_ => (w.heap.size ≤ k_) ∧ some k_ ≠ (.slice (some ad188) x4_1.length co76 : Value).ownBlock ∧ some k_ ≠ (.slice (some ad187) x5_1.length co77 : Value).ownBlock ∧ k_ ≠ gb148) (fun k_ => ((fun k_ => (w.heap.size ≤ k_) ∧ some k_ ≠ (.slice (some ad188) x4_1.length co76 : Value).ownBlock ∧ some k_ ≠ (.slice (some ad187) x5_1.length co77 : Value).ownBlock ∧ k_ ≠ gb148)) k_ ∧ some k_ ≠ (u13 : Value).ownBlock) rfl rfl ?aP (fun _ hk => hk) ?aF ?aO ?aB ?aS ?aL ?_
                          (case aP => exact (k31_mkF _ _ (⟨a0_0, rd_L1 x4_1 (rd x5_1 x110_2)⟩ : S31) (Kd.V_reads' (Kd.V_mono (ok' := (fun k_ => ((fun k_ => (w.heap.size ≤ k_) ∧ some k_ ≠ (.slice (some ad188) x4_1.length co76 : Value).ownBlock ∧ some k_ ≠ (.slice (some ad187) x5_1.length co77 : Value).ownBlock ∧ k_ ≠ gb148)) k_ ∧ some k_ ≠ (u13 : Value).ownBlock)) (HL188_0.out) (fun k_ hk => ⟨⟨hk.1.1, ⟨hk.2, ⟨hk.1.2.2.1, hk.1.2.2.2⟩⟩⟩, hk.1.2.1⟩))).2.1 (Kd.V_F (Kd.V_mono (ok' := (fun k_ => ((fun k_ => (w.heap.size ≤ k_) ∧ some k_ ≠ (.slice (some ad188) x4_1.length co76 : Value).ownBlock ∧ some k_ ≠ (.slice (some ad187) x5_1.length co77 : Value).ownBlock ∧ k_ ≠ gb148)) k_ ∧ some k_ ≠ (u13 : Value).ownBlock)) (HL188_0.out) (fun k_ hk => ⟨⟨hk.1.1, ⟨hk.2, ⟨hk.1.2.2.1, hk.1.2.2.2⟩⟩⟩, hk.1.2.1⟩)))))
                          (case aB => exact (by repeat (first | (with_reducible first | exact HB.out | apply below_alloc | apply pw_below_drewN | apply below_drew1 | refine below_set ?_ GE148.out) | exact HB.out)))
                          (case aF => exact (fun k_ hk => ⟨(Nat.le_trans (below_size (by repeat (first | (with_reducible first | exact HB.out | apply below_alloc | apply pw_below_drewN | apply below_drew1 | refine below_set ?_ GE148.out) | exact HB.out))) hk), Kd.fresh' (Kd.N_lt (by (with_reducible repeat (first | apply Kd.N_alloc | apply Kd.N_drewN | apply Kd.N_drew)); exact HO_4.out)) k_ hk, Kd.fresh' (Kd.R_lt (by (with_reducible repeat (first | apply Kd.R_alloc | apply Kd.R_drewN | apply Kd.R_drew)); exact HO_108.out)) k_ hk, Kd.freshB (g := gb148) (o := .cells #[.int .i64 a0_0, .slice A0_1 l0_1.length c0_1] 31 (0, 0)) (by (with_reducible repeat (first | refine blk_drewN ?_ _ | refine blk_drew ?_ | refine blk_alloc ?_ _)); exact BK148.out) k_ hk⟩))
                          (case aO => exact (by (with_reducible repeat (first | apply Kd.N_alloc | apply Kd.N_drewN | apply Kd.N_drew)); exact HO_13.out))
                          (case aS => exact (below_size (by repeat (first | (with_reducible first | exact HB.out | apply below_alloc | apply pw_below_drewN | apply below_drew1 | refine below_set ?_ GE148.out) | exact HB.out))))
                          (case aL => have := LMc83.out; omega)
                          intro v190 w85 ho hb hg hat
                          rw [← Ny189.out] at ho
                          have n0_ := Aside0.mk (Kd.N_afterv (ok := (fun k_ => (w.heap.size ≤ k_) ∧ some k_ ≠ (.slice (some ad187) x5_1.length co77 : Value).ownBlock ∧ k_ ≠ gb148)) (by (with_reducible repeat (first | apply Kd.N_alloc | apply Kd.N_drewN | apply Kd.N_drew)); exact Kd.N_mono HO_4.out (fun _ hk => ⟨⟨hk.1, ⟨hk.2.2.1, hk.2.2.2⟩⟩, hk.2.1⟩)) hg hat)
                          have n1_ := Aside0.mk (Kd.R_over' (by (with_reducible repeat (first | apply Kd.R_alloc | apply Kd.R_drewN | apply Kd.R_drew)); exact HO_108.out) (Kd.N_typed (by (with_reducible repeat (first | apply Kd.N_alloc | apply Kd.N_drewN | apply Kd.N_drew)); exact HO_13.out)) (by decide) hg)
                          have n2_ := Aside0.mk (blk_grown (g := gb148) (o := .cells #[.int .i64 a0_0, .slice A0_1 l0_1.length c0_1] 31 (0, 0)) (by (with_reducible repeat (first | refine blk_drewN ?_ _ | refine blk_drew ?_ | refine blk_alloc ?_ _)); exact BK148.out) hg (Kd.N_away HO_13.out (fun _ hk => hk.2.2.2)))
                          have n3_ := Aside0.mk (Kd.V_afterv (ok := (fun k_ => (w.heap.size ≤ k_) ∧ some k_ ≠ (.slice (some ad188) x4_1.length co76 : Value).ownBlock ∧ some k_ ≠ (.slice (some ad187) x5_1.length co77 : Value).ownBlock ∧ k_ ≠ gb148)) (by (with_reducible repeat (first | apply Kd.V_alloc | apply Kd.V_drewN | apply Kd.V_drew)); exact Kd.V_mono HL188_0.out (fun _ hk => ⟨⟨hk.1.1, ⟨hk.2, ⟨hk.1.2.2.1, hk.1.2.2.2⟩⟩⟩, hk.1.2.1⟩)) hg hat)
                          have n4_ := Aside0.mk (hb)
                          have n5_ := Aside0.mk (ho)
                          clear HO_4
                          clear HO_108
                          clear BK148
                          clear HL188_0
                          clear HB
                          clear HO_13
                          have HO_4 := n0_
                          have HO_108 := n1_
                          have BK148 := n2_
                          have HL188_0 := n3_
                          have HB := n4_
                          have HO191 := n5_
                          clear n0_ n1_ n2_ n3_ n4_ n5_
                          clear ho hb hg hat
                          refine hK.out _ _ ?_
                          clear hK K
                          refine norm_ (a' := ?_) ?_ ?_
                          rotate_left
                          · show Act.put _ (some 123) _ = _
                            simp only [Act.put, List.setIfInBounds_toArray, List.set_cons_zero, List.set_cons_succ, i64_w, i32_w]
                            rfl
                          refine pure_ (i := 10) (N := some 13) (v := ?_) (a' := ?_) #[true, true, true, true, true, true, true, true, true, true, true] rfl rfl (any_of HT_.out (by kernel_rfl)) (fun _ _ _ h => h) (Or.inl ⟨by rfl, ?_⟩) ?_ ?_
                          rotate_left
                          · intro w'
                            go_simp
                            with_reducible rfl
                          rotate_left
                          · simp only [Act.put, List.setIfInBounds_toArray, List.set_cons_zero, List.set_cons_succ, i64_w, i32_w]
                            rfl
                          refine done_ (done_of HT_.out (by kernel_rfl)) ?_
                          try go_wp2
                          go_roundg k2
                          case measure => have := HK1.out; have := HK2.out; omega
                          case rel => exact ⟨(y189), (wrap64 (x110_2 + 1)), (by first | rfl | (simp; done) | (simp [*]; done)), H', ⟨by have := HK1.out; have := HK2.out; omega⟩, ⟨by (with_reducible repeat (first | apply Kd.N_alloc | apply Kd.N_drewN | apply Kd.N_drew)); exact Kd.N_mono HO_4.out (fun _ hk => ⟨hk.1.1, ⟨hk.2, ⟨hk.1.2.1, hk.1.2.2⟩⟩⟩)⟩, ⟨by (with_reducible repeat (first | apply Kd.N_alloc | apply Kd.N_drewN | apply Kd.N_drew)); exact HO191.out⟩, ⟨by (with_reducible repeat (first | apply Kd.R_alloc | apply Kd.R_drewN | apply Kd.R_drew)); exact HO_108.out⟩, ⟨by (with_reducible repeat (first | refine blk_drewN ?_ _ | refine blk_drew ?_ | refine blk_alloc ?_ _)); exact BK148.out⟩, ⟨by repeat (first | (with_reducible first | exact HB.out | apply below_alloc | apply pw_below_drewN | apply below_drew1 | refine below_set ?_ GE148.out) | exact HB.out)⟩⟩
                        · rw [if_neg c83] at H
                          exact absurd H (by simp)
                      · rw [if_neg c82] at H
                        exact absurd H (by simp)
                    · rw [if_neg c81] at H
                      exact absurd H (by simp)
                  · rw [if_neg c80] at H
                    exact absurd H (by simp)
                · rw [if_neg c79] at H
                  exact absurd H (by simp)
              · rw [if_neg c78] at H
                have c78b0 : decide (x110_2 < (x5_1.length : Int)) = false := decide_eq_false c78
                clear c78
                simp only [Option.some.injEq, Prod.mk.injEq] at H
                obtain ⟨rfl, rfl⟩ := H
                go_wp2
                go_ret2
                exact ⟨_, by first | rfl | (simp [errW_none, errW_some] <;> rfl) | (simp [*, errW_none, errW_some] <;> rfl), by (with_reducible repeat (first | apply Kd.N_alloc | apply Kd.N_drewN | apply Kd.N_drew)); exact Kd.N_mono HO_13.out (fun _ hk => hk.1), by repeat (first | (with_reducible first | exact HB.out | apply below_alloc | apply pw_below_drewN | apply below_drew1 | refine below_set ?_ GE148.out) | exact HB.out)⟩
  · replace c3 := Bool.eq_false_iff.mpr c3
    subst c3
    have H1 : (some (([] : List (S31)), false)) = some (r1, r2) := by rw [if_neg (show ¬ (false = true) by decide)] at H; exact H
    clear H
    have H := H1
    clear H1
    simp only [Option.some.injEq, Prod.mk.injEq] at H
    obtain ⟨rfl, rfl⟩ := H
    go_enter Try.func29, Try.ntmps29
    go_wp2_with (first | ((with_reducible refine gate_dst (N := 1) rfl ?_); refine box_event ?hg (N := 1) ?hd (cs := #[.int .i64 a0_0, .slice A0_1 l0_1.length c0_1]) (t := 31) ?hr ?_; (case hd => rfl); (case hg => rfl); (case hr => first | (go_simp; done) | (go_simp; rfl)); intro gb148 hg w86 hbox hb; have n0_ := Aside0.mk (below_step (by repeat (first | (with_reducible first | exact HB.out | apply below_alloc | apply pw_below_drewN | apply below_drew1) | exact HB.out)) hb); have n1_ := Aside0.mk (hbox); have n2_ := Aside0.mk ((by rw [hg]; exact (below_size (by repeat (first | (with_reducible first | exact HB.out | apply below_alloc | apply pw_below_drewN | apply below_drew1) | exact HB.out))) : w.heap.size ≤ gb148)); have n3_ := Aside0.mk ((by rw [hg]; exact (below_size (by repeat (first | (with_reducible first | exact HB.out | apply below_alloc | apply pw_below_drewN | apply below_drew1) | exact HB.out))) : w.heap.size ≤ gb148)); clear HB; have HB := n0_; have BK148 := n1_; have GW148 := n2_; have GE148 := n3_; clear n0_ n1_ n2_ n3_; clear hb hbox hg; have hcz87_0 : w86.cell? ⟨gb148, 0, none⟩ = some (.int .i64 a0_0) := (blk_cell BK148.out 0).trans rfl; have hcz87_1 : w86.cell? ⟨gb148, 1, none⟩ = some (.slice A0_1 l0_1.length c0_1) := (blk_cell BK148.out 1).trans rfl; have hfz87_0 := blk_frozen BK148.out 0; have hfz87_1 := blk_frozen BK148.out 1) | ((with_reducible refine gate_callee (f := 74) rfl ?_); refine goesL_ (some 17) rfl rfl Try.func74 (by kernel_rfl) rfl #[.agg #[.int .i64 a0_0, .slice A0_1 l0_1.length c0_1]] rfl (by (try simp only [List.map_toArray, List.map_cons, List.map_nil]); first | done | rfl | (simp only [List.length_drop, List.length_take]; rfl)) ?_; (with_reducible refine (spec_laGood.calls k a0_0 _ _ l0_1 false _ ?side1 ?side2 A2.out).mono ?_); (case side1 => repeat (first | exact (Kd.C_below HR0_1.out HB.out) | (with_reducible refine Kd.C_alloc ?_ _) | (with_reducible refine Kd.C_drewN ?_ _) | (with_reducible refine Kd.C_drew ?_))); (case side2 => exact HC0_1.out); rintro e w88 ⟨rfl, hb⟩; refine ⟨_, rfl, ?_⟩; have n0_ := Aside0.mk (blk_below (g := gb148) (o := .cells #[.int .i64 a0_0, .slice A0_1 l0_1.length c0_1] 31 (0, 0)) (by (with_reducible repeat (first | refine blk_drewN ?_ _ | refine blk_drew ?_ | refine blk_alloc ?_ _)); exact BK148.out) hb); have n1_ := Aside0.mk (below_step (by repeat (first | (with_reducible first | exact HB.out | apply below_alloc | apply pw_below_drewN | apply below_drew1 | refine below_set ?_ GE148.out) | exact HB.out)) hb); clear BK148; clear HB; have BK148 := n0_; have HB := n1_; clear n0_ n1_; (try clear hb); (try clear hb2); (try clear hk); (try clear hi)))
    go_ret2
    exact ⟨_, by first | rfl | (simp [errW_none, errW_some] <;> rfl) | (simp [*, errW_none, errW_some] <;> rfl), by first | exact Kd.S_nil _ _ _ _ _ | exact Kd.N_nil _ _ _ _ _ | exact Kd.V_nil _ _ _ _ _ | exact Kd.Q_nil _ _ _ _ _ | exact Kd.R_nil _ _ _ _ _, by repeat (first | (with_reducible first | exact HB.out | apply below_alloc | apply pw_below_drewN | apply below_drew1 | refine below_set ?_ GE148.out) | exact HB.out)⟩

end
end Go.Proofs.Ytnddmmjofpfmfaa.PSc
