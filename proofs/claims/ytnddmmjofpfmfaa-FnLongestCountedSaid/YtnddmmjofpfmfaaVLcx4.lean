/- The values of the printed functions, without rounds, and the equations that they meet. Written by a program of this session (vgen.py). -/
import Derived.Test.YtnddmmjofpfmfaaPLcx4
import Derived.Test.YtnddmmjofpfmfaaLim
namespace Go.Proofs.Ytnddmmjofpfmfaa.PLc
open Go.RowKit Go.Proofs.YtnddmmjofpfmfaaW.PrintWords Go.Proofs.YtnddmmjofpfmfaaW.PrintLast Go.Proofs.YtnddmmjofpfmfaaW.PrintMore Go.Proofs.YtnddmmjofpfmfaaL
set_option linter.unusedVariables false
set_option maxRecDepth 100000
theorem impl_CountAllLeast.l0.m (x5 : Bool) (x6 : Int) (x14 : List Int) (x15 : Int) (x16 : Int) : Mono (fun k => impl_CountAllLeast.l0 k x5 x6 x14 x15 x16) := fun k => (impl_CountAllLeast.mono_l k) x5 x6 x14 x15 x16
noncomputable def impl_CountAllLeast.l0.v (x5 : Bool) (x6 : Int) (x14 : List Int) (x15 : Int) (x16 : Int) : Option (Int × Bool) := lim (fun k => impl_CountAllLeast.l0 k x5 x6 x14 x15 x16)
theorem impl_CountAllLeast.f.m (a0 : Int) : Mono (fun k => impl_CountAllLeast.f k a0) := fun k => impl_CountAllLeast.mono a0 k
noncomputable def impl_CountAllLeast.f.v (a0 : Int) : Option (Int × Bool) := lim (fun k => impl_CountAllLeast.f k a0)
theorem impl_CountAllLeast.f.ends (a0 : Int) {r : _} (h : impl_CountAllLeast.f.v a0 = some r) : ∃ k, impl_CountAllLeast.f k a0 = some r := lim_some h
theorem impl_LongestByFormula.l0.m (x0 : Int) (x4 : Int) (x5 : Int) : Mono (fun k => impl_LongestByFormula.l0 k x0 x4 x5) := fun k => (impl_LongestByFormula.mono_l k).1 x0 x4 x5
noncomputable def impl_LongestByFormula.l0.v (x0 : Int) (x4 : Int) (x5 : Int) : Option (Int × Bool) := lim (fun k => impl_LongestByFormula.l0 k x0 x4 x5)
theorem impl_LongestByFormula.l1.m (x0 : Int) (x4 : Int) (x6 : Int) : Mono (fun k => impl_LongestByFormula.l1 k x0 x4 x6) := fun k => (impl_LongestByFormula.mono_l k).2.1 x0 x4 x6
noncomputable def impl_LongestByFormula.l1.v (x0 : Int) (x4 : Int) (x6 : Int) : Option (Int × Bool) := lim (fun k => impl_LongestByFormula.l1 k x0 x4 x6)
theorem impl_LongestByFormula.l2.m (x0 : Int) (x4 : Int) (x6 : Int) (x29 : Int) (x30 : Int) : Mono (fun k => impl_LongestByFormula.l2 k x0 x4 x6 x29 x30) := fun k => (impl_LongestByFormula.mono_l k).2.2 x0 x4 x6 x29 x30
noncomputable def impl_LongestByFormula.l2.v (x0 : Int) (x4 : Int) (x6 : Int) (x29 : Int) (x30 : Int) : Option (Int × Bool) := lim (fun k => impl_LongestByFormula.l2 k x0 x4 x6 x29 x30)
theorem impl_LongestByFormula.f.m (a0 : Int) : Mono (fun k => impl_LongestByFormula.f k a0) := fun k => impl_LongestByFormula.mono a0 k
noncomputable def impl_LongestByFormula.f.v (a0 : Int) : Option (Int × Bool) := lim (fun k => impl_LongestByFormula.f k a0)
theorem impl_LongestByFormula.f.ends (a0 : Int) {r : _} (h : impl_LongestByFormula.f.v a0 = some r) : ∃ k, impl_LongestByFormula.f k a0 = some r := lim_some h
theorem impl_CountAllLeast.l0.v_eq (x5 : Bool) (x6 : Int) (x14 : List Int) (x15 : Int) (x16 : Int) : impl_CountAllLeast.l0.v x5 x6 x14 x15 x16 = if x16 < x15 then (if 0 ≤ x16 then (if x16 < (x14.length : Int) then (impl_CountAllLeast.l0.v x5 (wrap64 (x6 + (rd x14 x16))) x14 x15 (wrap64 (x16 + 1))) else (none)) else (none)) else (some (x6, x5)) :=
  Eq.trans (b := lim (fun k => if x16 < x15 then (if 0 ≤ x16 then (if x16 < (x14.length : Int) then (impl_CountAllLeast.l0 k x5 (wrap64 (x6 + (rd x14 x16))) x14 x15 (wrap64 (x16 + 1))) else (none)) else (none)) else (some (x6, x5)))) (lim_eq (impl_CountAllLeast.l0.m x5 x6 x14 x15 x16) (fun k => by with_reducible exact impl_CountAllLeast.l0.eq_2 _ _ _ _ _ _ )) (lim_ite_to (lim_ite_to (lim_ite_to rfl (lim_const _)) (lim_const _)) (lim_const _))
theorem impl_CountAllLeast.f.v_eq (a0 : Int) : impl_CountAllLeast.f.v a0 = (impl_CountByLength.f a0).bind fun bt197 => (impl_CountAllLeast.l0.v bt197.2 0 bt197.1 (bt197.1.length : Int) 0) :=
  Eq.trans (b := lim (fun k => (impl_CountByLength.f a0).bind fun bt197 => (impl_CountAllLeast.l0 k bt197.2 0 bt197.1 (bt197.1.length : Int) 0))) (congrArg lim (funext fun k => by with_reducible exact impl_CountAllLeast.f.eq_1 _ _ )) (lim_bindc_to (fun bt197 => rfl))
theorem impl_LongestByFormula.l0.v_eq (x0 : Int) (x4 : Int) (x5 : Int) : impl_LongestByFormula.l0.v x0 x4 x5 = if x5 ≤ (wrap64 (Int.tdiv (wrap64 (x0 * (wrap64 (x0 - 1)))) 2)) then (impl_LongestByFormula.l0.v x0 (wrap64 (x4 * x5)) (wrap64 (x5 + 1))) else (impl_LongestByFormula.l1.v x0 x4 1) :=
  Eq.trans (b := lim (fun k => if x5 ≤ (wrap64 (Int.tdiv (wrap64 (x0 * (wrap64 (x0 - 1)))) 2)) then (impl_LongestByFormula.l0 k x0 (wrap64 (x4 * x5)) (wrap64 (x5 + 1))) else (impl_LongestByFormula.l1 k x0 x4 1))) (lim_eq (impl_LongestByFormula.l0.m x0 x4 x5) (fun k => by with_reducible exact impl_LongestByFormula.l0.eq_2 _ _ _ _ )) (lim_ite_to rfl rfl)
theorem impl_LongestByFormula.l1.v_eq (x0 : Int) (x4 : Int) (x6 : Int) : impl_LongestByFormula.l1.v x0 x4 x6 = if x6 < x0 then (impl_LongestByFormula.l2.v x0 x4 x6 (wrap64 (x0 - x6)) 0) else (some (x4, true)) :=
  Eq.trans (b := lim (fun k => if x6 < x0 then (impl_LongestByFormula.l2 k x0 x4 x6 (wrap64 (x0 - x6)) 0) else (some (x4, true)))) (lim_eq (impl_LongestByFormula.l1.m x0 x4 x6) (fun k => by with_reducible exact impl_LongestByFormula.l1.eq_2 _ _ _ _ )) (lim_ite_to rfl (lim_const _))
theorem impl_LongestByFormula.l2.v_eq (x0 : Int) (x4 : Int) (x6 : Int) (x29 : Int) (x30 : Int) : impl_LongestByFormula.l2.v x0 x4 x6 x29 x30 = if x30 < x29 then (if (wrap64 ((wrap64 (2 * x6)) - 1)) = 0 then (none) else (impl_LongestByFormula.l2.v x0 (wrap64 (Int.tdiv x4 (wrap64 ((wrap64 (2 * x6)) - 1)))) x6 x29 (wrap64 (x30 + 1)))) else (impl_LongestByFormula.l1.v x0 x4 (wrap64 (x6 + 1))) :=
  Eq.trans (b := lim (fun k => if x30 < x29 then (if (wrap64 ((wrap64 (2 * x6)) - 1)) = 0 then (none) else (impl_LongestByFormula.l2 k x0 (wrap64 (Int.tdiv x4 (wrap64 ((wrap64 (2 * x6)) - 1)))) x6 x29 (wrap64 (x30 + 1)))) else (impl_LongestByFormula.l1 k x0 x4 (wrap64 (x6 + 1))))) (lim_eq (impl_LongestByFormula.l2.m x0 x4 x6 x29 x30) (fun k => by with_reducible exact impl_LongestByFormula.l2.eq_2 _ _ _ _ _ _ )) (lim_ite_to (lim_ite_to (lim_const _) rfl) rfl)
theorem impl_LongestByFormula.f.v_eq (a0 : Int) : impl_LongestByFormula.f.v a0 = (impl_between.f a0 2 6).bind fun t221 => (if t221 = true then (impl_LongestByFormula.l0.v a0 1 2) else (some (0, false))) :=
  Eq.trans (b := lim (fun k => (impl_between.f a0 2 6).bind fun t221 => (if t221 = true then (impl_LongestByFormula.l0 k a0 1 2) else (some (0, false))))) (congrArg lim (funext fun k => by with_reducible exact impl_LongestByFormula.f.eq_1 _ _ )) (lim_bindc_to (fun t221 => (lim_ite_to rfl (lim_const _))))
end Go.Proofs.Ytnddmmjofpfmfaa.PLc
