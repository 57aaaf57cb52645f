/- Proved: for every input the law FnExactLongestByFormula returns true (its plain statement, over numbers and lists). No condition. -/
import Derived.Test.YtjaahaeenagpfaaPAllx1
import Derived.Test.YtjaahaeenagpfaaVAllx1
import Derived.Test.YtjaahaeenagpfaaPlain
namespace Go.Proofs.Ytjaahaeenagpfaa.Pure
open Go.RowKit Go.Proofs.Ytjaahaeenagpfaa.PAll Go.Proofs.YtjaahaeenagpfaaW.PrintWords Go.Proofs.YtjaahaeenagpfaaW.PrintLast Go.Proofs.YtjaahaeenagpfaaW.PrintMore Go.Proofs.YtjaahaeenagpfaaL
set_option linter.unusedVariables false
set_option linter.unusedSimpArgs false

theorem FnExactLongestByFormula : laws_FnExactLongestByFormula.Pure := by
  intro n hn
  by_cases h : 2 ≤ n ∧ n ≤ 6
  · have hc : n = 2 ∨ n = 3 ∨ n = 4 ∨ n = 5 ∨ n = 6 := by omega
    refine ⟨60, ?_⟩
    rcases hc with rfl | rfl | rfl | rfl | rfl <;> decide +kernel
  · refine ⟨1, ?_⟩
    unfold laws_FnExactLongestByFormula.f spec_LongestByFormula.f impl_LongestByFormula.f spec_l1In.f impl_between.f
    by_cases h1 : n ≥ 2
    · rw [if_pos h1, decide_eq_false (by omega)]; rfl
    · rw [if_neg h1]; rfl

end Go.Proofs.Ytjaahaeenagpfaa.Pure
