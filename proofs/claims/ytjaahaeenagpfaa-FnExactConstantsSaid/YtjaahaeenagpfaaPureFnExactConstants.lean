/- Proved: for every input the law FnExactConstants returns true (its plain statement, over numbers and lists). No condition. -/
import Derived.Test.YtjaahaeenagpfaaPAllx1
import Derived.Test.YtjaahaeenagpfaaVAllx1
import Derived.Test.YtjaahaeenagpfaaPlain
namespace Go.Proofs.Ytjaahaeenagpfaa.Pure
open Go.RowKit Go.Proofs.Ytjaahaeenagpfaa.PAll Go.Proofs.YtjaahaeenagpfaaW.PrintWords Go.Proofs.YtjaahaeenagpfaaW.PrintLast Go.Proofs.YtjaahaeenagpfaaW.PrintMore Go.Proofs.YtjaahaeenagpfaaL
set_option linter.unusedVariables false
set_option linter.unusedSimpArgs false

theorem FnExactConstants : laws_FnExactConstants.Pure := rfl

end Go.Proofs.Ytjaahaeenagpfaa.Pure
