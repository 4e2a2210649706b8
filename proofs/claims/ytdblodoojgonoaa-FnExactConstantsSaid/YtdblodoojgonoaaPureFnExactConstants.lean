/- Every exported constant of the program has the value that the document gives; no condition. -/
import Derived.Test.YtdblodoojgonoaaQ11
set_option linter.unusedVariables false
set_option linter.unusedSimpArgs false
namespace Go.Proofs.Ytdblodoojgonoaa.Pure
open Go.RowKit Go.Proofs.Ytdblodoojgonoaa.Q Go.Proofs.YtdblodoojgonoaaW.PrintWords Go.Proofs.YtdblodoojgonoaaW.PrintLast Go.Proofs.YtdblodoojgonoaaW.PrintMore
theorem FnExactConstants : laws_FnExactConstants.Pure := rfl
end Go.Proofs.Ytdblodoojgonoaa.Pure
