/- What the printed SameBox comes to; no condition. -/
import Derived.Test.YtogmkfenplihoaaK1low
set_option linter.unusedVariables false
set_option linter.unusedSimpArgs false
namespace Go.Proofs.Ytogmkfenplihoaa.Q
open Go.RowKit Go.Proofs.YtogmkfenplihoaaV.PrintWords Go.Proofs.YtogmkfenplihoaaV.PrintLast Go.Proofs.YtogmkfenplihoaaV.PrintMore

end Go.Proofs.Ytogmkfenplihoaa.Q
