/- What the printed draws of a text come to; no condition. -/
import Derived.Test.YtcnkakaipajloaaD1
set_option linter.unusedVariables false
set_option linter.unusedSimpArgs false
namespace Go.Proofs.Ytcnkakaipajloaa.Q
open Go.RowKit Go.Proofs.YtcnkakaipajloaaV.PrintWords Go.Proofs.YtcnkakaipajloaaV.PrintLast Go.Proofs.YtcnkakaipajloaaV.PrintMore

end Go.Proofs.Ytcnkakaipajloaa.Q
