/- What the printed marks of the laws come to; no condition. -/
import Derived.Test.YtcnkakaipajloaaC1
set_option linter.unusedVariables false
set_option linter.unusedSimpArgs false
namespace Go.Proofs.Ytcnkakaipajloaa.Q
open Go.RowKit Go.Proofs.YtcnkakaipajloaaV.PrintWords Go.Proofs.YtcnkakaipajloaaV.PrintLast Go.Proofs.YtcnkakaipajloaaV.PrintMore
/-! ## The laws' marks -/

end Go.Proofs.Ytcnkakaipajloaa.Q
