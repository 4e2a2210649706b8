import Derived.Test.YtcnkakaipajloaaVInv
import Derived.Test.YtcnkakaipajloaaVFootNe
namespace Go.Proofs.YtcnkakaipajloaaV.PrintWords
open Go.RowKit
end Go.Proofs.YtcnkakaipajloaaV.PrintWords
namespace Go.Proofs.YtcnkakaipajloaaV.PrintLast
section
variable {ops : Array Oper} {a : Act} {o og : Oper} {g : Nat} {t : Tmp} {u : Bool}
end
end Go.Proofs.YtcnkakaipajloaaV.PrintLast
