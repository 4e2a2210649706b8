import Derived.Test.YtcnkakaipajloaaDoorVInv
import Derived.Test.YtcnkakaipajloaaDoorVFootNe
namespace Go.Proofs.YtcnkakaipajloaaDoorV.PrintWords
open Go.RowKit
end Go.Proofs.YtcnkakaipajloaaDoorV.PrintWords
namespace Go.Proofs.YtcnkakaipajloaaDoorV.PrintLast
section
variable {ops : Array Oper} {a : Act} {o og : Oper} {g : Nat} {t : Tmp} {u : Bool}
end
end Go.Proofs.YtcnkakaipajloaaDoorV.PrintLast
