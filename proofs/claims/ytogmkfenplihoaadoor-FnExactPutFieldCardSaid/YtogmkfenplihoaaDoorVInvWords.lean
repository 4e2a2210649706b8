import Derived.Test.YtogmkfenplihoaaDoorVInv
import Derived.Test.YtogmkfenplihoaaDoorVFootNe
namespace Go.Proofs.YtogmkfenplihoaaDoorV.PrintWords
open Go.RowKit
end Go.Proofs.YtogmkfenplihoaaDoorV.PrintWords
namespace Go.Proofs.YtogmkfenplihoaaDoorV.PrintLast
section
variable {ops : Array Oper} {a : Act} {o og : Oper} {g : Nat} {t : Tmp} {u : Bool}
end
end Go.Proofs.YtogmkfenplihoaaDoorV.PrintLast
