import Derived.Test.YtiobaiakbbboaaaVInv
import Derived.Test.YtiobaiakbbboaaaVFootNe
namespace Go.Proofs.YtiobaiakbbboaaaV.PrintWords
open Go.RowKit
end Go.Proofs.YtiobaiakbbboaaaV.PrintWords
namespace Go.Proofs.YtiobaiakbbboaaaV.PrintLast
section
variable {ops : Array Oper} {a : Act} {o og : Oper} {g : Nat} {t : Tmp} {u : Bool}
end
end Go.Proofs.YtiobaiakbbboaaaV.PrintLast
