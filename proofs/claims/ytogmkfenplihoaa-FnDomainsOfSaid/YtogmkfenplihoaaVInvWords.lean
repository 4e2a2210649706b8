import Derived.Test.YtogmkfenplihoaaVInv
import Derived.Test.YtogmkfenplihoaaVFootNe
namespace Go.Proofs.YtogmkfenplihoaaV.PrintWords
open Go.RowKit
end Go.Proofs.YtogmkfenplihoaaV.PrintWords
namespace Go.Proofs.YtogmkfenplihoaaV.PrintLast
section
variable {ops : Array Oper} {a : Act} {o og : Oper} {g : Nat} {t : Tmp} {u : Bool}
end
end Go.Proofs.YtogmkfenplihoaaV.PrintLast
