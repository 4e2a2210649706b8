import Derived.Test.YtmehlmhpgbjddaaDoorVInv
import Derived.Test.YtmehlmhpgbjddaaDoorVFootNe
namespace Go.Proofs.YtmehlmhpgbjddaaDoorV.PrintWords
open Go.RowKit
end Go.Proofs.YtmehlmhpgbjddaaDoorV.PrintWords
namespace Go.Proofs.YtmehlmhpgbjddaaDoorV.PrintLast
section
variable {ops : Array Oper} {a : Act} {o og : Oper} {g : Nat} {t : Tmp} {u : Bool}
end
end Go.Proofs.YtmehlmhpgbjddaaDoorV.PrintLast
