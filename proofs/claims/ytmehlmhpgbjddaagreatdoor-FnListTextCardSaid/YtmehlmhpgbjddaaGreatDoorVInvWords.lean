import Derived.Test.YtmehlmhpgbjddaaGreatDoorVInv
import Derived.Test.YtmehlmhpgbjddaaGreatDoorVFootNe
namespace Go.Proofs.YtmehlmhpgbjddaaGreatDoorV.PrintWords
open Go.RowKit
end Go.Proofs.YtmehlmhpgbjddaaGreatDoorV.PrintWords
namespace Go.Proofs.YtmehlmhpgbjddaaGreatDoorV.PrintLast
section
variable {ops : Array Oper} {a : Act} {o og : Oper} {g : Nat} {t : Tmp} {u : Bool}
end
end Go.Proofs.YtmehlmhpgbjddaaGreatDoorV.PrintLast
