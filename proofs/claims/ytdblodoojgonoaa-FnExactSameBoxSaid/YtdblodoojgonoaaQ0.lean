/- What functions of the program come to, written by a program of this session (mwprint.py); no condition. -/
import Derived.Test.YtdblodoojgonoaaProg
import Derived.Below
import Derived.Deep.Draws
import Derived.Deep.AppendLies
import Derived.Maps.AppendAt
import Derived.OwnWalk
import Derived.Laws.BytesArg
import Derived.Laws.MakeOwn
import Derived.Laws.OwnMore
import Derived.Deep.OwnRows
import Derived.Tactics
import Derived.Lib.ConvBytes
import Derived.Laws.Slices
import Derived.WalkKit
import Derived.KernelRfl
import Derived.RowKit3
import Derived.Deep.LoopGhost
import Derived.Deep.QuietTactic
import Derived.BigQuiet
import Derived.WideLaws
import Derived.Deep.DeepCutAuto
import Derived.Deep.CutBlock
import Derived.Deep.RegionHeld3
import Derived.Laws.Rows
import Derived.Lib.AppendStr
import Derived.ArgAppend
import Derived.Laws.IdiomCopy
import Derived.OrdersHeld
import Derived.Laws.BitsLemmas
import Derived.RowKit
import Derived.Test.YtdblodoojgonoaaQH
import Derived.Test.YtdblodoojgonoaaWWords
import Derived.Test.YtdblodoojgonoaaWLast
import Derived.Test.YtdblodoojgonoaaWTab
import Derived.Test.YtdblodoojgonoaaWFour
import Derived.Test.YtdblodoojgonoaaWQPut
import Derived.Test.YtdblodoojgonoaaWApart
import Derived.Test.YtdblodoojgonoaaWArr
import Derived.Test.YtdblodoojgonoaaWZeros
import Derived.Test.YtdblodoojgonoaaWFoot
import Derived.Test.YtdblodoojgonoaaWKept
import Derived.Test.YtdblodoojgonoaaWShare
import Derived.Test.YtdblodoojgonoaaWN
import Derived.Test.YtdblodoojgonoaaWFootNe
import Derived.Test.YtdblodoojgonoaaWAt
import Derived.Test.YtdblodoojgonoaaWEqStruct
import Derived.Test.YtdblodoojgonoaaWRepsOne
import Derived.Test.YtdblodoojgonoaaWInv
import Derived.Test.YtdblodoojgonoaaWInvWords
import Derived.Test.YtdblodoojgonoaaWGuard
import Derived.Test.YtdblodoojgonoaaWNEv
import Derived.Test.YtdblodoojgonoaaWMore
namespace Go.Proofs.Ytdblodoojgonoaa.Q
open Go.RowKit Go.Proofs.YtdblodoojgonoaaW.PrintWords Go.Proofs.YtdblodoojgonoaaW.PrintLast Go.Proofs.YtdblodoojgonoaaW.PrintMore
attribute [local go_sem] max2_int min2_int max_two min_two max_three min_three max_four min_four   -- for this text's walks alone
set_option linter.unusedVariables false
set_option linter.unusedSimpArgs false



def errW : Option Int → Value
  | none => .nilIface
  | some c => .iface 0 (.int .i64 c)
theorem errW_none : errW none = .nilIface := rfl
theorem errW_some (c : Int) : errW (some c) = .iface 0 (.int .i64 c) := rfl

theorem info5 : (Try.prog.info? 5).map (fun i => (i.zero, i.size, i.bytes)) = some (some (.int .u8 0), 1, 1) := by kernel_rfl
theorem info9 : (Try.prog.info? 9).map (fun i => (i.zero, i.size, i.bytes)) = some (some (.string ⟨#[]⟩), 1, 16) := by kernel_rfl
-- the values' own types

end Go.Proofs.Ytdblodoojgonoaa.Q
