/- What the printed SameBox comes to; no condition. -/
import Derived.Test.YtcnkakaipajloaaDoorK1low
import Derived.Test.YtcnkakaipajloaaDoorQ6
set_option linter.unusedVariables false
set_option linter.unusedSimpArgs false
namespace Go.Proofs.YtcnkakaipajloaaDoor.Q
open Go.RowKit Go.Proofs.YtcnkakaipajloaaDoorV.PrintWords Go.Proofs.YtcnkakaipajloaaDoorV.PrintLast Go.Proofs.YtcnkakaipajloaaDoorV.PrintMore
theorem impl_SameBox_eq (a b c d e f : ByteArray) (hc : c.size < 140737488355328) (hf : f.size < 140737488355328) : impl_SameBox.f a b c d e f = some (decide (b = e ∧ lowT c = lowT f)) := by
  unfold impl_SameBox.f
  by_cases h : b = e
  · rw [if_pos (toList_iff.2 h), impl_SameText_eq c f hc hf, Option.bind_some]
    exact congrArg some (decide_eq_decide.2 (by simp [h]))
  · rw [if_neg (fun e => h (toList_iff.1 e))]
    exact congrArg some (decide_eq_false (fun e => h e.1)).symm

end Go.Proofs.YtcnkakaipajloaaDoor.Q
