/- The program's LowerText answers what the reference's answers, at every string; no condition. -/
import Derived.Test.YtdblodoojgonoaaK1
import Derived.Test.YtdblodoojgonoaaQ12
set_option linter.unusedVariables false
set_option linter.unusedSimpArgs false
namespace Go.Proofs.Ytdblodoojgonoaa.Pure
open Go.RowKit Go.Proofs.Ytdblodoojgonoaa.Q Go.Proofs.YtdblodoojgonoaaW.PrintWords Go.Proofs.YtdblodoojgonoaaW.PrintLast Go.Proofs.YtdblodoojgonoaaW.PrintMore
theorem FnExactLowerText : laws_FnExactLowerText.Pure := by
  intro s _
  unfold laws_FnExactLowerText.f
  by_cases h : (s.size : Int) > 1048576
  · rw [if_pos h]
  · rw [if_neg h, spec_LowerText_eq s (by omega), Option.bind_some, impl_LowerText_eq s (by omega), Option.bind_some, if_pos rfl]
end Go.Proofs.Ytdblodoojgonoaa.Pure
