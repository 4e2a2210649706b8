/- The program's SameText answers what the reference's answers, at every two strings; no condition. -/
import Derived.Test.YtdblodoojgonoaaK1
import Derived.Test.YtdblodoojgonoaaQ14
set_option linter.unusedVariables false
set_option linter.unusedSimpArgs false
namespace Go.Proofs.Ytdblodoojgonoaa.Pure
open Go.RowKit Go.Proofs.Ytdblodoojgonoaa.Q Go.Proofs.YtdblodoojgonoaaW.PrintWords Go.Proofs.YtdblodoojgonoaaW.PrintLast Go.Proofs.YtdblodoojgonoaaW.PrintMore
theorem FnExactSameText : laws_FnExactSameText.Pure := by
  intro s t _ _
  unfold laws_FnExactSameText.f
  by_cases h : (s.size : Int) > 1048576
  · rw [if_pos h]
  · by_cases h2 : (t.size : Int) > 1048576
    · rw [if_neg h, if_pos h2]
    · rw [if_neg h, if_neg h2, spec_SameText_eq s t (by omega) (by omega), Option.bind_some, impl_SameText_eq s t (by omega) (by omega), Option.bind_some, if_neg (by simp)]
end Go.Proofs.Ytdblodoojgonoaa.Pure
