/- The program's AtomValid answers what the reference's answers, at every string; no condition. -/
import Derived.Test.YtdblodoojgonoaaK1
import Derived.Test.YtdblodoojgonoaaQ10
set_option linter.unusedVariables false
set_option linter.unusedSimpArgs false
namespace Go.Proofs.Ytdblodoojgonoaa.Pure
open Go.RowKit Go.Proofs.Ytdblodoojgonoaa.Q Go.Proofs.YtdblodoojgonoaaW.PrintWords Go.Proofs.YtdblodoojgonoaaW.PrintLast Go.Proofs.YtdblodoojgonoaaW.PrintMore
theorem FnExactAtomValid : laws_FnExactAtomValid.Pure := by
  intro s _
  refine Ev.rounds (g := fun k => laws_FnExactAtomValid.f k s) ?_
  unfold laws_FnExactAtomValid.f
  by_cases h : (s.size : Int) > 1048576
  · exact ev_pos h (Ev.now _)
  · refine ev_neg h (ev_bind (spec_AtomValid_ev s (by omega)) (ev_bind1 (impl_AtomValid_eq s) ?_))
    exact ev_neg (by simp) (Ev.now _)
end Go.Proofs.Ytdblodoojgonoaa.Pure
