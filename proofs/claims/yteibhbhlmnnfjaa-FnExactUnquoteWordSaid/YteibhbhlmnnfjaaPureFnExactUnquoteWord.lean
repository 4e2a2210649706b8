/- The program's UnquoteWord answers what the reference's answers, at every string; no condition. -/
import Derived.Test.YteibhbhlmnnfjaaK1w
import Derived.Test.YteibhbhlmnnfjaaQ13
import Derived.Test.YteibhbhlmnnfjaaQ2
set_option linter.unusedVariables false
set_option linter.unusedSimpArgs false
namespace Go.Proofs.Yteibhbhlmnnfjaa.Pure
open Go.RowKit Go.Proofs.Yteibhbhlmnnfjaa.Q Go.Proofs.YteibhbhlmnnfjaaW.PrintWords Go.Proofs.YteibhbhlmnnfjaaW.PrintLast Go.Proofs.YteibhbhlmnnfjaaW.PrintMore
theorem unq_long (s : ByteArray) (h : 402 < s.size) (hs : s.size ≤ 1048576) : Ev (fun k => impl_UnquoteWord.f k s) (uB s) := impl_UnquoteWord_ev s hs
theorem FnExactUnquoteWord : laws_FnExactUnquoteWord.Pure := by
  intro s _
  refine Ev.rounds (g := fun k => laws_FnExactUnquoteWord.f k s) ?_
  unfold laws_FnExactUnquoteWord.f
  by_cases h : (s.size : Int) > 1048576
  · exact ev_pos h (Ev.now _)
  · exact ev_neg h (ev_bind (spec_UnquoteWord_ev s (by omega)) (ev_bind (impl_UnquoteWord_ev s (by omega)) (ev_pos rfl (ev_neg (by simp) (Ev.now _)))))
end Go.Proofs.Yteibhbhlmnnfjaa.Pure
