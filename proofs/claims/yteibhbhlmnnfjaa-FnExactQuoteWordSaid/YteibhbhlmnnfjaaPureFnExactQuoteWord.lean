/- The program's QuoteWord answers what the reference's answers, at every string; no condition. -/
import Derived.Test.YteibhbhlmnnfjaaK1w
import Derived.Test.YteibhbhlmnnfjaaQ11
set_option linter.unusedVariables false
set_option linter.unusedSimpArgs false
namespace Go.Proofs.Yteibhbhlmnnfjaa.Pure
open Go.RowKit Go.Proofs.Yteibhbhlmnnfjaa.Q Go.Proofs.YteibhbhlmnnfjaaW.PrintWords Go.Proofs.YteibhbhlmnnfjaaW.PrintLast Go.Proofs.YteibhbhlmnnfjaaW.PrintMore
theorem FnExactQuoteWord : laws_FnExactQuoteWord.Pure := by
  intro s _
  refine Ev.rounds (g := fun k => laws_FnExactQuoteWord.f k s) ?_
  unfold laws_FnExactQuoteWord.f
  by_cases h : (s.size : Int) > 1048576
  · exact ev_pos h (Ev.now _)
  · exact ev_neg h (ev_bind (spec_QuoteWord_ev s (by omega)) (ev_bind (impl_QuoteWord_ev s (by omega)) (ev_pos rfl (Ev.now _))))
end Go.Proofs.Yteibhbhlmnnfjaa.Pure
