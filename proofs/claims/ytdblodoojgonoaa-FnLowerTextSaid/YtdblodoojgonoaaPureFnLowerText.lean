/- Small letters stay in LowerText of a text that is drawn, and the two are the same in both directions; no condition. -/
import Derived.Test.YtdblodoojgonoaaK1
import Derived.Test.YtdblodoojgonoaaD1
import Derived.Test.YtdblodoojgonoaaQ17
set_option linter.unusedVariables false
set_option linter.unusedSimpArgs false
namespace Go.Proofs.Ytdblodoojgonoaa.Pure
open Go.RowKit Go.Proofs.Ytdblodoojgonoaa.Q Go.Proofs.YtdblodoojgonoaaW.PrintWords Go.Proofs.YtdblodoojgonoaaW.PrintLast Go.Proofs.YtdblodoojgonoaaW.PrintMore
theorem FnLowerText : laws_FnLowerText.Pure := by
  intro l _ _ hw
  refine Ev.rounds (g := fun k => laws_FnLowerText.f k l) ?_
  obtain ⟨s, hs, hz⟩ := DrawLowerText_some l hw
  have hl := lowT_size s
  unfold laws_FnLowerText.f
  by_cases h : (l.length : Int) > 1048576
  · exact ev_pos h (Ev.now _)
  refine ev_neg h (ev_bind hs (ev_bind1 (impl_LowerText_eq s (by omega)) (ev_bind1 (spec_LowerText_eq s (by omega)) (ev_pos rfl ?_))))
  refine ev_bind1 (impl_LowerText_eq (lowT s) (by omega)) (ev_pos (by rw [lowT_lowT]) (ev_pos (by omega) ?_))
  refine ev_bind1 (impl_SameText_eq s (lowT s) (by omega) (by omega)) (ev_pos (by rw [lowT_lowT]; simp) ?_)
  refine ev_bind1 (impl_SameText_eq (lowT s) s (by omega) (by omega)) ?_
  rw [lowT_lowT, decide_eq_true rfl]
  exact Ev.now _
end Go.Proofs.Ytdblodoojgonoaa.Pure
