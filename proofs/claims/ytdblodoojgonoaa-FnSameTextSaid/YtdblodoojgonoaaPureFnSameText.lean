/- Two texts that are drawn are the same exactly if their small letters are, in both directions; no condition. -/
import Derived.Test.YtdblodoojgonoaaK1
import Derived.Test.YtdblodoojgonoaaD1s
import Derived.Test.YtdblodoojgonoaaQ19
set_option linter.unusedVariables false
set_option linter.unusedSimpArgs false
namespace Go.Proofs.Ytdblodoojgonoaa.Pure
open Go.RowKit Go.Proofs.Ytdblodoojgonoaa.Q Go.Proofs.YtdblodoojgonoaaW.PrintWords Go.Proofs.YtdblodoojgonoaaW.PrintLast Go.Proofs.YtdblodoojgonoaaW.PrintMore
theorem FnSameText : laws_FnSameText.Pure := by
  intro l _ _ hw
  refine Ev.rounds (g := fun k => laws_FnSameText.f k l) ?_
  obtain ⟨s, t, hs, h1, h2⟩ := DrawSameText_some l hw
  unfold laws_FnSameText.f
  by_cases h : (l.length : Int) > 1048576
  · exact ev_pos h (Ev.now _)
  refine ev_neg h (ev_bind hs (ev_bind1 (impl_SameText_eq s t (by omega) (by omega)) (ev_bind1 (spec_SameText_eq s t (by omega) (by omega)) (ev_pos (by simp) ?_))))
  refine ev_bind1 (impl_SameText_eq t s (by omega) (by omega)) (ev_pos (by simp [eq_comm]) ?_)
  refine ev_bind1 (impl_LowerText_eq s (by omega)) (ev_bind1 (impl_LowerText_eq t (by omega)) (ev_pos (by rw [toList_beq]; simp) ?_))
  refine ev_bind1 (impl_SameText_eq s s (by omega) (by omega)) (ev_pos (by simp) ?_)
  by_cases e : lowT s = lowT t
  · refine ev_pos (by simp [e]) (ev_of ?_)
    have : s.size = t.size := by rw [← lowT_size s, e, lowT_size]
    simp [this]
  · exact ev_neg (by simp [e]) (Ev.now _)
end Go.Proofs.Ytdblodoojgonoaa.Pure
