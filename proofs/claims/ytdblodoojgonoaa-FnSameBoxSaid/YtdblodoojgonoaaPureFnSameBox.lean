/- Mailboxes that are drawn are the same in both directions, whatever their names; no condition. -/
import Derived.Test.YtdblodoojgonoaaK2s
import Derived.Test.YtdblodoojgonoaaD2s
import Derived.Test.YtdblodoojgonoaaQ18
set_option linter.unusedVariables false
set_option linter.unusedSimpArgs false
namespace Go.Proofs.Ytdblodoojgonoaa.Pure
open Go.RowKit Go.Proofs.Ytdblodoojgonoaa.Q Go.Proofs.YtdblodoojgonoaaW.PrintWords Go.Proofs.YtdblodoojgonoaaW.PrintLast Go.Proofs.YtdblodoojgonoaaW.PrintMore
theorem FnSameBox : laws_FnSameBox.Pure := by
  intro l _ _ hw
  refine Ev.rounds (g := fun k => laws_FnSameBox.f k l) ?_
  obtain ⟨a, b, c, d, e, f, hs, h1, h2, h3, h4, h5, h6⟩ := DrawSameBox_some l hw
  unfold laws_FnSameBox.f
  by_cases h : (l.length : Int) > 1048576
  · exact ev_pos h (Ev.now _)
  refine ev_neg h (ev_bind hs (ev_bind1 (impl_SameBox_eq a b c d e f (by omega) (by omega)) (ev_bind1 (spec_SameBox_eq a b c d e f (by omega) (by omega)) (ev_pos (by simp) ?_))))
  refine ev_bind1 (impl_SameBox_eq d e f a b c (by omega) (by omega)) (ev_pos ?_ ?_)
  · rw [beq_iff_eq]
    exact decide_eq_decide.2 ⟨fun h => ⟨h.1.symm, h.2.symm⟩, fun h => ⟨h.1.symm, h.2.symm⟩⟩
  refine ev_bind1 (impl_SameBox_eq _ b c d e f (by omega) (by omega)) (ev_pos (by simp) ?_)
  refine ev_bind1 (impl_SameBox_eq a b c _ b c (by omega) (by omega)) ?_
  rw [decide_eq_true ⟨rfl, rfl⟩]
  exact Ev.now _
end Go.Proofs.Ytdblodoojgonoaa.Pure
