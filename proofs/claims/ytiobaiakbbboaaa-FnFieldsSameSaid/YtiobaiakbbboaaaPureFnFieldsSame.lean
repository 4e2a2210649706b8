/- Lists of fields that are drawn are the same just where the reference says so, in both directions; no condition. -/
import Derived.Test.YtiobaiakbbboaaaD3
import Derived.Test.YtiobaiakbbboaaaQ25
set_option linter.unusedVariables false
set_option linter.unusedSimpArgs false
namespace Go.Proofs.Ytiobaiakbbboaaa.Pure
open Go.RowKit Go.Proofs.Ytiobaiakbbboaaa.Q Go.Proofs.YtiobaiakbbboaaaV.PrintWords Go.Proofs.YtiobaiakbbboaaaV.PrintLast Go.Proofs.YtiobaiakbbboaaaV.PrintMore
theorem FnFieldsSame : laws_FnFieldsSame.Pure := by
  intro l _ _ hw
  refine Ev.rounds (g := fun k => laws_FnFieldsSame.f k l) ?_
  obtain ⟨a, c, hs, h1, h2⟩ := DrawFieldsSame_some l hw
  unfold laws_FnFieldsSame.f
  by_cases h : (l.length : Int) > 1048576
  · exact ev_pos h (Ev.now _)
  refine ev_neg h (ev_bind hs (ev_bind (impl_FieldsSame_ev a c (by omega)) (ev_bind (spec_FieldsSame_ev a c (by omega)) (ev_pos (by simp) ?_))))
  refine ev_bind (impl_FieldsSame_ev c a (by omega)) (ev_pos ?_ ?_)
  · rw [beq_iff_eq]
    exact decide_eq_decide.2 ⟨fun h => h.symm, fun h => h.symm⟩
  refine ev_bind (impl_FieldsSame_ev a a (by omega)) (ev_pos (by simp) ?_)
  by_cases he : a = c
  · subst he
    exact ev_pos (by simp) (ev_of (by simp))
  · exact ev_neg (by simp [he]) (Ev.now _)
end Go.Proofs.Ytiobaiakbbboaaa.Pure
