/- The program's FieldsSame gives what the reference's gives, for any two lists of fields, and leaves them as they were; no condition. -/
import Derived.Test.YtiobaiakbbboaaaK3L
import Derived.Test.YtiobaiakbbboaaaRO
import Derived.Test.YtiobaiakbbboaaaQ0
import Derived.Test.YtiobaiakbbboaaaQ23
set_option linter.unusedVariables false
set_option linter.unusedSimpArgs false
namespace Go.Proofs.Ytiobaiakbbboaaa.Pure
open Go.RowKit Go.Proofs.Ytiobaiakbbboaaa.Q Go.Proofs.YtiobaiakbbboaaaV.PrintWords Go.Proofs.YtiobaiakbbboaaaV.PrintLast Go.Proofs.YtiobaiakbbboaaaV.PrintMore
theorem FnExactFieldsSame (a b : List S62) (ha : a.length ≤ 9223372036854775807) (hx : ∀ x ∈ a, x.f0.size ≤ 9223372036854775807 ∧ x.f1.size ≤ 9223372036854775807) (hb : b.length ≤ 9223372036854775807) (hy : ∀ x ∈ b, x.f0.size ≤ 9223372036854775807 ∧ x.f1.size ≤ 9223372036854775807) : ∃ k, laws_FnExactFieldsSame.f k a b = some true := by
  refine Ev.rounds (g := fun k => laws_FnExactFieldsSame.f k a b) ?_
  unfold laws_FnExactFieldsSame.f
  obtain ⟨r, e1, h1, h2⟩ := szFieldS_ev a 1048576 (by omega) (by omega) ha hx
  refine ev_bind e1 ?_
  by_cases h3 : r < 0
  · exact ev_pos h3 (Ev.now _)
  obtain ⟨r', e2, h4, h5⟩ := szFieldS_ev b r (by omega) (by omega) hb hy
  refine ev_neg h3 (ev_bind e2 ?_)
  by_cases h6 : r' < 0
  · exact ev_pos h6 (Ev.now _)
  have g1 := (h2 (by omega)).1
  have g2 := (h5 (by omega)).1
  refine ev_neg h6 (ev_bind (toFieldS_ev a (by omega)) (ev_bind (toFieldS_ev b (by omega)) (ev_bind (spec_FieldsSame_ev _ _ (by simp; omega)) (ev_bind (toFieldS_ev a (by omega)) (ev_bind (toFieldS_ev b (by omega)) (ev_bind (impl_FieldsSame_ev _ _ (by simp; omega)) (ev_neg (by simp) ?_)))))))
  exact ev_bind (toFieldS_ev a (by omega)) (ev_bind (eqFieldS_ev _ _ (by simp; omega)) (ev_pos (by simp) (ev_bind (toFieldS_ev b (by omega)) (ev_bind (eqFieldS_ev _ _ (by simp; omega)) (ev_pos (by simp) (Ev.now _))))))
end Go.Proofs.Ytiobaiakbbboaaa.Pure
