/- The program's ParseAddress gives what the reference's gives, for any text; no condition. -/
import Derived.Test.YtmehlmhpgbjddaaDoorXFnExactParseAddress
import Derived.Test.YtmehlmhpgbjddaaDoorQ0
import Derived.Test.YtmehlmhpgbjddaaDoorQ24
set_option linter.unusedVariables false
set_option linter.unusedSimpArgs false
namespace Go.Proofs.YtmehlmhpgbjddaaDoor.Pure
open Go.RowKit Go.Proofs.YtmehlmhpgbjddaaDoor.Q Go.Proofs.YtmehlmhpgbjddaaDoorV.PrintWords Go.Proofs.YtmehlmhpgbjddaaDoorV.PrintLast Go.Proofs.YtmehlmhpgbjddaaDoorV.PrintMore
theorem FnExactParseAddress : laws_FnExactParseAddress.Pure := by
  intro s hs
  refine Ev.rounds (g := fun k => laws_FnExactParseAddress.f k s) ?_
  unfold laws_FnExactParseAddress.f
  by_cases h : (s.size : Int) > 1048576
  · exact ev_pos h (Ev.now _)
  have he := eqAddress_eq (⟨(outA (parseA (bytesOf s))).1, (outA (parseA (bytesOf s))).2.1, (outA (parseA (bytesOf s))).2.2.1⟩ : S31) ⟨(outA (parseA (bytesOf s))).1, (outA (parseA (bytesOf s))).2.1, (outA (parseA (bytesOf s))).2.2.1⟩
  refine ev_neg h (ev_bind (spec_ParseAddress_ev s (by omega)) (ev_bind (impl_ParseAddress_ev s (by omega)) (ev_bind1 he (ev_pos (by simp) ?_))))
  exact ev_neg (by simp) (Ev.now _)
end Go.Proofs.YtmehlmhpgbjddaaDoor.Pure
