/- The program's JoinWords gives what the reference's gives, for any list of strings, and leaves the list as it was; no condition. -/
import Derived.Test.YteibhbhlmnnfjaaK1j
import Derived.Test.YteibhbhlmnnfjaaKL
import Derived.Test.YteibhbhlmnnfjaaRO
import Derived.Test.YteibhbhlmnnfjaaQ10
import Derived.Test.YteibhbhlmnnfjaaQ8
set_option linter.unusedVariables false
set_option linter.unusedSimpArgs false
namespace Go.Proofs.Yteibhbhlmnnfjaa.Pure
open Go.RowKit Go.Proofs.Yteibhbhlmnnfjaa.Q Go.Proofs.YteibhbhlmnnfjaaW.PrintWords Go.Proofs.YteibhbhlmnnfjaaW.PrintLast Go.Proofs.YteibhbhlmnnfjaaW.PrintMore
theorem FnExactJoinWords (l : List ByteArray) (hl : l.length ≤ 9223372036854775807) (hx : ∀ x ∈ l, x.size ≤ 9223372036854775807) : ∃ k, laws_FnExactJoinWords.f k l = some true := by
  refine Ev.rounds (g := fun k => laws_FnExactJoinWords.f k l) ?_
  unfold laws_FnExactJoinWords.f
  by_cases h : l.length ≤ 1048576
  · obtain ⟨r, e1, h1, h2⟩ := szStringS_ev l 1048576 (by omega) (by omega) (by omega) hx
    refine ev_bind e1 ?_
    by_cases h3 : r < 0
    · exact ev_pos h3 (Ev.now _)
    have h4 := (h2 (by omega)).2
    refine ev_neg h3 (ev_bind (toStringS_ev l (by omega)) (ev_bind (spec_JoinWords_ev l (by omega) (fun x hx => by have := h4 x hx; omega)) (ev_bind (toStringS_ev l (by omega)) (ev_bind (impl_JoinWords_ev l (by omega) (fun x hx => by have := h4 x hx; omega)) (ev_pos rfl (ev_bind (toStringS_ev l (by omega)) (ev_bind (eqStringS_ev l l (by omega)) (ev_pos (by simp) (Ev.now _)))))))))
  · have e1 : Ev (fun k => laws_szStringS.f k l 1048576) (-1) := by
      unfold laws_szStringS.f
      rw [wrap_id (x := 1048576 - (l.length : Int)) (by omega) (by omega)]
      exact ev_pos (by omega) (Ev.now _)
    exact ev_bind e1 (ev_pos (by omega) (Ev.now _))
end Go.Proofs.Yteibhbhlmnnfjaa.Pure
