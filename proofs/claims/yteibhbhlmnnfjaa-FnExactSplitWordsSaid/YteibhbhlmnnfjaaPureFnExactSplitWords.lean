/- The program's SplitWords answers what the reference's answers, at every string, in memory of its own; no condition. -/
import Derived.Test.YteibhbhlmnnfjaaK1j
import Derived.Test.YteibhbhlmnnfjaaKL
import Derived.Test.YteibhbhlmnnfjaaQ12
set_option linter.unusedVariables false
set_option linter.unusedSimpArgs false
namespace Go.Proofs.Yteibhbhlmnnfjaa.Pure
open Go.RowKit Go.Proofs.Yteibhbhlmnnfjaa.Q Go.Proofs.YteibhbhlmnnfjaaW.PrintWords Go.Proofs.YteibhbhlmnnfjaaW.PrintLast Go.Proofs.YteibhbhlmnnfjaaW.PrintMore
theorem FnExactSplitWords : laws_FnExactSplitWords.Pure := by
  intro s _
  refine Ev.rounds (g := fun k => laws_FnExactSplitWords.f k s) ?_
  unfold laws_FnExactSplitWords.f
  by_cases h : (s.size : Int) > 1048576
  · exact ev_pos h (Ev.now _)
  have hlen : (spB s).1.length ≤ 1048576 := by
    unfold spB
    rw [List.length_map]
    exact Nat.le_trans (splitW_len (bytesOf s)) (by rw [L_len]; omega)
  refine ev_neg h (ev_bind (spec_SplitWords_ev s (by omega)) (ev_bind (impl_SplitWords_ev s (by omega)) (ev_bind (eqStringS_ev _ _ (by omega)) (ev_pos (by simp) (ev_succ ?_)))))
  simp only [bne_self_eq_false, laws_FnExactSplitWords.j0, Bool.false_eq_true, if_false]
  obtain ⟨l', h1, h2⟩ := markS_held (spB s).1 (by omega)
  refine ev_bind h1 (ev_bind h2 (ev_neg (by omega) (ev_pos rfl (ev_bind (impl_SplitWords_ev s (by omega)) (ev_bind (eqStringS_ev _ _ (by omega)) (ev_pos (by simp) (ev_succ ?_)))))))
  simp only [bne_self_eq_false, laws_FnExactSplitWords.j1, Bool.false_eq_true, if_false]
  exact ev_bind h2 (ev_neg (by omega) (ev_pos rfl (Ev.now _)))
end Go.Proofs.Yteibhbhlmnnfjaa.Pure
