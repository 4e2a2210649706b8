/- The program's ParseList gives what the reference's gives, for any text, in memory of its own; no condition. -/
import Derived.Test.YtmehlmhpgbjddaaDoorXFnExactParseList
import Derived.Test.YtmehlmhpgbjddaaDoorQ20
set_option linter.unusedVariables false
set_option linter.unusedSimpArgs false
namespace Go.Proofs.YtmehlmhpgbjddaaDoor.Pure
open Go.RowKit Go.Proofs.YtmehlmhpgbjddaaDoor.Q Go.Proofs.YtmehlmhpgbjddaaDoorV.PrintWords Go.Proofs.YtmehlmhpgbjddaaDoorV.PrintLast Go.Proofs.YtmehlmhpgbjddaaDoorV.PrintMore
theorem FnExactParseList : laws_FnExactParseList.Pure := by
  intro s hs
  refine Ev.rounds (g := fun k => laws_FnExactParseList.f k s) ?_
  unfold laws_FnExactParseList.f
  by_cases h : (s.size : Int) > 1048576
  · exact ev_pos h (Ev.now _)
  obtain ⟨hl, _⟩ := plB_ok (s := s) (l := (plB s).1) (b := (plB s).2) rfl
  obtain ⟨m, k3, k4⟩ := markA_held (plB s).1 (by omega)
  refine ev_neg h (ev_bind (spec_ParseList_ev s (by omega)) (ev_bind (impl_ParseList_ev s (by omega)) (ev_bind (eqAddressS_ev _ _ (by omega)) (ev_pos (by simp) (ev_succ ?_)))))
  simp only [bne_self_eq_false, laws_FnExactParseList.j0, Bool.false_eq_true, if_false]
  refine ev_bind k3 (ev_bind k4 (ev_neg (by omega) (ev_pos rfl (ev_bind (impl_ParseList_ev s (by omega)) (ev_bind (eqAddressS_ev _ _ (by omega)) (ev_pos (by simp) (ev_succ ?_)))))))
  simp only [bne_self_eq_false, laws_FnExactParseList.j1, Bool.false_eq_true, if_false]
  exact ev_bind k4 (ev_neg (by omega) (ev_pos rfl (Ev.now _)))
end Go.Proofs.YtmehlmhpgbjddaaDoor.Pure
