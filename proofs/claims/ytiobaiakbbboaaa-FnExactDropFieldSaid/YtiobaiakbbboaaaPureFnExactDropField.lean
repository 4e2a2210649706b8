/- The program's DropField gives what the reference's gives, for any list of fields and any name, in memory of its own; no condition. -/
import Derived.Test.YtiobaiakbbboaaaK3g
import Derived.Test.YtiobaiakbbboaaaK3L
import Derived.Test.YtiobaiakbbboaaaK3M
import Derived.Test.YtiobaiakbbboaaaRO
import Derived.Test.YtiobaiakbbboaaaQ0
import Derived.Test.YtiobaiakbbboaaaQ21
set_option linter.unusedVariables false
set_option linter.unusedSimpArgs false
namespace Go.Proofs.Ytiobaiakbbboaaa.Pure
open Go.RowKit Go.Proofs.Ytiobaiakbbboaaa.Q Go.Proofs.YtiobaiakbbboaaaV.PrintWords Go.Proofs.YtiobaiakbbboaaaV.PrintLast Go.Proofs.YtiobaiakbbboaaaV.PrintMore
theorem FnExactDropField (l : List S62) (a : ByteArray) (hl : l.length ≤ 9223372036854775807) (hx : ∀ x ∈ l, x.f0.size ≤ 9223372036854775807 ∧ x.f1.size ≤ 9223372036854775807) (ha : a.size ≤ 140737488351232) : ∃ k, laws_FnExactDropField.f k l a = some true := by
  refine Ev.rounds (g := fun k => laws_FnExactDropField.f k l a) ?_
  unfold laws_FnExactDropField.f
  by_cases h : (a.size : Int) > 1048576
  · exact ev_pos h (Ev.now _)
  obtain ⟨r, e1, h1, h2⟩ := szFieldS_ev l 1048576 (by omega) (by omega) hl hx
  refine ev_neg h (ev_bind e1 ?_)
  by_cases h3 : r < 0
  · exact ev_pos h3 (Ev.now _)
  obtain ⟨g1, g2⟩ := h2 (by omega)
  have hs : smF (l.map toF) := by
    intro x hx
    obtain ⟨y, hy, rfl⟩ := List.mem_map.1 hx
    have := g2 y hy
    show y.f0.size < _
    omega
  have hn : (l.map toF).length ≤ 1048576 := by simp; omega
  have hd := drp_le a (l.map toF)
  obtain ⟨m1, k1, k2⟩ := markF_held (l.map toF) (by omega)
  obtain ⟨m2, k3, k4⟩ := markF_held (drp a (l.map toF)) (by omega)
  refine ev_neg h3 (ev_bind (toFieldS_ev l (by omega)) (ev_bind (spec_DropField_ev _ a (by omega) hs (by omega)) (ev_bind (toFieldS_ev l (by omega)) (ev_bind1 (impl_DropField_eq _ a (by omega) hs (by omega)) (ev_bind (eqFieldS_ev _ _ (by omega)) (ev_pos (by simp) (ev_bind (toFieldS_ev l (by omega)) (ev_bind (eqFieldS_ev _ _ (by omega)) (ev_pos (by simp) (ev_bind k1 (ev_neg (show ¬ (1 + 2 * ((l.map toF).length : Int) < 0) by omega) (ev_bind (eqFieldS_ev _ _ (by omega)) (ev_succ ?_)))))))))))))
  simp only [decide_true, Bool.not_true, laws_FnExactDropField.j0, Bool.false_eq_true, if_false]
  refine ev_bind k3 (ev_bind k4 (ev_neg (by omega) (ev_pos rfl (ev_bind (toFieldS_ev l (by omega)) (ev_bind1 (impl_DropField_eq _ a (by omega) hs (by omega)) (ev_bind (eqFieldS_ev _ _ (by omega)) (ev_pos (by simp) ?_)))))))
  exact ev_bind k4 (ev_neg (by omega) (ev_pos rfl (Ev.now _)))
end Go.Proofs.Ytiobaiakbbboaaa.Pure
