/- Fields that are dropped are not found, not counted, and dropped once; no condition. -/
import Derived.Test.YtiobaiakbbboaaaK3g
import Derived.Test.YtiobaiakbbboaaaD3c
import Derived.Test.YtiobaiakbbboaaaQ18
set_option linter.unusedVariables false
set_option linter.unusedSimpArgs false
namespace Go.Proofs.Ytiobaiakbbboaaa.Pure
open Go.RowKit Go.Proofs.Ytiobaiakbbboaaa.Q Go.Proofs.YtiobaiakbbboaaaV.PrintWords Go.Proofs.YtiobaiakbbboaaaV.PrintLast Go.Proofs.YtiobaiakbbboaaaV.PrintMore
theorem FnDropField : laws_FnDropField.Pure := by
  intro l _ _ hw
  refine Ev.rounds (g := fun k => laws_FnDropField.f k l) ?_
  obtain ⟨r, a, hs, h1, h2, h3⟩ := DrawDropField_some l hw
  have hsm : smF r := fun x hx => by have := (h2 x hx).1; omega
  have hsd := smF_drp hsm a
  have hd := drp_le a r
  unfold laws_FnDropField.f
  by_cases h : (l.length : Int) > 1048576
  · exact ev_pos h (Ev.now _)
  refine ev_neg h (ev_bind hs (ev_bind1 (impl_DropField_eq r a (by omega) hsm (by omega)) (ev_bind1 (impl_CountField_eq r a (by omega) hsm (by omega)) (ev_bind (spec_DropField_ev r a (by omega) hsm (by omega)) (ev_bind (impl_FieldsSame_ev _ _ (by omega)) (ev_pos (by simp) (ev_bind (spec_CountField_ev r a (by omega) hsm (by omega)) (ev_succ ?_))))))))
  simp only [bne_self_eq_false, laws_FnDropField.j0, Bool.false_eq_true, if_false]
  refine ev_bind1 (impl_GetField_eq _ a hsd (by omega)) (ev_neg (by rw [getF_drp]; simp) (ev_pos ?_ ?_))
  · unfold cntF
    rw [wrap_id (by omega) (by omega)]
    omega
  refine ev_bind1 (impl_DropField_eq _ a (by omega) hsd (by omega)) ?_
  rw [drp_drp]
  refine ev_bind (impl_FieldsSame_ev _ _ (by omega)) (ev_pos (by simp) (ev_bind1 (impl_CountField_eq _ a (by omega) hsd (by omega)) (ev_of ?_)))
  unfold cntF
  rw [drp_drp, Int.sub_self]
  rfl
end Go.Proofs.Ytiobaiakbbboaaa.Pure
