/- Names are found however their letters are written, just where one is counted; no condition. -/
import Derived.Test.YtiobaiakbbboaaaK3g
import Derived.Test.YtiobaiakbbboaaaD3c
import Derived.Test.YtiobaiakbbboaaaQ26
set_option linter.unusedVariables false
set_option linter.unusedSimpArgs false
namespace Go.Proofs.Ytiobaiakbbboaaa.Pure
open Go.RowKit Go.Proofs.Ytiobaiakbbboaaa.Q Go.Proofs.YtiobaiakbbboaaaV.PrintWords Go.Proofs.YtiobaiakbbboaaaV.PrintLast Go.Proofs.YtiobaiakbbboaaaV.PrintMore
theorem FnGetField : laws_FnGetField.Pure := by
  intro l _ _ hw
  refine Ev.rounds (g := fun k => laws_FnGetField.f k l) ?_
  obtain ⟨r, a, hs, h1, h2, h3⟩ := DrawGetField_some l hw
  have hsm : smF r := fun x hx => by have := (h2 x hx).1; omega
  unfold laws_FnGetField.f
  by_cases h : (l.length : Int) > 1048576
  · exact ev_pos h (Ev.now _)
  refine ev_neg h (ev_bind hs (ev_bind1 (impl_GetField_eq r a hsm (by omega)) (ev_bind (spec_GetField_ev r a (by omega) hsm (by omega)) (ev_pos rfl (ev_succ ?_)))))
  simp only [bne_self_eq_false, laws_FnGetField.j0, Bool.false_eq_true, if_false]
  have hlow : (lowT a).size < 140737488355328 := by rw [lowT_size]; omega
  refine ev_bind1 (impl_LowerText_eq a (by omega)) (ev_bind1 (impl_GetField_eq r (lowT a) hsm hlow) ?_)
  rw [getF_low (lowT a) a (lowT_lowT a)]
  refine ev_pos rfl (ev_pos (by simp) (ev_bind1 (impl_CountField_eq r a (by omega) hsm (by omega)) (ev_of ?_)))
  have h4 := getF_none a r
  have h5 := drp_le a r
  congr 1
  rw [beq_iff_eq]
  unfold cntF
  cases hg : (getF a r).2 with
  | true => exact (decide_eq_true (by have := h4.1 hg; omega)).symm
  | false => exact (decide_eq_false (fun e => by have := h4.2 (by omega); rw [hg] at this; cases this)).symm
end Go.Proofs.Ytiobaiakbbboaaa.Pure
