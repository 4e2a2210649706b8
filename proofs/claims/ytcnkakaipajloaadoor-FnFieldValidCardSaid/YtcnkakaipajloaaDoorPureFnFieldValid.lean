/- A field is valid exactly if it has lines, and its name is one with other capital letters; no condition. -/
import Derived.Test.YtcnkakaipajloaaDoorXFnFieldValid
import Derived.Test.YtcnkakaipajloaaDoorQ23
set_option linter.unusedVariables false
set_option linter.unusedSimpArgs false
namespace Go.Proofs.YtcnkakaipajloaaDoor.Pure
open Go.RowKit Go.Proofs.YtcnkakaipajloaaDoor.Q Go.Proofs.YtcnkakaipajloaaDoorV.PrintWords Go.Proofs.YtcnkakaipajloaaDoorV.PrintLast Go.Proofs.YtcnkakaipajloaaDoorV.PrintMore
theorem FnFieldValid : laws_FnFieldValid.Pure := by
  intro l _ _ hw
  refine Ev.rounds (g := fun k => laws_FnFieldValid.f k l) ?_
  obtain ⟨a, b, hs, h1, h2⟩ := DrawFieldValid_some l hw
  unfold laws_FnFieldValid.f
  by_cases h : (l.length : Int) > 1048576
  · exact ev_pos h (Ev.now _)
  have hl := lowT_size a
  refine ev_neg h (ev_bind hs (ev_bind (impl_FieldValid_ev a b (by omega) (by omega)) (ev_bind1 (impl_LowerText_eq a (by omega)) (ev_bind (spec_FieldValid_ev a b (by omega) (by omega)) ?_))))
  have e : fieldOk (bytesOf (lowT a)) (bytesOf b) = fieldOk (bytesOf a) (bytesOf b) := by
    unfold fieldOk
    rw [L_lowT]
    exact congrArg (· && _) (nameOk_lo (bytesOf a))
  have hg := impl_FieldValid_ev (lowT a) b (by omega) (by omega)
  rw [e] at hg
  refine ev_pos (by simp) (ev_bind (impl_FoldField_ev a b (by omega) (by omega)) (ev_pos ?_ (ev_bind hg (ev_of ?_))))
  · rw [beq_iff_eq]
    have := foldB_pos a b
    cases hf : fieldOk (bytesOf a) (bytesOf b) with
    | true => exact (decide_eq_true (by have := this.1 hf; omega)).symm
    | false => exact (decide_eq_false (fun q => by have := this.2 (by omega); rw [hf] at this; cases this)).symm
  · simp
end Go.Proofs.YtcnkakaipajloaaDoor.Pure
