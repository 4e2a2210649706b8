/- What is repeated twice is left once; no condition. -/
import Derived.Test.YtiobaiakbbboaaaK2L
import Derived.Test.YtiobaiakbbboaaaD2d
import Derived.Test.YtiobaiakbbboaaaQ28
set_option linter.unusedVariables false
set_option linter.unusedSimpArgs false
namespace Go.Proofs.Ytiobaiakbbboaaa.Pure
open Go.RowKit Go.Proofs.Ytiobaiakbbboaaa.Q Go.Proofs.YtiobaiakbbboaaaV.PrintWords Go.Proofs.YtiobaiakbbboaaaV.PrintLast Go.Proofs.YtiobaiakbbboaaaV.PrintMore
theorem FnRepeatTwice : laws_FnRepeatTwice.Pure := by
  intro l _ _ hw
  refine Ev.rounds (g := fun k => laws_FnRepeatTwice.f k l) ?_
  obtain ⟨r, hs, h1, h2⟩ := DrawDropRepeated_some l hw
  have hsm : smA r := fun x hx => by have := (h2 x hx).2.2; omega
  have hs2 : smA (r ++ r) := fun x hx => by
    rcases List.mem_append.1 hx with h | h
    · exact hsm x h
    · exact hsm x h
  have hd := dd_length r []
  have hl2 : (r ++ r).length ≤ 16 := by rw [List.length_append]; omega
  unfold laws_FnRepeatTwice.f
  by_cases h : (l.length : Int) > 1048576
  · exact ev_pos h (Ev.now _)
  refine ev_neg h (ev_bind hs (ev_bind1 (impl_DropRepeated_eq r (by omega) hsm) (ev_bind (spec_DropRepeated_ev r (by omega) hsm) (ev_bind (mwA_ev _ _ (by omega)) (ev_pos (by simp) (ev_bind1 rfl (ev_pos (by simp; omega) (ev_bind1 rfl (ev_pos (by rw [List.nil_append]; omega) ?_)))))))))
  rw [List.nil_append]
  refine ev_bind1 (impl_DropRepeated_eq (r ++ r) (by omega) hs2) ?_
  rw [dd_twice]
  exact ev_bind (mwA_ev _ _ (by omega)) (ev_pos (by simp) (ev_of (congrArg some (decide_eq_true (by omega)))))
end Go.Proofs.Ytiobaiakbbboaaa.Pure
