/- A word that is drawn and read is a text, and has this word; no condition. -/
import Derived.Test.YteibhbhlmnnfjaaK1w
import Derived.Test.YteibhbhlmnnfjaaD1w
import Derived.Test.YteibhbhlmnnfjaaQ20
set_option linter.unusedVariables false
set_option linter.unusedSimpArgs false
namespace Go.Proofs.Yteibhbhlmnnfjaa.Pure
open Go.RowKit Go.Proofs.Yteibhbhlmnnfjaa.Q Go.Proofs.YteibhbhlmnnfjaaW.PrintWords Go.Proofs.YteibhbhlmnnfjaaW.PrintLast Go.Proofs.YteibhbhlmnnfjaaW.PrintMore
theorem FnUnquote : laws_FnUnquote.Pure := by
  intro l _ _ hw
  refine Ev.rounds (g := fun k => laws_FnUnquote.f k l) ?_
  obtain ⟨s, hs, hz⟩ := DrawUnquoteWord_some l hw
  unfold laws_FnUnquote.f
  by_cases h : (l.length : Int) > 1048576
  · exact ev_pos h (Ev.now _)
  refine ev_neg h (ev_bind hs (ev_bind (impl_UnquoteWord_ev s (by omega)) (ev_bind (spec_UnquoteWord_ev s (by omega)) (ev_pos rfl (ev_neg (by simp) (ev_succ ?_))))))
  obtain ⟨t, b, hu⟩ : ∃ t b, unquoteW (bytesOf s) = (t, b) := ⟨_, _, rfl⟩
  have hB : uB s = (strOfNums t, b) := by unfold uB; rw [hu]
  rw [hB]
  cases b with
  | false =>
    have := unquote_false hu
    subst this
    simp only [Bool.not_false, laws_FnUnquote.j0, if_true]
    refine ev_of ?_
    rw [S_nil, toList_nil]
    rfl
  | true =>
    obtain ⟨h1, h2, h3⟩ := unquote_some hu
    rw [L_len] at h3
    simp only [Bool.not_true, laws_FnUnquote.j0, Bool.false_eq_true, if_false]
    have hIs : IsB t := by
      intro x hx
      have := ((textOk_iff t).1 h1).2 x hx
      omega
    refine ev_bind (impl_TextValid_ev _ (by rw [S_size]; omega)) (ev_pos (by rw [L_S hIs]; exact h1) (ev_pos (by rw [S_size]; omega) (ev_bind (impl_QuoteWord_ev _ (by rw [S_size]; omega)) (ev_of ?_))))
    rw [toList_beq]
    refine congrArg some (decide_eq_true ?_)
    rw [← L_iff, L_qB, L_S hIs, h2]
end Go.Proofs.Yteibhbhlmnnfjaa.Pure
