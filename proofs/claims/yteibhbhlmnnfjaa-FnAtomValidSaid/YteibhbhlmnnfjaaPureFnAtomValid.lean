/- An atom that is drawn is a word of its own, and another text is in quotes; no condition. -/
import Derived.Test.YteibhbhlmnnfjaaK1w
import Derived.Test.YteibhbhlmnnfjaaD1t
import Derived.Test.YteibhbhlmnnfjaaQ9
set_option linter.unusedVariables false
set_option linter.unusedSimpArgs false
namespace Go.Proofs.Yteibhbhlmnnfjaa.Pure
open Go.RowKit Go.Proofs.Yteibhbhlmnnfjaa.Q Go.Proofs.YteibhbhlmnnfjaaW.PrintWords Go.Proofs.YteibhbhlmnnfjaaW.PrintLast Go.Proofs.YteibhbhlmnnfjaaW.PrintMore
theorem FnAtomValid : laws_FnAtomValid.Pure := by
  intro l _ _ hw
  refine Ev.rounds (g := fun k => laws_FnAtomValid.f k l) ?_
  obtain ⟨s, hs, hz⟩ := DrawAtomValid_some l hw
  unfold laws_FnAtomValid.f
  by_cases h : (l.length : Int) > 1048576
  · exact ev_pos h (Ev.now _)
  refine ev_neg h (ev_bind hs (ev_bind1 (impl_AtomValid_eq s) (ev_bind (spec_AtomValid_ev s (by omega)) (ev_neg (by simp) (ev_bind (impl_TextValid_ev s (by omega)) (ev_succ ?_))))))
  cases ht : textOk (bytesOf s) with
  | false =>
    have ha : atomOk (bytesOf s) = false := by
      cases hc : atomOk (bytesOf s) with
      | false => rfl
      | true => rw [atomOk_text hc] at ht; cases ht
    simp only [laws_FnAtomValid.j0, Bool.not_false, if_true]
    refine ev_bind (spec_AtomValid_ev s (by omega)) ?_
    rw [ha]
    exact Ev.now _
  | true =>
    simp only [laws_FnAtomValid.j0, Bool.not_true, Bool.false_eq_true, if_false]
    refine ev_bind (impl_QuoteWord_ev s (by omega)) ?_
    have hq := L_qB s
    rcases quoteW_cases (bytesOf s) ht with ⟨ha, he⟩ | ⟨ha, he⟩
    · have e : qB s = s := L_inj (by rw [hq, he])
      rw [ha, e, toList_beq]
      exact ev_pos (by simp) (ev_pos rfl (Ev.now _))
    · have hlen := esc_length (bytesOf s)
      rw [L_len] at hlen
      have hl : (qB s).size = (esc (bytesOf s)).length + 2 := by rw [← L_len, hq, he]; simp
      have hne : qB s ≠ s := by
        intro e
        rw [e] at hl
        omega
      have hb : bt (qB s) 0 = 34 := by
        have := bt_get (qB s) 0 (by omega)
        rw [hq, he] at this
        simpa using this.symm
      rw [ha, toList_beq, decide_eq_false hne, hb]
      refine ev_pos (by decide) (ev_neg (by decide) (ev_pos (by omega) (ev_pos rfl (ev_of ?_))))
      rw [wrap_id (by omega) (by omega)]
      exact congrArg some (decide_eq_true (by omega))
end Go.Proofs.Yteibhbhlmnnfjaa.Pure
