/- A word in quotes of a text that is drawn is no atom, and ends with a quote; no condition. -/
import Derived.Test.YteibhbhlmnnfjaaK1w
import Derived.Test.YteibhbhlmnnfjaaD1w
import Derived.Test.YteibhbhlmnnfjaaQ16
set_option linter.unusedVariables false
set_option linter.unusedSimpArgs false
namespace Go.Proofs.Yteibhbhlmnnfjaa.Pure
open Go.RowKit Go.Proofs.Yteibhbhlmnnfjaa.Q Go.Proofs.YteibhbhlmnnfjaaW.PrintWords Go.Proofs.YteibhbhlmnnfjaaW.PrintLast Go.Proofs.YteibhbhlmnnfjaaW.PrintMore
theorem FnQuoteAtom : laws_FnQuoteAtom.Pure := by
  intro l _ _ hw
  refine Ev.rounds (g := fun k => laws_FnQuoteAtom.f k l) ?_
  obtain ⟨s, hs, hz⟩ := DrawQuoteWord_some l hw
  unfold laws_FnQuoteAtom.f
  by_cases h : (l.length : Int) > 1048576
  · exact ev_pos h (Ev.now _)
  refine ev_neg h (ev_bind hs (ev_bind (impl_QuoteWord_ev s (by omega)) (ev_bind (spec_QuoteWord_ev s (by omega)) (ev_pos rfl (ev_succ ?_)))))
  have hq := L_qB s
  have he0 : ((qB s).toList == ([] : List UInt8)) = decide (bytesOf (qB s) = []) := by
    rw [← toList_nil, toList_beq]
    exact decide_eq_decide.2 (by rw [← L_iff]; rfl)
  rw [he0, hq]
  cases ht : textOk (bytesOf s) with
  | false =>
    rw [(quoteW_nil_iff _).2 ht]
    simp only [decide_true, laws_FnQuoteAtom.j0, if_true]
    refine ev_bind (spec_QuoteWord_ev s (by omega)) ?_
    rw [beq_self_eq_true]
    exact Ev.now _
  | true =>
    rw [decide_eq_false (quoteW_ne_nil ht)]
    simp only [laws_FnQuoteAtom.j0, Bool.false_eq_true, if_false]
    rcases quoteW_cases (bytesOf s) ht with ⟨ha, he⟩ | ⟨ha, he⟩
    · have e : qB s = s := L_inj (by rw [hq, he])
      rw [e]
      have h1 := (atomOk_iff _).1 ha
      rw [L_len] at h1
      have hb : bt s 0 ≠ 34 := by
        have := bt_get s 0 (by omega)
        exact (atm_ne (h1.2.2 _ (List.mem_of_getElem? this))).2.1
      refine ev_pos (by omega) (ev_neg hb (ev_bind1 (impl_AtomValid_eq s) (ev_pos ha (ev_of ?_))))
      rw [beq_self_eq_true]
    · have hl : (qB s).size = (esc (bytesOf s)).length + 2 := by rw [← L_len, hq, he]; simp
      have hqs := qB_size s
      have hb : bt (qB s) 0 = 34 := by
        have := bt_get (qB s) 0 (by omega)
        rw [hq, he] at this
        simpa using this.symm
      have hb2 : bt (qB s) (((qB s).size - 1 : Nat) : Int) = 34 := by
        have := bt_get (qB s) ((qB s).size - 1) (by omega)
        rw [hq, he, hl] at this
        rw [List.getElem?_cons, if_neg (by omega), List.getElem?_append_right (by omega)] at this
        rw [show (esc (bytesOf s)).length + 2 - 1 - 1 - (esc (bytesOf s)).length = 0 by omega] at this
        rw [hl]
        simpa using this.symm
      refine ev_pos (by omega) (ev_pos hb (ev_bind1 (impl_AtomValid_eq (qB s)) (ev_neg (by rw [hq, he, not_atom_quote]; decide) (ev_pos (by omega) ?_))))
      rw [show wrap64 (((qB s).size : Int) - 1) = (((qB s).size - 1 : Nat) : Int) by rw [wrap_id (by omega) (by omega)]; omega, hb2]
      exact ev_pos (by omega) (ev_pos (by omega) (Ev.now _))
end Go.Proofs.Yteibhbhlmnnfjaa.Pure
