/- The word of a text that is drawn is split into this text alone; no condition. -/
import Derived.Test.YteibhbhlmnnfjaaK1j
import Derived.Test.YteibhbhlmnnfjaaD1w
import Derived.Test.YteibhbhlmnnfjaaQ18
set_option linter.unusedVariables false
set_option linter.unusedSimpArgs false
namespace Go.Proofs.Yteibhbhlmnnfjaa.Pure
open Go.RowKit Go.Proofs.Yteibhbhlmnnfjaa.Q Go.Proofs.YteibhbhlmnnfjaaW.PrintWords Go.Proofs.YteibhbhlmnnfjaaW.PrintLast Go.Proofs.YteibhbhlmnnfjaaW.PrintMore
theorem FnSplitOne : laws_FnSplitOne.Pure := by
  intro l _ _ hw
  refine Ev.rounds (g := fun k => laws_FnSplitOne.f k l) ?_
  obtain ⟨s, hs, hz⟩ := DrawQuoteWord_some l hw
  unfold laws_FnSplitOne.f
  by_cases h : (l.length : Int) > 1048576
  · exact ev_pos h (Ev.now _)
  have hq := L_qB s
  have hqs := qB_size s
  have hend : Ev (fun k => laws_FnSplitOne.j0 k s (qB s) true) true := by
    refine ev_succ ?_
    simp only [laws_FnSplitOne.j0, if_true]
    refine ev_bind (spec_QuoteWord_ev s (by omega)) ?_
    rw [beq_self_eq_true]
    exact Ev.now _
  refine ev_neg h (ev_bind hs (ev_bind (impl_QuoteWord_ev s (by omega)) (ev_bind (spec_QuoteWord_ev s (by omega)) (ev_pos rfl ?_))))
  by_cases hn : (qB s).toList = ([] : List UInt8)
  · exact ev_pos hn hend
  · refine ev_neg hn (ev_bind (impl_TextValid_ev (qB s) (by omega)) ?_)
    cases ht2 : textOk (bytesOf (qB s)) with
    | false => exact hend
    | true =>
      have ht : textOk (bytesOf s) = true := by
        cases hc : textOk (bytesOf s) with
        | true => rfl
        | false =>
          refine absurd ?_ hn
          rw [← toList_nil, toList_iff, ← L_iff, hq, (quoteW_nil_iff _).2 hc]
          rfl
      refine ev_succ ?_
      simp only [Bool.not_true, laws_FnSplitOne.j0, Bool.false_eq_true, if_false]
      have hsp : spB (qB s) = ([s], true) := by
        unfold spB
        rw [splitW_of ht2 (by rw [hq]; exact words_quote ht)]
        simp [S_L]
      have := impl_SplitWords_ev (qB s) (by omega)
      rw [hsp] at this
      refine ev_bind this (ev_pos rfl (ev_pos rfl (ev_pos (show (0 : Int) < ((1 : Nat) : Int) by decide) (ev_of ?_))))
      rw [show rdOf ByteArray.empty [s] 0 = s from rfl, beq_self_eq_true]
end Go.Proofs.Yteibhbhlmnnfjaa.Pure
