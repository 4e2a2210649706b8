/- A text that is drawn is read back from its word, and nothing else has this word; no condition. -/
import Derived.Test.YteibhbhlmnnfjaaK1w
import Derived.Test.YteibhbhlmnnfjaaD1w
import Derived.Test.YteibhbhlmnnfjaaQ17
set_option linter.unusedVariables false
set_option linter.unusedSimpArgs false
namespace Go.Proofs.Yteibhbhlmnnfjaa.Pure
open Go.RowKit Go.Proofs.Yteibhbhlmnnfjaa.Q Go.Proofs.YteibhbhlmnnfjaaW.PrintWords Go.Proofs.YteibhbhlmnnfjaaW.PrintLast Go.Proofs.YteibhbhlmnnfjaaW.PrintMore
theorem quote_j1 (l : List Int) (hw : ∀ x ∈ l, (Lit.int .u8 x).wf = true) : Ev (fun k => laws_FnQuoteWord.j1 k l false) true := by
  obtain ⟨s, hs, hz⟩ := DrawUnquoteWord_some l hw
  refine ev_succ ?_
  simp only [laws_FnQuoteWord.j1, Bool.false_eq_true, if_false]
  refine ev_bind hs (ev_bind (impl_UnquoteWord_ev s (by omega)) (ev_bind (spec_UnquoteWord_ev s (by omega)) (ev_pos rfl (ev_pos (by simp) ?_))))
  obtain ⟨t, b, hu⟩ : ∃ t b, unquoteW (bytesOf s) = (t, b) := ⟨_, _, rfl⟩
  have hB : uB s = (strOfNums t, b) := by unfold uB; rw [hu]
  rw [hB]
  cases b with
  | false => exact ev_neg (by simp) (Ev.now _)
  | true =>
    obtain ⟨h1, h2, h3⟩ := unquote_some hu
    rw [L_len] at h3
    have hIs : IsB t := by
      intro x hx
      have := ((textOk_iff t).1 h1).2 x hx
      omega
    refine ev_pos rfl (ev_bind (impl_QuoteWord_ev _ (by rw [S_size]; omega)) (ev_of ?_))
    rw [toList_beq]
    refine congrArg some (decide_eq_true ?_)
    rw [← L_iff, L_qB, L_S hIs, h2]
theorem FnQuoteWord : laws_FnQuoteWord.Pure := by
  intro l l1 _ _ hw _ _ hw1
  refine Ev.rounds (g := fun k => laws_FnQuoteWord.f k l l1) ?_
  have hend : Ev (fun k => laws_FnQuoteWord.j0 k l l1 true) true := by
    refine ev_succ ?_
    simp only [laws_FnQuoteWord.j0, if_true]
    exact Ev.now _
  unfold laws_FnQuoteWord.f
  by_cases h : (l.length : Int) > 1048576
  · exact ev_pos h hend
  refine ev_neg h ?_
  by_cases h2 : (l1.length : Int) > 1048576
  · rw [decide_eq_true h2]; exact hend
  rw [decide_eq_false h2]
  refine ev_succ ?_
  simp only [laws_FnQuoteWord.j0, Bool.false_eq_true, if_false]
  obtain ⟨s, hs, hz⟩ := DrawQuoteWord_some l hw
  have hqs := qB_size s
  have hu : uB (qB s) = if textOk (bytesOf s) = true then (s, true) else ((⟨#[]⟩ : ByteArray), false) := by
    unfold uB
    rw [L_qB]
    cases ht : textOk (bytesOf s) with
    | true => rw [unquote_quote ht, if_pos rfl, S_L]
    | false => rw [(quoteW_nil_iff _).2 ht, unquote_nil, if_neg (by decide)]; rfl
  refine ev_bind hs (ev_bind (impl_QuoteWord_ev s (by omega)) (ev_bind (impl_UnquoteWord_ev (qB s) (by omega)) (ev_bind (impl_TextValid_ev s (by omega)) (ev_bind (spec_QuoteWord_ev s (by omega)) (ev_pos rfl (ev_bind (spec_TextValid_ev s (by omega)) (ev_neg (by simp) ?_)))))))
  rw [hu]
  cases ht : textOk (bytesOf s) with
  | true =>
    simp only [if_true]
    refine ev_neg (by decide) ?_
    rw [show (s.toList != s.toList) = false from by simp]
    exact quote_j1 l1 hw1
  | false =>
    simp only [Bool.false_eq_true, if_false]
    exact ev_neg (by decide) (quote_j1 l1 hw1)
end Go.Proofs.Yteibhbhlmnnfjaa.Pure
