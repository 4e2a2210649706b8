/- Texts that are drawn are read back from their words with spaces between; no condition. -/
import Derived.Test.YteibhbhlmnnfjaaK1j
import Derived.Test.YteibhbhlmnnfjaaKL
import Derived.Test.YteibhbhlmnnfjaaD1w
import Derived.Test.YteibhbhlmnnfjaaQ15
set_option linter.unusedVariables false
set_option linter.unusedSimpArgs false
namespace Go.Proofs.Yteibhbhlmnnfjaa.Pure
open Go.RowKit Go.Proofs.Yteibhbhlmnnfjaa.Q Go.Proofs.YteibhbhlmnnfjaaW.PrintWords Go.Proofs.YteibhbhlmnnfjaaW.PrintLast Go.Proofs.YteibhbhlmnnfjaaW.PrintMore
theorem L_map_S (l : List ByteArray) : (l.map bytesOf).map strOfNums = l := by
  rw [List.map_map]
  have : (strOfNums ∘ bytesOf) = id := funext S_L
  rw [this, List.map_id]
theorem FnJoinWords : laws_FnJoinWords.Pure := by
  intro l _ _ hw
  refine Ev.rounds (g := fun k => laws_FnJoinWords.f k l) ?_
  obtain ⟨q, hs, hz, hx⟩ := DrawJoinWords_some l hw
  have hx' : ∀ x ∈ q, x.size ≤ 1048576 := fun x h => by have := hx x h; omega
  unfold laws_FnJoinWords.f
  by_cases h : (l.length : Int) > 1048576
  · exact ev_pos h (Ev.now _)
  refine ev_neg h (ev_bind hs (ev_bind (impl_JoinWords_ev q (by omega) hx') (ev_bind (spec_JoinWords_ev q (by omega) hx') (ev_pos rfl (ev_succ ?_)))))
  have hjs := joinW_size (q.map bytesOf)
  have hIs : IsB (joinW (q.map bytesOf)) := by
    intro x hx
    have := ((textOk_iff _).1 (joinW_text (q.map bytesOf))).2 x hx
    omega
  have he0 : ((strOfNums (joinW (q.map bytesOf))).toList == ([] : List UInt8)) = decide (joinW (q.map bytesOf) = []) := by
    rw [← toList_nil, toList_beq]
    exact decide_eq_decide.2 (by rw [← L_iff, L_S hIs]; rfl)
  rw [he0]
  by_cases hn : joinW (q.map bytesOf) = []
  · simp only [decide_eq_true hn, laws_FnJoinWords.j0, if_true]
    refine ev_bind (spec_JoinWords_ev q (by omega) hx') ?_
    rw [beq_self_eq_true]
    exact Ev.now _
  · simp only [decide_eq_false hn, laws_FnJoinWords.j0, Bool.false_eq_true, if_false]
    have hsp : spB (strOfNums (joinW (q.map bytesOf))) = (q, true) := by
      unfold spB
      rw [L_S hIs, split_join _ hn, L_map_S]
    have := impl_SplitWords_ev (strOfNums (joinW (q.map bytesOf))) (by omega)
    rw [hsp] at this
    refine ev_bind this (ev_pos rfl (ev_bind (mwTexts_ev q q (by omega)) (ev_pos (by simp) (ev_bind (impl_TextValid_ev _ (by omega)) ?_))))
    rw [L_S hIs, joinW_text]
    exact Ev.now _
end Go.Proofs.Yteibhbhlmnnfjaa.Pure
