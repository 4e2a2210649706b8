/- Parts of a text that is drawn are texts, and a text with a zero byte behind it is none; no condition. -/
import Derived.Test.YtdblodoojgonoaaK1
import Derived.Test.YtdblodoojgonoaaD1
import Derived.Test.YtdblodoojgonoaaQ20
set_option linter.unusedVariables false
set_option linter.unusedSimpArgs false
namespace Go.Proofs.Ytdblodoojgonoaa.Pure
open Go.RowKit Go.Proofs.Ytdblodoojgonoaa.Q Go.Proofs.YtdblodoojgonoaaW.PrintWords Go.Proofs.YtdblodoojgonoaaW.PrintLast Go.Proofs.YtdblodoojgonoaaW.PrintMore
theorem FnTextPart : laws_FnTextPart.Pure := by
  intro l _ _ hw
  refine Ev.rounds (g := fun k => laws_FnTextPart.f k l) ?_
  obtain ⟨s, hs, hz⟩ := DrawTextValid_some l hw
  unfold laws_FnTextPart.f
  by_cases h : (l.length : Int) > 1048576
  · exact ev_pos h (Ev.now _)
  refine ev_neg h (ev_bind hs (ev_bind (impl_TextValid_ev s (by omega)) (ev_bind (spec_TextValid_ev s (by omega)) (ev_neg (by simp) ?_))))
  refine ev_succ ?_
  cases ht : textOk (bytesOf s) with
  | false =>
    simp only [laws_FnTextPart.j0, Bool.not_false, if_true]
    refine ev_bind (spec_TextValid_ev s (by omega)) ?_
    rw [ht]
    exact Ev.now _
  | true =>
    simp only [laws_FnTextPart.j0, Bool.not_true, Bool.false_eq_true, if_false]
    rw [textOk_iff] at ht
    have e : wrap64 ((s.size : Int) / 2) = ((s.size / 2 : Nat) : Int) := by rw [wrap_id (by omega) (by omega)]; rfl
    rw [e, Int.toNat_natCast]
    refine ev_pos (by omega) (ev_pos (by omega) (ev_bind (impl_TextValid_ev _ (by have := size_extract_le s 0 (s.size / 2); omega)) (ev_pos ?_ (ev_bind (impl_TextValid_ev _ (by have := size_extract_le s (s.size / 2) s.size; omega)) (ev_pos ?_ (ev_pos (by omega) (ev_bind (impl_TextValid_ev _ (by rw [size_append]; show s.size + 1 ≤ _; omega)) ?_)))))))
    · rw [textOk_iff, L_to]
      exact ⟨by rw [List.length_take]; omega, fun x hx => ht.2 x (List.mem_of_mem_take hx)⟩
    · rw [textOk_iff, L_from]
      exact ⟨by rw [List.length_drop]; omega, fun x hx => ht.2 x (List.mem_of_mem_drop hx)⟩
    · have hf : textOk (bytesOf (s ++ (⟨#[0]⟩ : ByteArray))) = false := by
        cases hc : textOk (bytesOf (s ++ (⟨#[0]⟩ : ByteArray))) with
        | false => rfl
        | true =>
          rw [textOk_iff, L_append] at hc
          have := hc.2 0 (List.mem_append_right _ (by simp [bytesOf]))
          omega
      rw [hf]
      exact Ev.now _
end Go.Proofs.Ytdblodoojgonoaa.Pure
