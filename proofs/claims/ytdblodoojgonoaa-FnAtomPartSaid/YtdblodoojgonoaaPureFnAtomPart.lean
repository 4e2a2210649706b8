/- Parts of an atom that is drawn are atoms if they are not empty; with a space behind it, it is none; no condition. -/
import Derived.Test.YtdblodoojgonoaaK1
import Derived.Test.YtdblodoojgonoaaD1
import Derived.Test.YtdblodoojgonoaaQ9
set_option linter.unusedVariables false
set_option linter.unusedSimpArgs false
namespace Go.Proofs.Ytdblodoojgonoaa.Pure
open Go.RowKit Go.Proofs.Ytdblodoojgonoaa.Q Go.Proofs.YtdblodoojgonoaaW.PrintWords Go.Proofs.YtdblodoojgonoaaW.PrintLast Go.Proofs.YtdblodoojgonoaaW.PrintMore
theorem FnAtomPart : laws_FnAtomPart.Pure := by
  intro l _ _ hw
  refine Ev.rounds (g := fun k => laws_FnAtomPart.f k l) ?_
  obtain ⟨s, hs, hz⟩ := DrawAtomValid_some l hw
  unfold laws_FnAtomPart.f
  by_cases h : (l.length : Int) > 1048576
  · exact ev_pos h (Ev.now _)
  refine ev_neg h (ev_bind hs (ev_bind1 (impl_AtomValid_eq s) (ev_bind (spec_AtomValid_ev s (by omega)) (ev_neg (by simp) ?_))))
  refine ev_succ ?_
  cases ht : atomOk (bytesOf s) with
  | false =>
    simp only [laws_FnAtomPart.j0, Bool.not_false, if_true]
    refine ev_bind (spec_AtomValid_ev s (by omega)) ?_
    rw [ht]
    exact Ev.now _
  | true =>
    simp only [laws_FnAtomPart.j0, Bool.not_true, Bool.false_eq_true, if_false]
    rw [atomOk_iff, L_len] at ht
    have e : wrap64 ((s.size : Int) / 2) = ((s.size / 2 : Nat) : Int) := by rw [wrap_id (by omega) (by omega)]; rfl
    rw [e, Int.toNat_natCast]
    refine ev_pos (by omega) (ev_pos (by omega) (ev_bind1 (impl_AtomValid_eq _) (ev_pos ?_ (ev_pos (by omega) (ev_pos (by omega) (ev_bind1 (impl_AtomValid_eq _) (ev_pos ?_ (ev_pos (by omega) (ev_bind1 (impl_AtomValid_eq _) (ev_neg ?_ (ev_bind1 (impl_AtomValid_eq _) ?_)))))))))))
    · rw [atomOk_iff, L_to, List.length_take, L_len]
      exact ⟨by omega, by omega, fun x hx => ht.2.2 x (List.mem_of_mem_take hx)⟩
    · rw [atomOk_iff, L_from, List.length_drop, L_len]
      exact ⟨by omega, by omega, fun x hx => ht.2.2 x (List.mem_of_mem_drop hx)⟩
    · rw [atomOk_iff, L_append]
      intro hc
      have := (atm_ne (hc.2.2 32 (List.mem_append_right _ (by simp [bytesOf])))).1
      exact this rfl
    · exact ev_of (by decide)
end Go.Proofs.Ytdblodoojgonoaa.Pure
