/- Only capital letters become others in LowerText of a text that is drawn; no condition. -/
import Derived.Test.YtdblodoojgonoaaK1
import Derived.Test.YtdblodoojgonoaaD1
import Derived.Test.YtdblodoojgonoaaQ16
set_option linter.unusedVariables false
set_option linter.unusedSimpArgs false
namespace Go.Proofs.Ytdblodoojgonoaa.Pure
open Go.RowKit Go.Proofs.Ytdblodoojgonoaa.Q Go.Proofs.YtdblodoojgonoaaW.PrintWords Go.Proofs.YtdblodoojgonoaaW.PrintLast Go.Proofs.YtdblodoojgonoaaW.PrintMore
theorem lower_l0 (s : ByteArray) (hs : s.size ≤ 1000) : ∀ (d i : Nat), i + d = s.size → Ev (fun k => laws_FnLowerBytes.l0 k s (lowT s) (i : Int)) true := by
  intro d
  induction d with
  | zero =>
    intro i hi
    refine ev_succ ?_
    simp only [laws_FnLowerBytes.l0]
    exact ev_neg (by omega) (Ev.now _)
  | succ d ih =>
    intro i hi
    refine ev_succ ?_
    simp only [laws_FnLowerBytes.l0]
    have hz := lowT_size s
    have hb := bt_lowT s i (by omega)
    rw [wrap_succ i (by omega), hb]
    refine ev_pos (by omega) (ev_pos (by omega) ?_)
    by_cases h1 : bt s i ≥ 65
    · refine ev_pos h1 (ev_pos (by omega) ?_)
      by_cases h2 : bt s i ≤ 90
      · have e : low8 (bt s i) = bt s i + 32 := by unfold low8; rw [if_pos ⟨h1, h2⟩]
        refine ev_neg ?_ (ih (i + 1) (by omega))
        rw [e, decide_eq_true h2, show (bt s i + 32 != bt s i) = true from bne_iff_ne.2 (by omega)]
        decide
      · have e : low8 (bt s i) = bt s i := by unfold low8; rw [if_neg (fun h => h2 h.2)]
        refine ev_neg ?_ (ih (i + 1) (by omega))
        rw [e, decide_eq_false h2]
        simp
    · have e : low8 (bt s i) = bt s i := by unfold low8; rw [if_neg (fun h => h1 h.1)]
      refine ev_neg h1 (ev_pos (by omega) (ev_neg ?_ (ih (i + 1) (by omega))))
      rw [e]
      simp
theorem FnLowerBytes : laws_FnLowerBytes.Pure := by
  intro l _ _ hw
  refine Ev.rounds (g := fun k => laws_FnLowerBytes.f k l) ?_
  obtain ⟨s, hs, hz⟩ := DrawLowerText_some l hw
  unfold laws_FnLowerBytes.f
  by_cases h : (l.length : Int) > 1048576
  · exact ev_pos h (Ev.now _)
  refine ev_neg h (ev_bind hs (ev_bind1 (impl_LowerText_eq s (by omega)) (ev_bind1 (spec_LowerText_eq s (by omega)) (ev_pos rfl ?_))))
  have e : (((lowT s).size : Int) != (s.size : Int)) = false := by rw [lowT_size]; simp
  rw [e]
  refine ev_succ ?_
  simp only [laws_FnLowerBytes.j0, Bool.false_eq_true, if_false]
  exact lower_l0 s (by omega) s.size 0 (by omega)
end Go.Proofs.Ytdblodoojgonoaa.Pure
