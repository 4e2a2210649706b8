/- What the printed draws of two addresses come to; no condition. -/
import Derived.Test.YtdblodoojgonoaaD2
import Derived.Test.YtdblodoojgonoaaQ7
set_option linter.unusedVariables false
set_option linter.unusedSimpArgs false
namespace Go.Proofs.Ytdblodoojgonoaa.Q
open Go.RowKit Go.Proofs.YtdblodoojgonoaaW.PrintWords Go.Proofs.YtdblodoojgonoaaW.PrintLast Go.Proofs.YtdblodoojgonoaaW.PrintMore
theorem DrawSameBox_some (l : List Int) (hw : ∀ x ∈ l, (Lit.int .u8 x).wf = true) : ∃ a b c d e f, Ev (fun k => spec_DrawSameBox.f k l) (a, b, c, d, e, f) ∧ a.size ≤ 20 ∧ b.size ≤ 20 ∧ c.size ≤ 20 ∧ d.size ≤ 20 ∧ e.size ≤ 20 ∧ f.size ≤ 20 := by
  obtain ⟨q, ho, hb, hl⟩ := open_some l hw
  obtain ⟨a, b, c, h1, z1, z2, z3⟩ := l2Draw_some q hb hl 0 (by omega) (by omega)
  obtain ⟨v, hv, v0, v1⟩ := pick_some q hb hl (0 + 1 + 1 + 1) 2 (by omega) (by omega) (by omega)
  unfold spec_DrawSameBox.f
  by_cases e0 : v = 0
  · obtain ⟨d, e, f, h2, z4, z5, z6⟩ := l2Draw_some q hb hl (0 + 1 + 1 + 1 + 1) (by omega) (by omega)
    exact ⟨a, b, c, d, e, f, ev_bind1 ho (ev_bind h1 (ev_bind hv (ev_pos e0 (ev_bind h2 (Ev.now _))))), z1, z2, z3, z4, z5, z6⟩
  · exact ⟨a, b, c, _, b, c, ev_bind1 ho (ev_bind h1 (ev_bind hv (ev_neg e0 (Ev.now _)))), z1, z2, z3, by decide, z2, z3⟩

end Go.Proofs.Ytdblodoojgonoaa.Q
