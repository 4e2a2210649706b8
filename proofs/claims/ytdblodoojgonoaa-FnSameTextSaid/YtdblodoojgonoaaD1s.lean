/- What the printed draws of two texts come to; no condition. -/
import Derived.Test.YtdblodoojgonoaaD1
import Derived.Test.YtdblodoojgonoaaK1
import Derived.Test.YtdblodoojgonoaaQ4
set_option linter.unusedVariables false
set_option linter.unusedSimpArgs false
namespace Go.Proofs.Ytdblodoojgonoaa.Q
open Go.RowKit Go.Proofs.YtdblodoojgonoaaW.PrintWords Go.Proofs.YtdblodoojgonoaaW.PrintLast Go.Proofs.YtdblodoojgonoaaW.PrintMore
/-! ## Draws of pairs that are compared -/
theorem DrawSameText_some (l : List Int) (hw : ∀ x ∈ l, (Lit.int .u8 x).wf = true) : ∃ s t, Ev (fun k => spec_DrawSameText.f k l) (s, t) ∧ s.size ≤ 100 ∧ t.size ≤ 100 := by
  obtain ⟨b, ho, hb, hl⟩ := open_some l hw
  unfold spec_DrawSameText.f
  generalize hg : ([(⟨#[65, 110, 110]⟩ : ByteArray), (⟨#[115, 117, 98, 106, 101, 99, 116]⟩ : ByteArray), (⟨#[88, 45, 89]⟩ : ByteArray), (⟨#[97, 201]⟩ : ByteArray)] : List ByteArray) = q
  have hz : ∀ x ∈ q, x.size ≤ 20 := by subst hg; decide
  have hn : q.length = 4 := by subst hg; rfl
  obtain ⟨s, hs, hm⟩ := of_some b hb hl 0 q (by omega) (by omega) (by omega) (by omega)
  obtain ⟨v, hv, v0, v1⟩ := pick_some b hb hl (0 + 1) 3 (by omega) (by omega) (by omega)
  have hs1 := hz s hm
  by_cases e0 : v = 0
  · exact ⟨s, lowT s, ev_bind1 ho (ev_bind hs (ev_bind hv (ev_pos e0 (ev_bind1 (spec_LowerText_eq s (by omega)) (Ev.now _))))), by omega, by rw [lowT_size]; omega⟩
  · by_cases e1 : v = 1
    · obtain ⟨r, p', hr, r1, _, _⟩ := l1Bend_some b hb hl (0 + 1 + 1) s [(⟨#[65]⟩ : ByteArray), (⟨#[98]⟩ : ByteArray), (⟨#[]⟩ : ByteArray)] (by omega) (by omega) (by omega) (by decide) (by decide) (by decide)
      exact ⟨s, r, ev_bind1 ho (ev_bind hs (ev_bind hv (ev_neg e0 (ev_pos e1 (ev_bind hr (Ev.now _)))))), by omega, by omega⟩
    · exact ⟨s, s, ev_bind1 ho (ev_bind hs (ev_bind hv (ev_neg e0 (ev_neg e1 (Ev.now _))))), by omega, by omega⟩

end Go.Proofs.Ytdblodoojgonoaa.Q
