/- What the printed draws of a text come to; no condition. -/
import Derived.Test.YteibhbhlmnnfjaaD1
import Derived.Test.YteibhbhlmnnfjaaQ7
set_option linter.unusedVariables false
set_option linter.unusedSimpArgs false
namespace Go.Proofs.Yteibhbhlmnnfjaa.Q
open Go.RowKit Go.Proofs.YteibhbhlmnnfjaaW.PrintWords Go.Proofs.YteibhbhlmnnfjaaW.PrintLast Go.Proofs.YteibhbhlmnnfjaaW.PrintMore
theorem DrawTextValid_some (l : List Int) (hw : ∀ x ∈ l, (Lit.int .u8 x).wf = true) : ∃ s, Ev (fun k => spec_DrawTextValid.f k l) s ∧ s.size ≤ 100 := by
  obtain ⟨b, ho, hb, hl⟩ := open_some l hw
  obtain ⟨s, hs, s1⟩ := l1Draw_some b hb hl 0 (by omega) (by omega)
  obtain ⟨t, ht, t1⟩ := l1Draw_some b hb hl (0 + 1) (by omega) (by omega)
  have hst : (s ++ t).size ≤ 40 := by rw [size_append]; omega
  obtain ⟨r, p', hr, r1, _, _⟩ := l1Bend_some b hb hl (0 + 1 + 1) (s ++ t) [(⟨#[10]⟩ : ByteArray), (⟨#[255]⟩ : ByteArray), (⟨#[126]⟩ : ByteArray), (⟨#[31]⟩ : ByteArray)] (by omega) (by omega) (by omega) (by decide) (by decide) (by decide)
  refine ⟨r, ?_, by omega⟩
  unfold spec_DrawTextValid.f
  refine ev_bind1 ho (ev_bind hs (ev_bind ht (ev_pos (by rw [size_append] at hst; dsimp only; omega) (ev_bind hr (Ev.now _)))))
theorem DrawAtomValid_some (l : List Int) (hw : ∀ x ∈ l, (Lit.int .u8 x).wf = true) : ∃ s, Ev (fun k => spec_DrawAtomValid.f k l) s ∧ s.size ≤ 100 := by
  obtain ⟨b, ho, hb, hl⟩ := open_some l hw
  obtain ⟨s, hs, s1⟩ := l1Draw_some b hb hl 0 (by omega) (by omega)
  obtain ⟨r, p', hr, r1, _, _⟩ := l1Bend_some b hb hl (0 + 1) s [(⟨#[32]⟩ : ByteArray), (⟨#[64]⟩ : ByteArray), (⟨#[33]⟩ : ByteArray), (⟨#[34]⟩ : ByteArray), (⟨#[98]⟩ : ByteArray)] (by omega) (by omega) (by omega) (by decide) (by decide) (by decide)
  refine ⟨r, ?_, by omega⟩
  unfold spec_DrawAtomValid.f
  exact ev_bind1 ho (ev_bind hs (ev_bind hr (Ev.now _)))

end Go.Proofs.Yteibhbhlmnnfjaa.Q
