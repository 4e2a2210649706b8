/- What the printed draws of addresses, sometimes wrong ones, come to; no condition. -/
import Derived.Test.YtcnkakaipajloaaDoorD2
import Derived.Test.YtcnkakaipajloaaDoorQ9
set_option linter.unusedVariables false
set_option linter.unusedSimpArgs false
namespace Go.Proofs.YtcnkakaipajloaaDoor.Q
open Go.RowKit Go.Proofs.YtcnkakaipajloaaDoorV.PrintWords Go.Proofs.YtcnkakaipajloaaDoorV.PrintLast Go.Proofs.YtcnkakaipajloaaDoorV.PrintMore
/-! ## Draws of addresses, sometimes wrong ones -/
theorem DrawAddressValid_some (l : List Int) (hw : ∀ x ∈ l, (Lit.int .u8 x).wf = true) : ∃ x y z, Ev (fun k => spec_DrawAddressValid.f k l) (x, y, z) ∧ x.size ≤ 100 ∧ y.size ≤ 100 ∧ z.size ≤ 100 := by
  obtain ⟨b, ho, hb, hl⟩ := open_some l hw
  obtain ⟨x, y, z, h1, h2, h3, h4⟩ := l2Draw_some b hb hl 0 (by omega) (by omega)
  obtain ⟨x1, y1, z1, p1, g1, g2, g3, g4, g5, g6⟩ := l2Wrong_some b hb hl (0 + 1 + 1 + 1) x y z (by omega) (by omega) (by omega) (by omega) (by omega)
  obtain ⟨x2, y2, z2, p2, k1, k2, k3, k4, k5, k6⟩ := l2Wrong_some b hb hl p1 x1 y1 z1 (by omega) (by omega) (by omega) (by omega) (by omega)
  refine ⟨x2, y2, z2, ?_, k2, k3, k4⟩
  unfold spec_DrawAddressValid.f
  exact ev_bind1 ho (ev_bind h1 (ev_bind g1 (ev_bind k1 (Ev.now _))))
theorem DrawFormatAddress_some (l : List Int) (hw : ∀ x ∈ l, (Lit.int .u8 x).wf = true) : ∃ x y z, Ev (fun k => spec_DrawFormatAddress.f k l) (x, y, z) ∧ x.size ≤ 100 ∧ y.size ≤ 100 ∧ z.size ≤ 100 := by
  obtain ⟨x, y, z, h, h1⟩ := DrawAddressValid_some l hw
  exact ⟨x, y, z, ev_bind h (Ev.now _), h1⟩

end Go.Proofs.YtcnkakaipajloaaDoor.Q
