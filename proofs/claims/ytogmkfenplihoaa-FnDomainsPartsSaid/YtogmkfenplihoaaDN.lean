/- What the printed draws of numbers come to; no condition. -/
import Derived.Test.YtogmkfenplihoaaD1
import Derived.Test.YtogmkfenplihoaaQ3
set_option linter.unusedVariables false
set_option linter.unusedSimpArgs false
namespace Go.Proofs.Ytogmkfenplihoaa.Q
open Go.RowKit Go.Proofs.YtogmkfenplihoaaV.PrintWords Go.Proofs.YtogmkfenplihoaaV.PrintLast Go.Proofs.YtogmkfenplihoaaV.PrintMore
theorem num_some (b : List Int) (hb : IsB b) (hl : b.length ≤ 2000) (p : Int) (l : List Int) (hp0 : 0 ≤ p) (hp1 : p ≤ 1000000) (hn : l.length ≤ 1000000) (h0 : 0 < l.length) :
    ∃ v, Ev (fun k => spec_l13Rd_num.f k b p l) (v, p + 1) ∧ v ∈ l := by
  obtain ⟨v, hv, v0, v1⟩ := pick_some b hb hl p l.length hp0 hp1 (by omega)
  have v1 := v1 (by omega)
  have hlt : v.toNat < l.length := by omega
  refine ⟨l[v.toNat], ?_, List.getElem_mem hlt⟩
  unfold spec_l13Rd_num.f
  refine ev_bind hv ?_
  refine ev_pos v0 (ev_pos v1 (ev_of ?_))
  rw [rd, List.getD_eq_getElem?_getD, List.getElem?_eq_getElem hlt]
  rfl

end Go.Proofs.Ytogmkfenplihoaa.Q
