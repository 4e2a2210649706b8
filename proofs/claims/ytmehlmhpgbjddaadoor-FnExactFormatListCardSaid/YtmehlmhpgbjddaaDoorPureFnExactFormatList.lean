/- The program's FormatList gives what the reference's gives, for any list of addresses, and leaves the list as it was; no condition. -/
import Derived.Test.YtmehlmhpgbjddaaDoorXFnExactFormatList
import Derived.Test.YtmehlmhpgbjddaaDoorRO
import Derived.Test.YtmehlmhpgbjddaaDoorQ0
import Derived.Test.YtmehlmhpgbjddaaDoorQ22
set_option linter.unusedVariables false
set_option linter.unusedSimpArgs false
namespace Go.Proofs.YtmehlmhpgbjddaaDoor.Pure
open Go.RowKit Go.Proofs.YtmehlmhpgbjddaaDoor.Q Go.Proofs.YtmehlmhpgbjddaaDoorV.PrintWords Go.Proofs.YtmehlmhpgbjddaaDoorV.PrintLast Go.Proofs.YtmehlmhpgbjddaaDoorV.PrintMore
theorem FnExactFormatList (l : List S68) (hl : l.length ≤ 9223372036854775807) (hx : ∀ x ∈ l, x.f0.size ≤ 9223372036854775807 ∧ x.f1.size ≤ 9223372036854775807 ∧ x.f2.size ≤ 9223372036854775807) : ∃ k, laws_FnExactFormatList.f k l = some true := by
  refine Ev.rounds (g := fun k => laws_FnExactFormatList.f k l) ?_
  unfold laws_FnExactFormatList.f
  obtain ⟨r, e1, h1, h2⟩ := szAddressS_ev l 1048576 (by omega) (by omega) hl hx
  refine ev_bind e1 ?_
  by_cases h3 : r < 0
  · exact ev_pos h3 (Ev.now _)
  obtain ⟨g1, g2⟩ := h2 (by omega)
  have hs : smAd (l.map toA) := by
    intro x hx
    obtain ⟨y, hy, rfl⟩ := List.mem_map.1 hx
    have := g2 y hy
    exact ⟨by show y.f0.size ≤ _; omega, by show y.f1.size ≤ _; omega, by show y.f2.size ≤ _; omega⟩
  have hn : (l.map toA).length ≤ 1048576 := by simp; omega
  refine ev_neg h3 (ev_bind (toAddressS_ev l (by omega)) (ev_bind (spec_FormatList_ev _ hs (by omega)) (ev_bind (toAddressS_ev l (by omega)) (ev_bind (impl_FormatList_ev _ hs (by omega)) (ev_pos rfl (ev_bind (toAddressS_ev l (by omega)) (ev_bind (eqAddressS_ev _ _ (by omega)) (ev_pos (by simp) (Ev.now _)))))))))
end Go.Proofs.YtmehlmhpgbjddaaDoor.Pure
