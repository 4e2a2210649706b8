/- The program's DomainsOf gives what the reference's gives, for any list of addresses, in memory of its own; no condition. -/
import Derived.Test.YtogmkfenplihoaaK2p
import Derived.Test.YtogmkfenplihoaaK2L
import Derived.Test.YtogmkfenplihoaaKL
import Derived.Test.YtogmkfenplihoaaRO
import Derived.Test.YtogmkfenplihoaaQ0
import Derived.Test.YtogmkfenplihoaaQ11
set_option linter.unusedVariables false
set_option linter.unusedSimpArgs false
namespace Go.Proofs.Ytogmkfenplihoaa.Pure
open Go.RowKit Go.Proofs.Ytogmkfenplihoaa.Q Go.Proofs.YtogmkfenplihoaaV.PrintWords Go.Proofs.YtogmkfenplihoaaV.PrintLast Go.Proofs.YtogmkfenplihoaaV.PrintMore
theorem FnExactDomainsOf (l : List S46) (hl : l.length ≤ 9223372036854775807) (hx : ∀ x ∈ l, x.f0.size ≤ 9223372036854775807 ∧ x.f1.size ≤ 9223372036854775807 ∧ x.f2.size ≤ 9223372036854775807) : ∃ k, laws_FnExactDomainsOf.f k l = some true := by
  refine Ev.rounds (g := fun k => laws_FnExactDomainsOf.f k l) ?_
  unfold laws_FnExactDomainsOf.f
  obtain ⟨r, e1, h1, h2⟩ := szAddressS_ev l 1048576 (by omega) (by omega) hl hx
  refine ev_bind e1 ?_
  by_cases h3 : r < 0
  · exact ev_pos h3 (Ev.now _)
  obtain ⟨g1, g2⟩ := h2 (by omega)
  have hs : smA (l.map toA) := by
    intro x hx
    obtain ⟨y, hy, rfl⟩ := List.mem_map.1 hx
    have := (g2 y hy).2.2
    show y.f2.size < _
    omega
  have hn : (l.map toA).length ≤ 1048576 := by simp; omega
  have hd := domS_len (l.map toA)
  obtain ⟨m1, k1⟩ := markA_some (l.map toA) (by omega)
  obtain ⟨m2, k3, k4⟩ := markS_held (domS (l.map toA)) (by omega)
  refine ev_neg h3 (ev_bind (toAddressS_ev l (by omega)) (ev_bind (spec_DomainsOf_ev _ (by omega) hs) (ev_bind (toAddressS_ev l (by omega)) (ev_bind1 (impl_DomainsOf_eq _ (by omega) hs) (ev_bind (eqStringS_ev _ _ (by omega)) (ev_pos (by simp) (ev_bind (toAddressS_ev l (by omega)) (ev_bind (eqAddressS_ev _ _ (by omega)) (ev_pos (by simp) (ev_bind k1 (ev_neg (show ¬ (1 + 3 * ((l.map toA).length : Int) < 0) by omega) (ev_bind (eqStringS_ev _ _ (by omega)) (ev_succ ?_)))))))))))))
  simp only [decide_true, Bool.not_true, laws_FnExactDomainsOf.j0, Bool.false_eq_true, if_false]
  refine ev_bind k3 (ev_bind k4 (ev_neg (by omega) (ev_pos rfl (ev_bind (toAddressS_ev l (by omega)) (ev_bind1 (impl_DomainsOf_eq _ (by omega) hs) (ev_bind (eqStringS_ev _ _ (by omega)) (ev_pos (by simp) ?_)))))))
  exact ev_bind k4 (ev_neg (by omega) (ev_pos rfl (Ev.now _)))
end Go.Proofs.Ytogmkfenplihoaa.Pure
