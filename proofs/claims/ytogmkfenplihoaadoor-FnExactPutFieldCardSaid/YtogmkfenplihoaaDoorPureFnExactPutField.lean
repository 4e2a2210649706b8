/- The program's PutField gives what the reference's gives, for any list of fields and any field, in memory of its own; no condition. -/
import Derived.Test.YtogmkfenplihoaaDoorXFnExactPutField
import Derived.Test.YtogmkfenplihoaaDoorRO
import Derived.Test.YtogmkfenplihoaaDoorQ0
import Derived.Test.YtogmkfenplihoaaDoorQ14
import Derived.Test.YtogmkfenplihoaaDoorQ15
set_option linter.unusedVariables false
set_option linter.unusedSimpArgs false
namespace Go.Proofs.YtogmkfenplihoaaDoor.Pure
open Go.RowKit Go.Proofs.YtogmkfenplihoaaDoor.Q Go.Proofs.YtogmkfenplihoaaDoorV.PrintWords Go.Proofs.YtogmkfenplihoaaDoorV.PrintLast Go.Proofs.YtogmkfenplihoaaDoorV.PrintMore
theorem FnExactPutField (l : List S35) (a b : ByteArray) (hl : l.length ≤ 9223372036854775807) (hx : ∀ x ∈ l, x.f0.size ≤ 9223372036854775807 ∧ x.f1.size ≤ 9223372036854775807) (ha : a.size ≤ 9223372036854775807) (hb : b.size ≤ 9223372036854775807) : ∃ k, laws_FnExactPutField.f k l a b = some true := by
  refine Ev.rounds (g := fun k => laws_FnExactPutField.f k l a b) ?_
  unfold laws_FnExactPutField.f
  obtain ⟨r, e1, h1, h2⟩ := szFieldS_ev l 1048576 (by omega) (by omega) hl hx
  refine ev_bind e1 ?_
  by_cases h3 : r < 0
  · exact ev_pos h3 (Ev.now _)
  obtain ⟨g1, g2⟩ := h2 (by omega)
  obtain ⟨r2, e2, k1, k2⟩ := szField_eq a b r (by omega) (by omega) ha hb
  refine ev_neg h3 (ev_bind1 e2 ?_)
  by_cases h4 : r2 < 0
  · exact ev_pos h4 (Ev.now _)
  obtain ⟨z1, z2⟩ := k2 (by omega)
  have hv : smV (l.map toF) := by
    intro x hx
    obtain ⟨y, hy, rfl⟩ := List.mem_map.1 hx
    have := g2 y hy
    show y.f0.size ≤ _ ∧ y.f1.size ≤ _
    omega
  have hn : (l.map toF).length ≤ 1048576 := by simp; omega
  have hto : laws_toField.f a b = some (a, b) := rfl
  have hlen : (putV (l.map toF) a b).1.length ≤ 1048577 := by
    unfold putV
    have := put_len (l.map toF) a b
    split
    · show (putO (l.map toF) a b).length ≤ _
      split at this <;> omega
    · simp
  have hi := impl_PutField_ev (l.map toF) a b (by omega) hv (by omega) (by omega)
  obtain ⟨m1, q1, q2⟩ := markF_held (l.map toF) (by omega)
  obtain ⟨m2, q3, q4⟩ := markF_held (putV (l.map toF) a b).1 (by omega)
  refine ev_neg h4 (ev_bind (toFieldS_ev l (by omega)) (ev_bind1 hto (ev_bind (spec_PutField_ev _ a b (by omega) hv (by omega) (by omega)) (ev_bind (toFieldS_ev l (by omega)) (ev_bind1 hto (ev_bind hi (ev_bind (eqFieldS_ev _ _ (by omega)) (ev_pos (by simp) (ev_succ ?_)))))))))
  simp only [bne_self_eq_false, laws_FnExactPutField.j0, Bool.false_eq_true, if_false]
  refine ev_bind (toFieldS_ev l (by omega)) (ev_bind (eqFieldS_ev _ _ (by omega)) (ev_pos (by simp) (ev_bind q1 (ev_neg (show ¬ (1 + 2 * ((l.map toF).length : Int) < 0) by omega) (ev_bind (eqFieldS_ev _ _ (by omega)) (ev_pos (by simp) (ev_succ ?_)))))))
  simp only [bne_self_eq_false, laws_FnExactPutField.j1, Bool.false_eq_true, if_false]
  refine ev_bind q3 (ev_bind q4 (ev_neg (by omega) (ev_pos rfl (ev_bind (toFieldS_ev l (by omega)) (ev_bind1 hto (ev_bind hi (ev_bind (eqFieldS_ev _ _ (by omega)) (ev_pos (by simp) (ev_succ ?_)))))))))
  simp only [bne_self_eq_false, laws_FnExactPutField.j2, Bool.false_eq_true, if_false]
  exact ev_bind q4 (ev_neg (by omega) (ev_pos rfl (Ev.now _)))
end Go.Proofs.YtogmkfenplihoaaDoor.Pure
