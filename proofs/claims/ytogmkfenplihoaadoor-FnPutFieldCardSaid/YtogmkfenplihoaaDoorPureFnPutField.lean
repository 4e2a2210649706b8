/- What is put is found, and no other field moves; no condition. -/
import Derived.Test.YtogmkfenplihoaaDoorXFnPutField
import Derived.Test.YtogmkfenplihoaaDoorQ0
import Derived.Test.YtogmkfenplihoaaDoorQ16
set_option linter.unusedVariables false
set_option linter.unusedSimpArgs false
namespace Go.Proofs.YtogmkfenplihoaaDoor.Pure
open Go.RowKit Go.Proofs.YtogmkfenplihoaaDoor.Q Go.Proofs.YtogmkfenplihoaaDoorV.PrintWords Go.Proofs.YtogmkfenplihoaaDoorV.PrintLast Go.Proofs.YtogmkfenplihoaaDoorV.PrintMore
theorem put_other {l : List S25} {a b : ByteArray} {i : Nat} (hi : i < l.length) (h : ¬ sameF l[i] a = true) : ∃ h' : i < (putO l a b).length, (putO l a b)[i] = l[i] := by
  rcases put_cases l a b with ⟨_, _, e⟩ | ⟨j, hj, _, g, _, e⟩
  · refine ⟨by rw [e, List.length_append]; omega, ?_⟩
    simp only [e]
    rw [List.getElem_append_left hi]
  · have hne : j ≠ i := fun e => by subst e; exact h g
    refine ⟨by rw [e, List.length_set]; omega, ?_⟩
    simp only [e]
    rw [List.getElem_set_ne hne]
theorem FnPutField : laws_FnPutField.Pure := by
  intro l _ _ hw
  refine Ev.rounds (g := fun k => laws_FnPutField.f k l) ?_
  obtain ⟨r, a, b, hs, h1, h2, h3, h4⟩ := DrawPutField_some l hw
  have hv : smV r := fun x hx => by
    obtain ⟨g1, g2⟩ := h2 x hx
    exact ⟨by omega, by omega⟩
  unfold laws_FnPutField.f
  by_cases h : (l.length : Int) > 1048576
  · exact ev_pos h (Ev.now _)
  have hpl := put_len r a b
  have hlen : (putO r a b).length ≤ 5 := by
    split at hpl <;> omega
  have hz : (putV r a b).1.length ≤ 5 := by
    unfold putV
    split
    · exact hlen
    · simp
  refine ev_neg h (ev_bind hs (ev_bind (impl_PutField_ev r a b (by omega) hv (by omega) (by omega)) (ev_bind (spec_PutField_ev r a b (by omega) hv (by omega) (by omega)) (ev_bind (impl_FieldsSame_ev _ _ (by omega)) (ev_pos (by simp) (ev_neg (by simp) (ev_succ ?_)))))))
  by_cases hc : fieldOk (bytesOf a) (bytesOf b) = true ∧ fsOk r = true ∧ fsOk (putO r a b) = true
  · have e : putV r a b = (putO r a b, true) := if_pos hc
    rw [e]
    simp only [laws_FnPutField.j0, Bool.not_true, Bool.false_eq_true, if_false]
    have hv1 := smV_put hv (a := a) (b := b) (by omega) (by omega)
    obtain ⟨j, hj, p1, p2⟩ := put_place r a b
    have g3 := impl_GetField_eq (putO r a b) a (smV_smF hv1) (by omega)
    rw [getF_at hj p1, p2] at g3
    refine ev_bind1 g3 ?_
    dsimp only
    have hd := drp_le a r
    have hgn := getF_none a r
    have hcnt := impl_CountField_eq r a (by omega) (smV_smF hv) (by omega)
    have loop : ∀ (d i : Nat), i + d = r.length → Ev (fun k => laws_FnPutField.l0 k r (putO r a b) b true (i : Int) a b) true := by
      intro d
      induction d with
      | zero =>
        intro i hi
        refine ev_succ ?_
        simp only [laws_FnPutField.l0]
        refine ev_neg (by omega) (ev_bind1 hcnt (ev_pos (by trivial) (ev_pos (by trivial) ?_)))
        unfold cntF
        by_cases hg : (getF a r).2 = true
        · rw [if_pos hg] at hpl
          have := hgn.1 hg
          exact ev_pos (by omega) (ev_pos (by omega) (Ev.now _))
        · rw [if_neg hg] at hpl
          have : ¬ (drp a r).length < r.length := fun h => hg (hgn.2 h)
          refine ev_neg (by omega) (ev_pos (by omega) (ev_of (congrArg some ?_)))
          rw [hpl, beq_iff_eq, wrap_id (by omega) (by omega)]
          omega
      | succ d ih =>
        intro i hi
        have hlt : i < r.length := by omega
        have hsm := (hv _ (List.getElem_mem hlt)).1
        refine ev_succ ?_
        simp only [laws_FnPutField.l0]
        rw [rdF r i hlt, wrap_up i (by omega)]
        refine ev_pos (by omega) (ev_pos (by omega) (ev_bind1 (same_impl r[i] a (by omega) (by omega)) ?_))
        by_cases hsa : sameF r[i] a = true
        · exact ev_pos hsa (ih (i + 1) (by omega))
        · obtain ⟨q1, q2⟩ := put_other (b := b) hlt hsa
          refine ev_neg hsa (ev_pos (by omega) ?_)
          rw [rdF (putO r a b) i q1, q2, neF]
          exact ev_neg (by simp) (ih (i + 1) (by omega))
    exact loop r.length 0 (by omega)
  · have e : putV r a b = ([], false) := if_neg hc
    rw [e]
    simp only [laws_FnPutField.j0, Bool.not_false, if_true]
    exact ev_bind (impl_FieldsSame_ev _ _ (by simp)) (ev_pos (by simp) (ev_of (by simp)))
end Go.Proofs.YtogmkfenplihoaaDoor.Pure
