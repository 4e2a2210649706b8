/- Behind a drop, a field of that name that is put stands last, and is the only one; no condition. -/
import Derived.Test.YtcnkakaipajloaaDoorXFnDropPut
import Derived.Test.YtcnkakaipajloaaDoorQ0
import Derived.Test.YtcnkakaipajloaaDoorQ18
set_option linter.unusedVariables false
set_option linter.unusedSimpArgs false
namespace Go.Proofs.YtcnkakaipajloaaDoor.Pure
open Go.RowKit Go.Proofs.YtcnkakaipajloaaDoor.Q Go.Proofs.YtcnkakaipajloaaDoorV.PrintWords Go.Proofs.YtcnkakaipajloaaDoorV.PrintLast Go.Proofs.YtcnkakaipajloaaDoorV.PrintMore
theorem FnDropPut : laws_FnDropPut.Pure := by
  intro l _ _ hw
  refine Ev.rounds (g := fun k => laws_FnDropPut.f k l) ?_
  obtain ⟨r, a, hs, h1, h2, h3⟩ := DrawDropField_some l hw
  have hsm : smF r := fun x hx => by have := (h2 x hx).1; omega
  have hsv : smV (drp a r) := fun x hx => by
    obtain ⟨g1, g2⟩ := h2 x (List.mem_filter.1 hx).1
    exact ⟨by omega, by omega⟩
  have hd := drp_le a r
  unfold laws_FnDropPut.f
  by_cases h : (l.length : Int) > 1048576
  · exact ev_pos h (Ev.now _)
  have hp := impl_PutField_ev (drp a r) a (⟨#[118]⟩ : ByteArray) (by omega) hsv (by omega) (by decide)
  refine ev_neg h (ev_bind hs (ev_bind1 (impl_DropField_eq r a (by omega) hsm (by omega)) (ev_bind (spec_DropField_ev r a (by omega) hsm (by omega)) (ev_bind (impl_FieldsSame_ev _ _ (by omega)) (ev_pos (by simp) (ev_bind hp ?_))))))
  unfold putV
  split
  · have e : putO (drp a r) a (⟨#[118]⟩ : ByteArray) = drp a r ++ [⟨a, ⟨#[118]⟩⟩] := by
      rcases put_cases (drp a r) a (⟨#[118]⟩ : ByteArray) with ⟨_, _, e⟩ | ⟨j, hj, _, g, _, _⟩
      · exact e
      · have := (List.mem_filter.1 (List.getElem_mem hj)).2
        rw [g] at this
        cases this
    rw [e]
    simp only [List.length_append, List.length_cons, List.length_nil]
    have hrd : rd_T26 (drp a r ++ [⟨a, ⟨#[118]⟩⟩]) ((drp a r).length : Int) = ⟨a, ⟨#[118]⟩⟩ := by
      rw [rdF _ _ (by simp)]
      simp
    have hdd : drp a (drp a r ++ [⟨a, ⟨#[118]⟩⟩]) = drp a r := by
      rw [show drp a (drp a r ++ [⟨a, ⟨#[118]⟩⟩]) = drp a (drp a r) ++ drp a [⟨a, ⟨#[118]⟩⟩] from List.filter_append .., drp_drp, drp_pos (same_self a _)]
      simp [drp]
    have hsm' : smF (drp a r ++ [⟨a, ⟨#[118]⟩⟩]) := by
      intro x hx
      rcases List.mem_append.1 hx with hx | hx
      · exact smF_drp hsm a x hx
      · obtain rfl : x = ⟨a, ⟨#[118]⟩⟩ := by simpa using hx
        show a.size < _
        omega
    rw [show wrap64 ((((drp a r).length + (0 + 1) : Nat) : Int) - 1) = ((drp a r).length : Int) by rw [wrap_id (by omega) (by omega)]; omega, hrd, show wrap64 (((drp a r).length : Int) + 1) = (((drp a r).length + 1 : Nat) : Int) by rw [wrap_id (by omega) (by omega)]; omega]
    refine ev_pos (by trivial) (ev_pos (by omega) (ev_pos (by omega) (ev_pos (by simp) (ev_pos (by omega) (ev_bind1 (impl_CountField_eq _ a (by simp; omega) hsm' (by omega)) (ev_of ?_))))))
    unfold cntF
    rw [hdd]
    simp only [List.length_append, List.length_cons, List.length_nil]
    refine congrArg some ?_
    rw [beq_iff_eq]
    omega
  · exact ev_neg (by simp) (Ev.now _)
end Go.Proofs.YtcnkakaipajloaaDoor.Pure
