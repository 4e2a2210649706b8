/- Behind another value, the value that was put is put back, and the last one holds; no condition. -/
import Derived.Test.YtogmkfenplihoaaDoorXFnPutTwice
import Derived.Test.YtogmkfenplihoaaDoorQ0
import Derived.Test.YtogmkfenplihoaaDoorQ17
set_option linter.unusedVariables false
set_option linter.unusedSimpArgs false
namespace Go.Proofs.YtogmkfenplihoaaDoor.Pure
open Go.RowKit Go.Proofs.YtogmkfenplihoaaDoor.Q Go.Proofs.YtogmkfenplihoaaDoorV.PrintWords Go.Proofs.YtogmkfenplihoaaDoorV.PrintLast Go.Proofs.YtogmkfenplihoaaDoorV.PrintMore
theorem ok_put {l : List S25} {a b c : ByteArray} (hf : fieldOk (bytesOf a) (bytesOf c) = true) (h : fsOk (putO l a b) = true) : fsOk (putO (putO l a b) a c) = true := by
  rw [fsOk_put hf h]
  obtain ⟨j, hj, h1, _⟩ := put_place l a b
  have := put_len (putO l a b) a c
  rw [getF_at hj h1, if_pos rfl] at this
  have h20 := (fsOk_iff.1 h).1
  exact decide_eq_true (by omega)
theorem FnPutTwice : laws_FnPutTwice.Pure := by
  intro l _ _ hw
  refine Ev.rounds (g := fun k => laws_FnPutTwice.f k l) ?_
  obtain ⟨r, a, b, hs, h1, h2, h3, h4⟩ := DrawPutField_some l hw
  have hv : smV r := fun x hx => by
    obtain ⟨g1, g2⟩ := h2 x hx
    exact ⟨by omega, by omega⟩
  unfold laws_FnPutTwice.f
  by_cases h : (l.length : Int) > 1048576
  · exact ev_pos h (Ev.now _)
  have hlen : (putO r a b).length ≤ 5 := by
    have := put_len r a b
    split at this <;> omega
  have hz : (putV r a b).1.length ≤ 5 := by
    unfold putV
    split
    · exact hlen
    · simp
  refine ev_neg h (ev_bind hs (ev_bind (impl_PutField_ev r a b (by omega) hv (by omega) (by omega)) (ev_bind (spec_PutField_ev r a b (by omega) hv (by omega) (by omega)) (ev_bind (impl_FieldsSame_ev _ _ (by omega)) (ev_pos (by simp) (ev_neg (by simp) (ev_succ ?_)))))))
  by_cases hc : fieldOk (bytesOf a) (bytesOf b) = true ∧ fsOk r = true ∧ fsOk (putO r a b) = true
  · have e : putV r a b = (putO r a b, true) := if_pos hc
    obtain ⟨c1, c2, c3⟩ := hc
    rw [e]
    simp only [laws_FnPutTwice.j0, Bool.not_true, Bool.false_eq_true, if_false]
    have hv1 := smV_put hv (a := a) (b := b) (by omega) (by omega)
    have ho : fieldOk (bytesOf a) (bytesOf (⟨#[111, 116, 104, 101, 114]⟩ : ByteArray)) = true := by
      obtain ⟨q1, _⟩ := fieldOk_iff.1 c1
      exact fieldOk_iff.2 ⟨q1, by decide, by decide, by decide⟩
    have hv2 := smV_put hv1 (a := a) (b := (⟨#[111, 116, 104, 101, 114]⟩ : ByteArray)) (by omega) (by decide)
    have c4 := ok_put ho c3
    have c5 := ok_put c1 c4
    have e1 : putV (putO r a b) a (⟨#[111, 116, 104, 101, 114]⟩ : ByteArray) = (putO (putO r a b) a (⟨#[111, 116, 104, 101, 114]⟩ : ByteArray), true) := if_pos ⟨ho, c3, c4⟩
    have e2 : putV (putO (putO r a b) a (⟨#[111, 116, 104, 101, 114]⟩ : ByteArray)) a b = (putO r a b, true) := by
      unfold putV
      rw [if_pos ⟨c1, c4, c5⟩, put_put]
    have g1 := impl_PutField_ev (putO r a b) a (⟨#[111, 116, 104, 101, 114]⟩ : ByteArray) (by omega) hv1 (by omega) (by decide)
    have g2 := impl_PutField_ev (putO (putO r a b) a (⟨#[111, 116, 104, 101, 114]⟩ : ByteArray)) a b (by have := (fsOk_iff.1 c4).1; omega) hv2 (by omega) (by omega)
    rw [e1] at g1
    rw [e2] at g2
    obtain ⟨j, hj, p1, p2⟩ := put_place (putO r a b) a (⟨#[111, 116, 104, 101, 114]⟩ : ByteArray)
    have g3 := impl_GetField_eq (putO (putO r a b) a (⟨#[111, 116, 104, 101, 114]⟩ : ByteArray)) a (smV_smF hv2) (by omega)
    rw [getF_at hj p1, p2] at g3
    exact ev_bind g1 (ev_bind g2 (ev_bind1 g3 (ev_pos rfl (ev_pos (by dsimp only; rw [Lib.toList_data]) (ev_pos rfl (ev_bind (impl_FieldsSame_ev _ _ (by dsimp only; omega)) (ev_of (by simp))))))))
  · have e : putV r a b = ([], false) := if_neg hc
    rw [e]
    simp only [laws_FnPutTwice.j0, Bool.not_false, if_true]
    exact ev_bind (impl_FieldsSame_ev _ _ (by simp)) (ev_pos (by simp) (ev_of (by simp)))
end Go.Proofs.YtogmkfenplihoaaDoor.Pure
