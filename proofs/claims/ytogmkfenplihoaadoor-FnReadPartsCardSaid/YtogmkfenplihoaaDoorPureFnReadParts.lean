/- Lines of fields are those of the first half and those of the second; no condition. -/
import Derived.Test.YtogmkfenplihoaaDoorXFnReadParts
import Derived.Test.YtogmkfenplihoaaDoorQ18
set_option linter.unusedVariables false
set_option linter.unusedSimpArgs false
namespace Go.Proofs.YtogmkfenplihoaaDoor.Pure
open Go.RowKit Go.Proofs.YtogmkfenplihoaaDoor.Q Go.Proofs.YtogmkfenplihoaaDoorV.PrintWords Go.Proofs.YtogmkfenplihoaaDoorV.PrintLast Go.Proofs.YtogmkfenplihoaaDoorV.PrintMore
theorem FnReadParts : laws_FnReadParts.Pure := by
  intro l _ _ hw
  refine Ev.rounds (g := fun k => laws_FnReadParts.f k l) ?_
  obtain ⟨r, hs, h1, h2⟩ := DrawFoldFields_some l hw
  have hv : smV r := fun x hx => by
    obtain ⟨g1, g2⟩ := h2 x hx
    exact ⟨by omega, by omega⟩
  unfold laws_FnReadParts.f
  by_cases h : (l.length : Int) > 1048576
  · exact ev_pos h (Ev.now _)
  have hz : (foldsV r).1.length ≤ 1000000000000 := by
    unfold foldsV
    split
    · rename_i hf
      have := foldA_le r (fsOk_iff.1 hf).2
      show (foldA r).length ≤ _
      omega
    · simp
  refine ev_neg h (ev_bind hs (ev_bind (impl_FoldFields_ev r hv) (ev_bind (spec_FoldFields_ev r (by omega) hv) (ev_bind (mwTexts_ev _ _ hz) (ev_pos (by simp) (ev_neg (by simp) (ev_succ ?_)))))))
  by_cases hf : fsOk r = true
  · have e : foldsV r = (foldA r, true) := if_pos hf
    obtain ⟨f1, f2⟩ := fsOk_iff.1 hf
    rw [e]
    simp only [laws_FnReadParts.j0, Bool.not_true, Bool.false_eq_true, if_false]
    have hwr : wrap64 ((r.length : Int) / 2) = ((r.length / 2 : Nat) : Int) := by
      rw [wrap_id (by omega) (by omega)]
      omega
    rw [hwr, Int.toNat_natCast]
    have t1 : ∀ x ∈ r.take (r.length / 2), x ∈ r := fun x hx => List.mem_of_mem_take hx
    have t2 : ∀ x ∈ r.drop (r.length / 2), x ∈ r := fun x hx => List.mem_of_mem_drop hx
    have k1 : foldsV (r.take (r.length / 2)) = (foldA (r.take (r.length / 2)), true) := if_pos (fsOk_iff.2 ⟨by rw [List.length_take]; omega, fun x hx => f2 x (t1 x hx)⟩)
    have k2 : foldsV (r.drop (r.length / 2)) = (foldA (r.drop (r.length / 2)), true) := if_pos (fsOk_iff.2 ⟨by rw [List.length_drop]; omega, fun x hx => f2 x (t2 x hx)⟩)
    have g1 := impl_FoldFields_ev (r.take (r.length / 2)) fun x hx => hv x (t1 x hx)
    have g2 := impl_FoldFields_ev (r.drop (r.length / 2)) fun x hx => hv x (t2 x hx)
    rw [k1] at g1
    rw [k2] at g2
    have z1 := foldA_le (r.take (r.length / 2)) fun x hx => f2 x (t1 x hx)
    have z2 := foldA_le (r.drop (r.length / 2)) fun x hx => f2 x (t2 x hx)
    rw [List.length_take] at z1
    rw [List.length_drop] at z2
    have hj : foldA (r.take (r.length / 2)) ++ foldA (r.drop (r.length / 2)) = foldA r := by rw [← foldA_append, List.take_append_drop]
    refine ev_pos (by omega) (ev_pos (by omega) (ev_bind g1 (ev_bind g2 (ev_bind1 rfl (ev_pos (by simp only [List.length_nil]; omega) (ev_bind1 rfl (ev_pos (by rw [List.nil_append]; dsimp only; omega) ?_)))))))
    rw [List.nil_append, hj]
    rw [e] at hz
    exact ev_bind (mwTexts_ev _ _ hz) (ev_of (by simp))
  · have e : foldsV r = ([], false) := if_neg hf
    rw [e]
    simp only [laws_FnReadParts.j0, Bool.not_false, if_true]
    exact ev_bind (mwTexts_ev _ _ (by simp)) (ev_pos (by simp) (ev_of (by simp)))
end Go.Proofs.YtogmkfenplihoaaDoor.Pure
