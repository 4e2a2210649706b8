/- The program's FoldField gives what the reference's gives, for any field, in memory of its own; no condition. -/
import Derived.Test.YtcnkakaipajloaaDoorK3f
import Derived.Test.YtcnkakaipajloaaDoorKLa
import Derived.Test.YtcnkakaipajloaaDoorKL
import Derived.Test.YtcnkakaipajloaaDoorRO
import Derived.Test.YtcnkakaipajloaaDoorQ21
set_option linter.unusedVariables false
set_option linter.unusedSimpArgs false
namespace Go.Proofs.YtcnkakaipajloaaDoor.Pure
open Go.RowKit Go.Proofs.YtcnkakaipajloaaDoor.Q Go.Proofs.YtcnkakaipajloaaDoorV.PrintWords Go.Proofs.YtcnkakaipajloaaDoorV.PrintLast Go.Proofs.YtcnkakaipajloaaDoorV.PrintMore
theorem FnExactFoldField (a b : ByteArray) (ha : a.size ≤ 9223372036854775807) (hb : b.size ≤ 9223372036854775807) : ∃ k, laws_FnExactFoldField.f k a b = some true := by
  refine Ev.rounds (g := fun k => laws_FnExactFoldField.f k a b) ?_
  unfold laws_FnExactFoldField.f
  obtain ⟨r, e1, h1, h2⟩ := szField_eq a b 1048576 (by omega) (by omega) ha hb
  refine ev_bind1 e1 ?_
  by_cases h3 : r < 0
  · exact ev_pos h3 (Ev.now _)
  have g1 := h2 (by omega)
  have hl := foldV_len a b (by omega) (by omega)
  obtain ⟨m2, k3, k4⟩ := markS_held (foldV a b) (by omega)
  have hf := impl_FoldField_ev a b (by omega) (by omega)
  refine ev_neg h3 (ev_bind1 rfl (ev_bind (spec_FoldField_ev a b (by omega) (by omega)) (ev_bind1 rfl (ev_bind hf (ev_bind (eqStringS_ev _ _ (by omega)) (ev_pos (by simp) ?_))))))
  refine ev_bind k3 (ev_bind k4 (ev_neg (by omega) (ev_pos rfl (ev_bind1 rfl (ev_bind hf (ev_bind (eqStringS_ev _ _ (by omega)) (ev_pos (by simp) ?_)))))))
  exact ev_bind k4 (ev_neg (by omega) (ev_pos rfl (Ev.now _)))
end Go.Proofs.YtcnkakaipajloaaDoor.Pure
