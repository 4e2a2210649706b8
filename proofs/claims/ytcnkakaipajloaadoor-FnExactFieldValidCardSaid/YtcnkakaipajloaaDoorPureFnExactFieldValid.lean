/- The program's FieldValid gives what the reference's gives, for any field; no condition. -/
import Derived.Test.YtcnkakaipajloaaDoorK3v
import Derived.Test.YtcnkakaipajloaaDoorKLa
import Derived.Test.YtcnkakaipajloaaDoorRO
import Derived.Test.YtcnkakaipajloaaDoorQ20
set_option linter.unusedVariables false
set_option linter.unusedSimpArgs false
namespace Go.Proofs.YtcnkakaipajloaaDoor.Pure
open Go.RowKit Go.Proofs.YtcnkakaipajloaaDoor.Q Go.Proofs.YtcnkakaipajloaaDoorV.PrintWords Go.Proofs.YtcnkakaipajloaaDoorV.PrintLast Go.Proofs.YtcnkakaipajloaaDoorV.PrintMore
theorem FnExactFieldValid (a b : ByteArray) (ha : a.size ≤ 9223372036854775807) (hb : b.size ≤ 9223372036854775807) : ∃ k, laws_FnExactFieldValid.f k a b = some true := by
  refine Ev.rounds (g := fun k => laws_FnExactFieldValid.f k a b) ?_
  unfold laws_FnExactFieldValid.f
  obtain ⟨r, e1, h1, h2⟩ := szField_eq a b 1048576 (by omega) (by omega) ha hb
  refine ev_bind1 e1 ?_
  by_cases h3 : r < 0
  · exact ev_pos h3 (Ev.now _)
  have g1 := h2 (by omega)
  refine ev_neg h3 (ev_bind1 rfl (ev_bind (spec_FieldValid_ev a b (by omega) (by omega)) (ev_bind1 rfl (ev_bind (impl_FieldValid_ev a b (by omega) (by omega)) ?_))))
  exact ev_neg (by simp) (Ev.now _)
end Go.Proofs.YtcnkakaipajloaaDoor.Pure
