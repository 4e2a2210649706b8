/- The program's FormatAddress gives what the reference's gives, for any address; no condition. -/
import Derived.Test.YtcnkakaipajloaaDoorK2f
import Derived.Test.YtcnkakaipajloaaDoorKLa
import Derived.Test.YtcnkakaipajloaaDoorRO
import Derived.Test.YtcnkakaipajloaaDoorQ22
set_option linter.unusedVariables false
set_option linter.unusedSimpArgs false
namespace Go.Proofs.YtcnkakaipajloaaDoor.Pure
open Go.RowKit Go.Proofs.YtcnkakaipajloaaDoor.Q Go.Proofs.YtcnkakaipajloaaDoorV.PrintWords Go.Proofs.YtcnkakaipajloaaDoorV.PrintLast Go.Proofs.YtcnkakaipajloaaDoorV.PrintMore
theorem FnExactFormatAddress (a b c : ByteArray) (ha : a.size ≤ 9223372036854775807) (hb : b.size ≤ 9223372036854775807) (hc : c.size ≤ 9223372036854775807) : ∃ k, laws_FnExactFormatAddress.f k a b c = some true := by
  refine Ev.rounds (g := fun k => laws_FnExactFormatAddress.f k a b c) ?_
  unfold laws_FnExactFormatAddress.f
  obtain ⟨r, e1, h1, h2⟩ := szAddress_eq a b c 1048576 (by omega) (by omega) ha hb hc
  refine ev_bind1 e1 ?_
  by_cases h3 : r < 0
  · exact ev_pos h3 (Ev.now _)
  have g1 := h2 (by omega)
  refine ev_neg h3 (ev_bind1 rfl (ev_bind (spec_FormatAddress_ev a b c (by omega) (by omega) (by omega)) (ev_bind1 rfl (ev_bind (impl_FormatAddress_ev a b c (by omega) (by omega) (by omega)) ?_))))
  exact ev_pos rfl (Ev.now _)
end Go.Proofs.YtcnkakaipajloaaDoor.Pure
