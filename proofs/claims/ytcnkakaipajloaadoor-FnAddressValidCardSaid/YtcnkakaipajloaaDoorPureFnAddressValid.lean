/- An address is valid exactly if it has a text, and its name can be left out; no condition. -/
import Derived.Test.YtcnkakaipajloaaDoorK2f
import Derived.Test.YtcnkakaipajloaaDoorD2v
import Derived.Test.YtcnkakaipajloaaDoorQ17
set_option linter.unusedVariables false
set_option linter.unusedSimpArgs false
namespace Go.Proofs.YtcnkakaipajloaaDoor.Pure
open Go.RowKit Go.Proofs.YtcnkakaipajloaaDoor.Q Go.Proofs.YtcnkakaipajloaaDoorV.PrintWords Go.Proofs.YtcnkakaipajloaaDoorV.PrintLast Go.Proofs.YtcnkakaipajloaaDoorV.PrintMore
theorem FnAddressValid : laws_FnAddressValid.Pure := by
  intro l _ _ hw
  refine Ev.rounds (g := fun k => laws_FnAddressValid.f k l) ?_
  obtain ⟨a, b, c, hs, h1, h2, h3⟩ := DrawAddressValid_some l hw
  unfold laws_FnAddressValid.f
  by_cases h : (l.length : Int) > 1048576
  · exact ev_pos h (Ev.now _)
  refine ev_neg h (ev_bind hs (ev_bind (impl_AddressValid_ev a b c (by omega) (by omega) (by omega)) (ev_bind (spec_AddressValid_ev a b c (by omega) (by omega) (by omega)) ?_)))
  refine ev_pos (by simp) (ev_bind (impl_FormatAddress_ev a b c (by omega) (by omega) (by omega)) (ev_pos ?_ ?_))
  · rw [beq_iff_eq, Bool.eq_iff_iff, bne_iff_ne, ne_eq, fmtS_nil]
    simp
  · cases hf : addrOk (bytesOf a) (bytesOf b) (bytesOf c) with
    | false => exact ev_neg (by decide) (Ev.now _)
    | true =>
      have h4 := addrOk_iff.1 hf
      have h5 : addrOk (bytesOf (⟨#[]⟩ : ByteArray)) (bytesOf b) (bytesOf c) = true := addrOk_iff.2 ⟨rfl, by decide, h4.2.2⟩
      have hg := impl_AddressValid_ev (⟨#[]⟩ : ByteArray) b c (by decide) (by omega) (by omega)
      rw [h5] at hg
      exact ev_pos rfl (ev_bind hg (Ev.now _))
end Go.Proofs.YtcnkakaipajloaaDoor.Pure
