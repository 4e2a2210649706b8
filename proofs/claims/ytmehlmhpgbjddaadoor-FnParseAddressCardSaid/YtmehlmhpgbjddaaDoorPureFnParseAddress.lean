/- An address that is parsed is valid, and parsed again from its own text; no condition. -/
import Derived.Test.YtmehlmhpgbjddaaDoorXFnParseAddress
import Derived.Test.YtmehlmhpgbjddaaDoorQ26
set_option linter.unusedVariables false
set_option linter.unusedSimpArgs false
namespace Go.Proofs.YtmehlmhpgbjddaaDoor.Pure
open Go.RowKit Go.Proofs.YtmehlmhpgbjddaaDoor.Q Go.Proofs.YtmehlmhpgbjddaaDoorV.PrintWords Go.Proofs.YtmehlmhpgbjddaaDoorV.PrintLast Go.Proofs.YtmehlmhpgbjddaaDoorV.PrintMore
theorem FnParseAddress : laws_FnParseAddress.Pure := by
  intro l _ _ hw
  refine Ev.rounds (g := fun k => laws_FnParseAddress.f k l) ?_
  obtain ⟨s, hs, h1⟩ := DrawParseAddress_some l hw
  unfold laws_FnParseAddress.f
  by_cases h : (l.length : Int) > 1048576
  · exact ev_pos h (Ev.now _)
  refine ev_neg h (ev_bind hs (ev_bind (impl_ParseAddress_ev s (by omega)) (ev_bind (spec_ParseAddress_ev s (by omega)) (ev_neg (by simp) (ev_neg (by simp) (ev_succ ?_))))))
  simp only [laws_FnParseAddress.j0]
  cases hp : parseA (bytesOf s) with
  | none =>
    simp only [outA]
    refine ev_pos (by decide) (ev_pos (by simp) (ev_of ?_))
    simp
  | some a =>
    have hok := parseA_ok hp
    obtain ⟨b1, b2, b3⟩ := ok_B hok
    have hok' : addrOk a.n a.lo a.d = true := hok
    obtain ⟨f1, f2, f3, f4, f5⟩ := fmt_facts hok'
    obtain ⟨x1, x2, x3, x4⟩ := addrOk_iff.1 hok'
    have y3 := (local_mem x3).2.1
    have y4 := (dom_mem x4).2.1
    simp only [outA]
    have hf := impl_FormatAddress_ev (strOfNums a.n) (strOfNums a.lo) (strOfNums a.d) (by rw [S_size]; omega) (by rw [S_size]; omega) (by rw [S_size]; omega)
    have hv := impl_AddressValid_ev (strOfNums a.n) (strOfNums a.lo) (strOfNums a.d) (by rw [S_size]; omega) (by rw [S_size]; omega) (by rw [S_size]; omega)
    rw [L_S b1, L_S b2, L_S b3, hok'] at hv
    have hL := L_fmtS (strOfNums a.n) (strOfNums a.lo) (strOfNums a.d)
    rw [L_S b1, L_S b2, L_S b3] at hL
    have hz := fmtS_size (strOfNums a.n) (strOfNums a.lo) (strOfNums a.d)
    have hp2 := impl_ParseAddress_ev (fmtS (strOfNums a.n) (strOfNums a.lo) (strOfNums a.d)) (by omega)
    rw [hL, parseA_fmt hok' (trim_of f4) (by rw [textOk_iff]; exact ⟨by omega, f3⟩)] at hp2
    simp only [outA] at hp2
    refine ev_neg (by decide) (ev_bind hf (ev_bind hp2 (ev_bind hv (ev_pos rfl (ev_pos rfl (ev_of ?_))))))
    simp
end Go.Proofs.YtmehlmhpgbjddaaDoor.Pure
