/- An address that is parsed has its domain in small letters, and no empty part; no condition. -/
import Derived.Test.YtmehlmhpgbjddaaDoorXFnAddressCapital
import Derived.Test.YtmehlmhpgbjddaaDoorQ23
set_option linter.unusedVariables false
set_option linter.unusedSimpArgs false
namespace Go.Proofs.YtmehlmhpgbjddaaDoor.Pure
open Go.RowKit Go.Proofs.YtmehlmhpgbjddaaDoor.Q Go.Proofs.YtmehlmhpgbjddaaDoorV.PrintWords Go.Proofs.YtmehlmhpgbjddaaDoorV.PrintLast Go.Proofs.YtmehlmhpgbjddaaDoorV.PrintMore
theorem FnAddressCapital : laws_FnAddressCapital.Pure := by
  intro l _ _ hw
  refine Ev.rounds (g := fun k => laws_FnAddressCapital.f k l) ?_
  obtain ⟨s, hs, h1⟩ := DrawParseAddress_some l hw
  unfold laws_FnAddressCapital.f
  by_cases h : (l.length : Int) > 1048576
  · exact ev_pos h (Ev.now _)
  refine ev_neg h (ev_bind hs (ev_bind (impl_ParseAddress_ev s (by omega)) (ev_bind (spec_ParseAddress_ev s (by omega)) (ev_neg (by simp) (ev_neg (by simp) ?_)))))
  cases hp : parseA (bytesOf s) with
  | none =>
    simp only [outA]
    refine ev_neg (by decide) (ev_pos (by simp) (ev_of ?_))
    simp
  | some a =>
    have hok := parseA_ok hp
    obtain ⟨b1, b2, b3⟩ := ok_B hok
    obtain ⟨h3, h4⟩ : localOk a.lo = true ∧ domOk a.d = true := by have := addrOk_iff.1 hok; exact this.2.2
    have m1 := local_mem h3
    have m2 := dom_mem h4
    have hlow : lowT (strOfNums a.d) = strOfNums a.d := by rw [low_S, L_S b3, lo8_dom h4]
    simp only [outA]
    refine ev_pos trivial (ev_bind1 (impl_LowerText_eq _ (by rw [S_size]; omega)) (ev_pos (by rw [hlow]) (ev_neg (fun e => m1.1 (by have := (nilB _).1 e; rwa [L_S b2] at this)) (ev_of ?_))))
    rw [show ((strOfNums a.d).toList != ([] : List UInt8)) = true from bne_iff_ne.2 (fun e => m2.1 (by have := (nilB _).1 e; rwa [L_S b3] at this))]
end Go.Proofs.YtmehlmhpgbjddaaDoor.Pure
