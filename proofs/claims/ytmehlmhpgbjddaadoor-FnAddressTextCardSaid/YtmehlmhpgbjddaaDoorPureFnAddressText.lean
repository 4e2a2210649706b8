/- A valid address is parsed from its text, and from its text with spaces round it; no condition. -/
import Derived.Test.YtmehlmhpgbjddaaDoorXFnAddressText
import Derived.Test.YtmehlmhpgbjddaaDoorQ21
set_option linter.unusedVariables false
set_option linter.unusedSimpArgs false
namespace Go.Proofs.YtmehlmhpgbjddaaDoor.Pure
open Go.RowKit Go.Proofs.YtmehlmhpgbjddaaDoor.Q Go.Proofs.YtmehlmhpgbjddaaDoorV.PrintWords Go.Proofs.YtmehlmhpgbjddaaDoorV.PrintLast Go.Proofs.YtmehlmhpgbjddaaDoorV.PrintMore
theorem FnAddressText : laws_FnAddressText.Pure := by
  intro l _ _ hw
  refine Ev.rounds (g := fun k => laws_FnAddressText.f k l) ?_
  obtain ⟨a, b, c, hs, h1, h2, h3⟩ := DrawFormatAddress_some l hw
  unfold laws_FnAddressText.f
  by_cases h : (l.length : Int) > 1048576
  · exact ev_pos h (Ev.now _)
  have hv := impl_AddressValid_ev a b c (by omega) (by omega) (by omega)
  have hne : ((fmtS a b c).toList != ([] : List UInt8)) = addrOk (bytesOf a) (bytesOf b) (bytesOf c) := by
    rw [Bool.eq_iff_iff, bne_iff_ne, ne_eq, fmtS_nil]
    simp
  refine ev_neg h (ev_bind hs (ev_bind (impl_FormatAddress_ev a b c (by omega) (by omega) (by omega)) (ev_bind (spec_FormatAddress_ev a b c (by omega) (by omega) (by omega)) (ev_pos rfl (ev_bind hv (ev_neg (by rw [hne]; simp) (ev_bind hv (ev_bind (spec_AddressValid_ev a b c (by omega) (by omega) (by omega)) (ev_succ ?_)))))))))
  simp only [bne_self_eq_false, laws_FnAddressText.j0, Bool.false_eq_true, if_false]
  cases hf : addrOk (bytesOf a) (bytesOf b) (bytesOf c) with
  | false => exact ev_pos ((fmtS_nil a b c).2 hf) (Ev.now _)
  | true =>
    have hfz := fmtS_size a b c
    obtain ⟨f1, f2, f3, f4, f5⟩ := fmt_facts hf
    have hL := L_fmtS a b c
    have hok : textOk (fmtA (bytesOf a) (bytesOf b) (bytesOf c)) = true := by rw [textOk_iff]; exact ⟨by omega, f3⟩
    have hp1 := impl_ParseAddress_ev (fmtS a b c) (by omega)
    rw [hL, parseA_fmt hf (trim_of f4) hok] at hp1
    have hW : bytesOf ((⟨#[32, 32]⟩ : ByteArray) ++ fmtS a b c ++ (⟨#[32]⟩ : ByteArray)) = 32 :: 32 :: (fmtA (bytesOf a) (bytesOf b) (bytesOf c) ++ [32]) := by
      rw [L_append, L_append, hL]
      rfl
    have hok2 : textOk (32 :: 32 :: (fmtA (bytesOf a) (bytesOf b) (bytesOf c) ++ [32])) = true := by
      rw [textOk_iff]
      refine ⟨by simp only [List.length_cons, List.length_append, List.length_nil]; omega, fun x hx => ?_⟩
      rcases List.mem_cons.1 hx with e | hx
      · omega
      · rcases List.mem_cons.1 hx with e | hx
        · omega
        · rcases List.mem_append.1 hx with hx | hx
          · exact f3 x hx
          · have : x = 32 := by simpa using hx
            omega
    have hp2 := impl_ParseAddress_ev ((⟨#[32, 32]⟩ : ByteArray) ++ fmtS a b c ++ (⟨#[32]⟩ : ByteArray)) (by rw [size_append, size_append, size1, size2]; omega)
    rw [hW, parseA_fmt hf (by rw [trim_sp, trim_sp, trim_sp_end]; exact trim_of f4) hok2] at hp2
    simp only [outA, S_L] at hp1 hp2
    refine ev_neg (fun e => by have := (fmtS_nil a b c).1 e; rw [hf] at this; cases this) (ev_bind hp1 (ev_pos (by omega) (ev_pos (by rw [size_append, size2]; omega) (ev_bind hp2 (ev_pos rfl (ev_pos (by simp) (ev_pos rfl (ev_of ?_))))))))
    simp
end Go.Proofs.YtmehlmhpgbjddaaDoor.Pure
