/- The name of an address does not change its mailbox; no condition. -/
import Derived.Test.YtcnkakaipajloaaDoorK2f
import Derived.Test.YtcnkakaipajloaaDoorK2s
import Derived.Test.YtcnkakaipajloaaDoorD2v
import Derived.Test.YtcnkakaipajloaaDoorQ16
set_option linter.unusedVariables false
set_option linter.unusedSimpArgs false
namespace Go.Proofs.YtcnkakaipajloaaDoor.Pure
open Go.RowKit Go.Proofs.YtcnkakaipajloaaDoor.Q Go.Proofs.YtcnkakaipajloaaDoorV.PrintWords Go.Proofs.YtcnkakaipajloaaDoorV.PrintLast Go.Proofs.YtcnkakaipajloaaDoorV.PrintMore
theorem FnAddressName : laws_FnAddressName.Pure := by
  intro l _ _ hw
  refine Ev.rounds (g := fun k => laws_FnAddressName.f k l) ?_
  obtain ⟨a, b, c, hs, h1, h2, h3⟩ := DrawFormatAddress_some l hw
  unfold laws_FnAddressName.f
  by_cases h : (l.length : Int) > 1048576
  · exact ev_pos h (Ev.now _)
  refine ev_neg h (ev_bind hs (ev_bind (impl_FormatAddress_ev a b c (by omega) (by omega) (by omega)) (ev_bind (spec_FormatAddress_ev a b c (by omega) (by omega) (by omega)) (ev_pos rfl (ev_succ ?_)))))
  simp only [laws_FnAddressName.j0]
  cases hf : addrOk (bytesOf a) (bytesOf b) (bytesOf c) with
  | false =>
    refine ev_pos (beq_iff_eq.2 ((fmtS_nil a b c).2 hf)) (ev_bind (spec_FormatAddress_ev a b c (by omega) (by omega) (by omega)) (ev_of ?_))
    rw [toList_beq]
    simp
  | true =>
    have h4 := addrOk_iff.1 hf
    have h5 : addrOk (bytesOf (⟨#[]⟩ : ByteArray)) (bytesOf b) (bytesOf c) = true := addrOk_iff.2 ⟨rfl, by decide, h4.2.2⟩
    have hg := impl_FormatAddress_ev (⟨#[]⟩ : ByteArray) b c (by decide) (by omega) (by omega)
    have hbox : fmtS (⟨#[]⟩ : ByteArray) b c = b ++ (⟨#[64]⟩ : ByteArray) ++ c := by
      rw [box_S]
      unfold fmtS fmtA
      rw [if_pos h5, if_pos (show bytesOf (⟨#[]⟩ : ByteArray) = [] from rfl)]
    obtain ⟨z1, z2, z3⟩ := addr_sizes hf
    have hlen : (fmtS (⟨#[]⟩ : ByteArray) b c).size ≤ (fmtS a b c).size := by
      rw [← L_len, ← L_len, L_fmtS, L_fmtS]
      unfold fmtA
      rw [if_pos h5, if_pos hf, if_pos (show bytesOf (⟨#[]⟩ : ByteArray) = [] from rfl)]
      by_cases hn : bytesOf a = []
      · rw [if_pos hn]; exact Nat.le_refl _
      · rw [if_neg hn]
        simp only [List.length_append, List.length_cons, List.length_nil]
        omega
    refine ev_neg (fun e => by have := (fmtS_nil a b c).1 (beq_iff_eq.1 e); rw [hf] at this; cases this) (ev_bind hg (ev_pos (by omega) (ev_pos (by rw [size_append, size1]; omega) (ev_pos (by rw [hbox]) ?_))))
    refine ev_bind1 (impl_SameBox_eq a b c _ b c (by omega) (by omega)) (ev_pos (by simp) (ev_of ?_))
    exact congrArg some (decide_eq_true (by omega))
end Go.Proofs.YtcnkakaipajloaaDoor.Pure
