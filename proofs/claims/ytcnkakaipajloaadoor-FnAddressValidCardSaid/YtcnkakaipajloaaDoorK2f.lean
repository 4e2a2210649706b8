/- What the printed texts of addresses come to; no condition. -/
import Derived.Test.YtcnkakaipajloaaDoorK2v
import Derived.Test.YtcnkakaipajloaaDoorK1w
import Derived.Test.YtcnkakaipajloaaDoorQ6
import Derived.Test.YtcnkakaipajloaaDoorQ7
set_option linter.unusedVariables false
set_option linter.unusedSimpArgs false
namespace Go.Proofs.YtcnkakaipajloaaDoor.Q
open Go.RowKit Go.Proofs.YtcnkakaipajloaaDoorV.PrintWords Go.Proofs.YtcnkakaipajloaaDoorV.PrintLast Go.Proofs.YtcnkakaipajloaaDoorV.PrintMore
/-! ## Texts of addresses -/
def fmtS (a b c : ByteArray) : ByteArray := strOfNums (fmtA (bytesOf a) (bytesOf b) (bytesOf c))
theorem fmtA_IsB (n lo d : List Int) : IsB (fmtA n lo d) := by
  intro x hx
  by_cases h : addrOk n lo d = true
  · have := (fmt_facts h).2.2.1 x hx
    omega
  · unfold fmtA at hx
    rw [if_neg h] at hx
    cases hx
theorem L_fmtS (a b c : ByteArray) : bytesOf (fmtS a b c) = fmtA (bytesOf a) (bytesOf b) (bytesOf c) := L_S (fmtA_IsB _ _ _)
theorem fmtS_size (a b c : ByteArray) : (fmtS a b c).size ≤ 156 := by
  rw [← L_len, L_fmtS]
  by_cases h : addrOk (bytesOf a) (bytesOf b) (bytesOf c) = true
  · exact (fmt_facts h).2.1
  · unfold fmtA
    rw [if_neg h]; simp
theorem fmtS_nil (a b c : ByteArray) : (fmtS a b c).toList = ([] : List UInt8) ↔ addrOk (bytesOf a) (bytesOf b) (bytesOf c) = false := by
  rw [← toList_nil, toList_iff, ← L_iff, L_fmtS, L_nil]
  constructor
  · intro h
    cases hc : addrOk (bytesOf a) (bytesOf b) (bytesOf c) with
    | false => rfl
    | true =>
      have := (fmt_facts hc).1
      rw [h] at this
      simp at this
  · intro h
    unfold fmtA
    rw [if_neg (by rw [h]; decide)]
theorem nil_iff (a : ByteArray) : a.toList = ([] : List UInt8) ↔ bytesOf a = [] := by rw [← toList_nil, toList_iff, ← L_iff, L_nil]
theorem size1 (x : UInt8) : (⟨#[x]⟩ : ByteArray).size = 1 := rfl
theorem size2 (x y : UInt8) : (⟨#[x, y]⟩ : ByteArray).size = 2 := rfl
theorem box_S (b c : ByteArray) : b ++ (⟨#[64]⟩ : ByteArray) ++ c = strOfNums (boxL (bytesOf b) (bytesOf c)) := by
  rw [← S_L (b ++ (⟨#[64]⟩ : ByteArray) ++ c), L_append, L_append]
  congr 1
  unfold boxL
  rw [List.append_assoc]
  rfl
theorem named_S (a b c : ByteArray) : qB a ++ (⟨#[32, 60]⟩ : ByteArray) ++ b ++ (⟨#[64]⟩ : ByteArray) ++ c ++ (⟨#[62]⟩ : ByteArray) = strOfNums (quoteW (bytesOf a) ++ (32 :: 60 :: (boxL (bytesOf b) (bytesOf c) ++ [62]))) := by
  rw [← S_L (qB a ++ (⟨#[32, 60]⟩ : ByteArray) ++ b ++ (⟨#[64]⟩ : ByteArray) ++ c ++ (⟨#[62]⟩ : ByteArray)), L_append, L_append, L_append, L_append, L_append, L_qB]
  congr 1
  unfold boxL
  simp only [List.append_assoc, List.cons_append]
  rfl
theorem addr_sizes {a b c : ByteArray} (h : addrOk (bytesOf a) (bytesOf b) (bytesOf c) = true) : a.size ≤ 40 ∧ b.size ≤ 30 ∧ c.size ≤ 40 := by
  obtain ⟨_, h2, h3, h4⟩ := addrOk_iff.1 h
  have h5 := (local_mem h3).2.1
  have h6 := (dom_mem h4).2.1
  rw [L_len] at h2 h5 h6
  exact ⟨h2, h5, h6⟩
theorem impl_FormatAddress_ev (a b c : ByteArray) (ha : a.size ≤ 1048576) (hb : b.size ≤ 1048576) (hc : c.size ≤ 1048576) : Ev (fun k => impl_FormatAddress.f k a b c) (fmtS a b c) := by
  unfold impl_FormatAddress.f fmtS fmtA
  refine ev_bind (impl_AddressValid_ev a b c ha hb hc) ?_
  cases h : addrOk (bytesOf a) (bytesOf b) (bytesOf c) with
  | false => rw [if_neg (show ¬ (false = true) by decide)]; exact ev_neg (by decide) (Ev.now _)
  | true =>
    obtain ⟨z1, z2, z3⟩ := addr_sizes h
    have zq := qB_size a
    rw [if_pos rfl]
    refine ev_pos rfl ?_
    by_cases hn : bytesOf a = []
    · rw [if_pos hn, ← box_S]
      refine ev_pos ((nil_iff a).2 hn) (ev_pos (by omega) (ev_pos (by rw [size_append, size1]; omega) (Ev.now _)))
    · rw [if_neg hn, ← named_S]
      refine ev_neg (fun e => hn ((nil_iff a).1 e)) (ev_bind (impl_QuoteWord_ev a (by omega)) ?_)
      refine ev_pos (by omega) (ev_pos (by simp only [size_append, size1, size2]; omega) (ev_pos (by simp only [size_append, size1, size2]; omega) (ev_pos (by simp only [size_append, size1, size2]; omega) (ev_pos (by simp only [size_append, size1, size2]; omega) (Ev.now _)))))
theorem spec_FormatAddress_ev (a b c : ByteArray) (ha : a.size ≤ 1048576) (hb : b.size ≤ 1048576) (hc : c.size ≤ 1048576) : Ev (fun k => spec_FormatAddress.f k a b c) (fmtS a b c) := by
  unfold spec_FormatAddress.f fmtS fmtA
  refine ev_bind (spec_AddressValid_ev a b c ha hb hc) ?_
  cases h : addrOk (bytesOf a) (bytesOf b) (bytesOf c) with
  | false => rw [if_neg (show ¬ (false = true) by decide)]; exact ev_neg (by decide) (Ev.now _)
  | true =>
    obtain ⟨z1, z2, z3⟩ := addr_sizes h
    have zq := qB_size a
    rw [if_pos rfl]
    refine ev_pos rfl (ev_pos (by omega) (ev_pos (by rw [size_append, size1]; omega) ?_))
    by_cases hn : bytesOf a = []
    · rw [if_pos hn, ← box_S]
      exact ev_pos ((nil_iff a).2 hn) (Ev.now _)
    · rw [if_neg hn, ← named_S]
      refine ev_neg (fun e => hn ((nil_iff a).1 e)) (ev_bind (spec_QuoteWord_ev a (by omega)) ?_)
      refine ev_pos (by omega) (ev_pos (by simp only [size_append, size1, size2]; omega) (ev_pos (by simp only [size_append, size1, size2]; omega) (ev_of ?_)))
      congr 1
      apply L_inj
      simp only [L_append, List.append_assoc]

end Go.Proofs.YtcnkakaipajloaaDoor.Q
