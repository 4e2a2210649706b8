/- What the printed marks of the laws come to; no condition. -/
import Derived.Test.YtcnkakaipajloaaDoorC1
import Derived.Test.YtcnkakaipajloaaDoorQ15
set_option linter.unusedVariables false
set_option linter.unusedSimpArgs false
namespace Go.Proofs.YtcnkakaipajloaaDoor.Q
open Go.RowKit Go.Proofs.YtcnkakaipajloaaDoorV.PrintWords Go.Proofs.YtcnkakaipajloaaDoorV.PrintLast Go.Proofs.YtcnkakaipajloaaDoorV.PrintMore
/-! ## The laws' marks -/
theorem markText_l0 : ∀ (n : Nat) (x : Int) (t : ByteArray), x < n → 0 ≤ x → x ≤ 1000000000000 → t.size + x ≤ 1000000000000000 → ∃ r, Ev (fun k => laws_markText.l0 k x t) r := by
  intro n
  induction n with
  | zero => intro x t h1 h2; omega
  | succ n ih =>
    intro x t h1 h2 h3 h4
    by_cases h0 : x > 0
    · have e : wrap64 (Int.tdiv x 10) = x / 10 := by rw [Int.tdiv_eq_ediv_of_nonneg h2]; exact wrap_id (by omega) (by omega)
      have hsz : (strOfNums [(wrap64 (48 + (Int.tmod x 10))) % 256] ++ t).size = 1 + t.size := by rw [size_append, S_size]; rfl
      obtain ⟨r, hr⟩ := ih (x / 10) (strOfNums [(wrap64 (48 + (Int.tmod x 10))) % 256] ++ t) (by omega) (by omega) (by omega) (by rw [hsz]; omega)
      refine ⟨r, ev_succ ?_⟩
      simp only [laws_markText.l0]
      refine ev_pos h0 (ev_bind1 rfl (ev_pos (by rw [S_size]; simp; omega) ?_))
      rw [e]
      exact hr
    · refine ⟨(⟨#[109]⟩ : ByteArray) ++ t, ev_succ ?_⟩
      simp only [laws_markText.l0]
      exact ev_neg h0 (ev_pos (by omega) (Ev.now _))
theorem markText_some (x : Int) (h : x ≤ 1000000000000) : ∃ r, Ev (fun k => laws_markText.f k x) r := by
  unfold laws_markText.f
  by_cases h0 : x ≤ 0
  · exact ⟨(⟨#[109, 48]⟩ : ByteArray), ev_pos h0 (Ev.now _)⟩
  · obtain ⟨r, hr⟩ := markText_l0 (x + 1).toNat x (⟨#[]⟩ : ByteArray) (by omega) (by omega) h (by show ((0 : Nat) : Int) + x ≤ _; omega)
    exact ⟨r, ev_neg h0 hr⟩
noncomputable def mkT (x : Int) : ByteArray := by
  classical
  exact if h : ∃ r, Ev (fun k => laws_markText.f k x) r then h.choose else ByteArray.empty
theorem mkT_ev (x : Int) (h : x ≤ 1000000000000) : Ev (fun k => laws_markText.f k x) (mkT x) := by
  have h' := markText_some x h
  unfold mkT
  rw [dif_pos h']
  exact h'.choose_spec

end Go.Proofs.YtcnkakaipajloaaDoor.Q
