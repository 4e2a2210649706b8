/- The counts of all names together are the number of fields; no condition. -/
import Derived.Test.YtiobaiakbbboaaaK3g
import Derived.Test.YtiobaiakbbboaaaD3c
import Derived.Test.YtiobaiakbbboaaaQ0
import Derived.Test.YtiobaiakbbboaaaQ17
set_option linter.unusedVariables false
set_option linter.unusedSimpArgs false
namespace Go.Proofs.Ytiobaiakbbboaaa.Pure
open Go.RowKit Go.Proofs.Ytiobaiakbbboaaa.Q Go.Proofs.YtiobaiakbbboaaaV.PrintWords Go.Proofs.YtiobaiakbbboaaaV.PrintLast Go.Proofs.YtiobaiakbbboaaaV.PrintMore
theorem CountNames_l0 (r : List S39) (hz : r.length ≤ 1000) : ∀ (n : Nat) (m : List S39) (c : Int), m.length ≤ n → m.length ≤ 1000 → smF m → c + m.length = r.length → 0 ≤ c → Ev (fun k => laws_FnCountNames.l0 k r c m) true := by
  intro n
  induction n with
  | zero =>
    intro m c hn hm hs hc h0
    refine ev_succ ?_
    simp only [laws_FnCountNames.l0]
    refine ev_neg (by omega) (ev_of ?_)
    congr 1
    rw [beq_iff_eq]
    omega
  | succ n ih =>
    intro m c hn hm hs hc h0
    cases m with
    | nil =>
      refine ev_succ ?_
      simp only [laws_FnCountNames.l0]
      refine ev_neg (by simp) (ev_of ?_)
      congr 1
      rw [beq_iff_eq]
      simpa using hc
    | cons x xs =>
      have h1 := rdF (x :: xs) 0 (by simp)
      simp only [Int.ofNat_zero, Int.natCast_zero, List.getElem_cons_zero] at h1
      have hx := hs x (by simp)
      refine ev_succ ?_
      simp only [laws_FnCountNames.l0]
      rw [h1]
      have hsame : sameF x x.f0 = true := by simp [sameF]
      have hd : (drp x.f0 (x :: xs)).length ≤ xs.length := by rw [drp_pos hsame]; exact drp_le _ _
      have hl : (x :: xs).length = xs.length + 1 := rfl
      refine ev_pos (by omega) (ev_pos (by omega) (ev_bind1 (impl_CountField_eq _ x.f0 (by omega) hs hx) (ev_bind1 (impl_DropField_eq _ x.f0 (by omega) hs hx) (ev_neg (by omega) ?_))))
      unfold cntF
      rw [wrap_id (by omega) (by omega)]
      exact ih _ _ (by omega) (by omega) (smF_drp hs _) (by omega) (by omega)
theorem FnCountNames : laws_FnCountNames.Pure := by
  intro l _ _ hw
  refine Ev.rounds (g := fun k => laws_FnCountNames.f k l) ?_
  obtain ⟨r, a, hs, h1, h2, h3⟩ := DrawCountField_some l hw
  have hsm : smF r := fun x hx => by have := (h2 x hx).1; omega
  unfold laws_FnCountNames.f
  by_cases h : (l.length : Int) > 1048576
  · exact ev_pos h (Ev.now _)
  exact ev_neg h (ev_bind hs (ev_bind1 (impl_CountField_eq r a (by omega) hsm (by omega)) (ev_bind (spec_CountField_ev r a (by omega) hsm (by omega)) (ev_pos rfl (CountNames_l0 r (by omega) r.length r 0 (Nat.le_refl _) (by omega) hsm (by omega) (by omega))))))
end Go.Proofs.Ytiobaiakbbboaaa.Pure
