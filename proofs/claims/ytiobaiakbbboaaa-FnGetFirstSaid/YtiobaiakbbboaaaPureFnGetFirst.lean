/- The first field with a name gives its Value; no condition. -/
import Derived.Test.YtiobaiakbbboaaaK3g
import Derived.Test.YtiobaiakbbboaaaD3c
import Derived.Test.YtiobaiakbbboaaaQ0
import Derived.Test.YtiobaiakbbboaaaQ27
set_option linter.unusedVariables false
set_option linter.unusedSimpArgs false
namespace Go.Proofs.Ytiobaiakbbboaaa.Pure
open Go.RowKit Go.Proofs.Ytiobaiakbbboaaa.Q Go.Proofs.YtiobaiakbbboaaaV.PrintWords Go.Proofs.YtiobaiakbbboaaaV.PrintLast Go.Proofs.YtiobaiakbbboaaaV.PrintMore
theorem GetFirst_l0 (a : ByteArray) (ha : a.size < 140737488355328) (l : List S39) (hz : l.length ≤ 1000000) (hl : smF l) (v : ByteArray) (b : Bool) : ∀ (d i : Nat), i + d = l.length → getF a (l.drop i) = (v, b) → Ev (fun k => laws_FnGetFirst.l0 k l a v b (i : Int)) true := by
  intro d
  induction d with
  | zero =>
    intro i hi hg
    refine ev_succ ?_
    simp only [laws_FnGetFirst.l0]
    rw [List.drop_eq_nil_of_le (by omega)] at hg
    simp only [getF, Prod.mk.injEq] at hg
    obtain ⟨rfl, rfl⟩ := hg
    refine ev_neg (by omega) (ev_neg (by simp) (ev_of ?_))
    rw [toList_nil]
    rfl
  | succ d ih =>
    intro i hi hg
    have hlt : i < l.length := by omega
    refine ev_succ ?_
    simp only [laws_FnGetFirst.l0]
    rw [List.drop_eq_getElem_cons hlt, getF] at hg
    rw [rdF l i hlt, wrap_up i (by omega)]
    refine ev_pos (by omega) (ev_pos (by omega) (ev_bind1 (same_impl _ a (hl _ (List.getElem_mem hlt)) ha) ?_))
    by_cases hs : sameF l[i] a = true
    · rw [if_pos hs] at hg
      simp only [Prod.mk.injEq] at hg
      obtain ⟨rfl, rfl⟩ := hg
      exact ev_pos hs (ev_pos rfl (ev_of (by simp)))
    · rw [if_neg hs] at hg
      exact ev_neg hs (ih (i + 1) (by omega) hg)
theorem FnGetFirst : laws_FnGetFirst.Pure := by
  intro l _ _ hw
  refine Ev.rounds (g := fun k => laws_FnGetFirst.f k l) ?_
  obtain ⟨r, a, hs, h1, h2, h3⟩ := DrawGetField_some l hw
  have hsm : smF r := fun x hx => by have := (h2 x hx).1; omega
  unfold laws_FnGetFirst.f
  by_cases h : (l.length : Int) > 1048576
  · exact ev_pos h (Ev.now _)
  refine ev_neg h (ev_bind hs (ev_bind1 (impl_GetField_eq r a hsm (by omega)) (ev_bind (spec_GetField_ev r a (by omega) hsm (by omega)) (ev_pos rfl (ev_succ ?_)))))
  simp only [bne_self_eq_false, laws_FnGetFirst.j0, Bool.false_eq_true, if_false]
  exact GetFirst_l0 a (by omega) r (by omega) hsm _ _ r.length 0 (by omega) rfl
end Go.Proofs.Ytiobaiakbbboaaa.Pure
