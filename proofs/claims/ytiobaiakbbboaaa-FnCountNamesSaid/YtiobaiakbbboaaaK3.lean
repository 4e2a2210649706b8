/- What the printed functions on fields come to; no condition. -/
import Derived.Test.YtiobaiakbbboaaaC1
import Derived.Test.YtiobaiakbbboaaaQ0
import Derived.Test.YtiobaiakbbboaaaQ10
import Derived.Test.YtiobaiakbbboaaaQ11
import Derived.Test.YtiobaiakbbboaaaQ3
set_option linter.unusedVariables false
set_option linter.unusedSimpArgs false
namespace Go.Proofs.Ytiobaiakbbboaaa.Q
open Go.RowKit Go.Proofs.YtiobaiakbbboaaaV.PrintWords Go.Proofs.YtiobaiakbbboaaaV.PrintLast Go.Proofs.YtiobaiakbbboaaaV.PrintMore
/-! ## Fields -/
theorem rdF (l : List S39) (i : Nat) (h : i < l.length) : rd_T39 l (i : Int) = l[i] := by
  rw [rd_T39, Int.toNat_natCast, List.getD_eq_getElem?_getD, List.getElem?_eq_getElem h]
  rfl
theorem wrap_up (i : Nat) (h : i < 9223372036854775807) : wrap64 ((i : Int) + 1) = ((i + 1 : Nat) : Int) := by
  rw [wrap_id (by omega) (by omega)]
  omega
theorem extF {a b : S39} : a = b ↔ a.f0 = b.f0 ∧ a.f1 = b.f1 := by
  cases a; cases b
  simp
instance decF : DecidableEq S39 := fun _ _ => decidable_of_iff _ extF.symm
theorem neF (a b : S39) : (!((a.f0.toList) == (b.f0.toList)) || (!((a.f1.toList) == (b.f1.toList)))) = !decide (a = b) := by
  rw [toList_beq, toList_beq, ← Bool.not_and, ← Bool.decide_and]
  exact congrArg _ (decide_eq_decide.2 extF.symm)
theorem Equal_l0 (a b : List S39) (hl : a.length = b.length) (hz : a.length ≤ 9223372036854775806) : ∀ (d i : Nat), i + d = a.length → Ev (fun k => slices_Equal_impl_Field_impl_Field.l0 k a b (a.length : Int) (i : Int)) (decide (a.drop i = b.drop i)) := by
  intro d
  induction d with
  | zero =>
    intro i hi
    refine ev_succ ?_
    simp only [slices_Equal_impl_Field_impl_Field.l0]
    rw [List.drop_eq_nil_of_le (by omega), List.drop_eq_nil_of_le (by omega)]
    exact ev_neg (by omega) (Ev.now _)
  | succ d ih =>
    intro i hi
    have ha : i < a.length := by omega
    have hb : i < b.length := by omega
    refine ev_succ ?_
    simp only [slices_Equal_impl_Field_impl_Field.l0]
    rw [rdF a i ha, rdF b i hb, wrap_up i (by omega), List.drop_eq_getElem_cons ha, List.drop_eq_getElem_cons hb, neF]
    refine ev_pos (by omega) (ev_pos (by omega) (ev_pos (by omega) (ev_pos (by omega) ?_)))
    by_cases h : a[i] = b[i]
    · refine ev_neg (by simp [h]) (ev_cast (ih (i + 1) (by omega)) ?_)
      exact decide_eq_decide.2 ⟨fun e => by rw [h, e], fun e => (List.cons.inj e).2⟩
    · refine ev_pos (by simp [h]) (ev_of ?_)
      exact congrArg some (decide_eq_false (fun e => h (List.cons.inj e).1)).symm
theorem impl_FieldsSame_ev (a b : List S39) (hz : a.length ≤ 9223372036854775806) : Ev (fun k => impl_FieldsSame.f k a b) (decide (a = b)) := by
  unfold impl_FieldsSame.f
  refine ev_bind ?_ (Ev.now _)
  unfold slices_Equal_impl_Field_impl_Field.f
  by_cases hl : a.length = b.length
  · exact ev_pos (by omega) (Equal_l0 a b hl hz a.length 0 (by omega))
  · refine ev_neg (by omega) (ev_of ?_)
    exact congrArg some (decide_eq_false (fun e => hl (by rw [e]))).symm
theorem spec_FieldsSame_l0 (a b : List S39) (hl : a.length = b.length) (hz : a.length ≤ 9223372036854775806) : ∀ (d i : Nat), i + d = a.length → Ev (fun k => spec_FieldsSame.l0 k a b (i : Int)) (decide (a.drop i = b.drop i)) := by
  intro d
  induction d with
  | zero =>
    intro i hi
    refine ev_succ ?_
    simp only [spec_FieldsSame.l0]
    rw [List.drop_eq_nil_of_le (by omega), List.drop_eq_nil_of_le (by omega)]
    exact ev_neg (by omega) (Ev.now _)
  | succ d ih =>
    intro i hi
    have ha : i < a.length := by omega
    have hb : i < b.length := by omega
    refine ev_succ ?_
    simp only [spec_FieldsSame.l0]
    rw [rdF a i ha, rdF b i hb, wrap_up i (by omega), List.drop_eq_getElem_cons ha, List.drop_eq_getElem_cons hb, neF]
    refine ev_pos (by omega) (ev_pos (by omega) (ev_pos (by omega) ?_))
    by_cases h : a[i] = b[i]
    · refine ev_neg (by simp [h]) (ev_cast (ih (i + 1) (by omega)) ?_)
      exact decide_eq_decide.2 ⟨fun e => by rw [h, e], fun e => (List.cons.inj e).2⟩
    · refine ev_pos (by simp [h]) (ev_of ?_)
      exact congrArg some (decide_eq_false (fun e => h (List.cons.inj e).1)).symm
theorem spec_FieldsSame_ev (a b : List S39) (hz : a.length ≤ 9223372036854775806) : Ev (fun k => spec_FieldsSame.f k a b) (decide (a = b)) := by
  unfold spec_FieldsSame.f
  by_cases hl : a.length = b.length
  · exact ev_pos (by omega) (spec_FieldsSame_l0 a b hl hz a.length 0 (by omega))
  · refine ev_neg (by omega) (ev_of ?_)
    exact congrArg some (decide_eq_false (fun e => hl (by rw [e]))).symm

end Go.Proofs.Ytiobaiakbbboaaa.Q
