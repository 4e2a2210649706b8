/- What the printed helpers of the laws on fields come to; no condition. -/
import Derived.Test.YtiobaiakbbboaaaK3
import Derived.Test.YtiobaiakbbboaaaKLa
import Derived.Test.YtiobaiakbbboaaaQ0
import Derived.Test.YtiobaiakbbboaaaQ13
import Derived.Test.YtiobaiakbbboaaaQ16
set_option linter.unusedVariables false
set_option linter.unusedSimpArgs false
namespace Go.Proofs.Ytiobaiakbbboaaa.Q
open Go.RowKit Go.Proofs.YtiobaiakbbboaaaV.PrintWords Go.Proofs.YtiobaiakbbboaaaV.PrintLast Go.Proofs.YtiobaiakbbboaaaV.PrintMore
/-! ## The laws' own helpers on fields -/
theorem rdFL (l : List S62) (i : Nat) (h : i < l.length) : rd_T62 l (i : Int) = l[i] := by
  rw [rd_T62, Int.toNat_natCast, List.getD_eq_getElem?_getD, List.getElem?_eq_getElem h]
  rfl
def toF (x : S62) : S39 := ⟨x.f0, x.f1⟩
theorem toFieldS_l0 (a : List S62) (hz : a.length ≤ 1000000000000) : ∀ (d i : Nat) (b : List S39), i + d = a.length → b.length = a.length → b.take i = (a.map toF).take i → Ev (fun k => laws_toFieldS.l0 k a b (i : Int)) (a.map toF) := by
  intro d
  induction d with
  | zero =>
    intro i b hi hl ht
    refine ev_succ ?_
    simp only [laws_toFieldS.l0]
    rw [List.take_of_length_le (by omega), List.take_of_length_le (by simp; omega)] at ht
    rw [← ht]
    exact ev_neg (by omega) (Ev.now _)
  | succ d ih =>
    intro i b hi hl ht
    have ha : i < a.length := by omega
    refine ev_succ ?_
    simp only [laws_toFieldS.l0]
    rw [rdFL a i ha, wrap_up i (by omega)]
    refine ev_pos (by omega) (ev_pos (by omega) (ev_bind1 (show laws_toField.f a[i].f0 a[i].f1 = some (a[i].f0, a[i].f1) from rfl) (ev_pos (by omega) ?_)))
    rw [Int.toNat_natCast]
    refine ih (i + 1) _ (by omega) (by simpa using hl) ?_
    rw [List.take_succ_eq_append_getElem (by simp; omega), List.take_succ_eq_append_getElem (by simp; omega), List.take_set_of_le (by omega), ht, List.getElem_set_self, List.getElem_map]
    rfl
theorem toFieldS_ev (a : List S62) (hz : a.length ≤ 1000000000000) : Ev (fun k => laws_toFieldS.f k a) (a.map toF) := by
  unfold laws_toFieldS.f
  refine ev_pos (by omega) (ev_pos (by omega) ?_)
  rw [Int.toNat_natCast]
  exact toFieldS_l0 a hz a.length 0 _ (by omega) (by simp) (by simp)
theorem szFieldS_l0 (a : List S62) (hz : a.length ≤ 1000000000000) (hs : ∀ x ∈ a, x.f0.size ≤ 9223372036854775807 ∧ x.f1.size ≤ 9223372036854775807) : ∀ (d i : Nat) (n : Int), i + d = a.length → 0 ≤ n → n ≤ 1048576 → ∃ r, Ev (fun k => laws_szFieldS.l0 k a n (i : Int)) r ∧ r ≤ n ∧ (0 ≤ r → ∀ x ∈ a.drop i, (x.f0.size : Int) ≤ n ∧ (x.f1.size : Int) ≤ n) := by
  intro d
  induction d with
  | zero =>
    intro i n hi h0 hn
    refine ⟨n, ev_succ ?_, by omega, ?_⟩
    · simp only [laws_szFieldS.l0]
      exact ev_neg (by omega) (Ev.now _)
    · rw [List.drop_eq_nil_of_le (by omega)]
      simp
  | succ d ih =>
    intro i n hi h0 hn
    have ha : i < a.length := by omega
    obtain ⟨g1, g2⟩ := hs a[i] (List.getElem_mem ha)
    obtain ⟨r, e1, h1, h2⟩ := szField_eq a[i].f0 a[i].f1 n hn h0 g1 g2
    by_cases h3 : r < 0
    · refine ⟨-1, ev_succ ?_, by omega, fun h => by omega⟩
      simp only [laws_szFieldS.l0]
      rw [rdFL a i ha]
      exact ev_pos (by omega) (ev_pos (by omega) (ev_bind1 e1 (ev_pos h3 (Ev.now _))))
    · obtain ⟨r', e2, h4, h5⟩ := ih (i + 1) r (by omega) (by omega) (by omega)
      refine ⟨r', ev_succ ?_, by omega, fun h => ?_⟩
      · simp only [laws_szFieldS.l0]
        rw [rdFL a i ha, wrap_up i (by omega)]
        exact ev_pos (by omega) (ev_pos (by omega) (ev_bind1 e1 (ev_neg h3 e2)))
      · rw [List.drop_eq_getElem_cons ha]
        intro x hx
        rcases List.mem_cons.1 hx with e | hx
        · rw [e]; exact h2 (by omega)
        · have := h5 h x hx
          omega
/-- Too much, or what has a size. -/
theorem szFieldS_ev (a : List S62) (n : Int) (hn : n ≤ 1048576) (h0 : 0 ≤ n) (hz : a.length ≤ 9223372036854775807) (hs : ∀ x ∈ a, x.f0.size ≤ 9223372036854775807 ∧ x.f1.size ≤ 9223372036854775807) : ∃ r, Ev (fun k => laws_szFieldS.f k a n) r ∧ r ≤ n ∧ (0 ≤ r → (a.length : Int) ≤ n ∧ ∀ x ∈ a, (x.f0.size : Int) ≤ n ∧ (x.f1.size : Int) ≤ n) := by
  unfold laws_szFieldS.f
  rw [wrap_id (x := n - (a.length : Int)) (by omega) (by omega)]
  by_cases h : n - (a.length : Int) < 0
  · exact ⟨-1, ev_pos h (Ev.now _), by omega, fun h => by omega⟩
  · obtain ⟨r, e1, h1, h2⟩ := szFieldS_l0 a (by omega) hs a.length 0 (n - (a.length : Int)) (by omega) (by omega) (by omega)
    refine ⟨r, ev_neg h e1, by omega, fun h3 => ⟨by omega, fun x hx => ?_⟩⟩
    have := h2 h3 x (by simpa using hx)
    omega
theorem eqField_eq (a b : S39) : laws_eqField.f a.f0 a.f1 b.f0 b.f1 = some (decide (a = b)) := by
  unfold laws_eqField.f
  by_cases h : a.f0 = b.f0
  · rw [if_pos (toList_iff.2 h)]
    by_cases h' : a.f1 = b.f1
    · rw [if_pos (toList_iff.2 h')]
      exact congrArg some (decide_eq_true (extF.2 ⟨h, h'⟩)).symm
    · rw [if_neg (fun e => h' (toList_iff.1 e))]
      exact congrArg some (decide_eq_false (fun e => h' (extF.1 e).2)).symm
  · rw [if_neg (fun e => h (toList_iff.1 e))]
    exact congrArg some (decide_eq_false (fun e => h (extF.1 e).1)).symm
theorem eqFieldS_l0 (a b : List S39) (hl : a.length = b.length) (hz : a.length ≤ 1000000000000) : ∀ (d i : Nat), i + d = a.length → Ev (fun k => laws_eqFieldS.l0 k a b (i : Int)) (decide (a.drop i = b.drop i)) := by
  intro d
  induction d with
  | zero =>
    intro i hi
    refine ev_succ ?_
    simp only [laws_eqFieldS.l0]
    rw [List.drop_eq_nil_of_le (by omega), List.drop_eq_nil_of_le (by omega)]
    exact ev_neg (by omega) (Ev.now _)
  | succ d ih =>
    intro i hi
    have ha : i < a.length := by omega
    have hb : i < b.length := by omega
    refine ev_succ ?_
    simp only [laws_eqFieldS.l0]
    rw [rdF a i ha, rdF b i hb, wrap_up i (by omega), List.drop_eq_getElem_cons ha, List.drop_eq_getElem_cons hb]
    refine ev_pos (by omega) (ev_pos (by omega) (ev_pos (by omega) (ev_bind1 (eqField_eq a[i] b[i]) ?_)))
    by_cases h : a[i] = b[i]
    · refine ev_pos (by simp [h]) (ev_cast (ih (i + 1) (by omega)) ?_)
      exact decide_eq_decide.2 ⟨fun e => by rw [h, e], fun e => (List.cons.inj e).2⟩
    · refine ev_neg (by simp [h]) (ev_of ?_)
      exact congrArg some (decide_eq_false (fun e => h (List.cons.inj e).1)).symm
theorem eqFieldS_ev (a b : List S39) (hz : a.length ≤ 1000000000000) : Ev (fun k => laws_eqFieldS.f k a b) (decide (a = b)) := by
  unfold laws_eqFieldS.f
  by_cases hl : a.length = b.length
  · exact ev_pos (by omega) (eqFieldS_l0 a b hl hz a.length 0 (by omega))
  · refine ev_neg (by omega) (ev_of ?_)
    exact congrArg some (decide_eq_false (fun e => hl (by rw [e]))).symm

end Go.Proofs.Ytiobaiakbbboaaa.Q
