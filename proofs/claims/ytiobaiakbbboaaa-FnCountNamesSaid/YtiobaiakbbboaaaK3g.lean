/- What the printed searches over fields come to; no condition. -/
import Derived.Test.YtiobaiakbbboaaaK3
import Derived.Test.YtiobaiakbbboaaaK1low
import Derived.Test.YtiobaiakbbboaaaQ0
import Derived.Test.YtiobaiakbbboaaaQ10
import Derived.Test.YtiobaiakbbboaaaQ11
import Derived.Test.YtiobaiakbbboaaaQ3
import Derived.Test.YtiobaiakbbboaaaQ4
set_option linter.unusedVariables false
set_option linter.unusedSimpArgs false
namespace Go.Proofs.Ytiobaiakbbboaaa.Q
open Go.RowKit Go.Proofs.YtiobaiakbbboaaaV.PrintWords Go.Proofs.YtiobaiakbbboaaaV.PrintLast Go.Proofs.YtiobaiakbbboaaaV.PrintMore
/-! ## Fields with a name: found, counted, dropped -/
def sameF (x : S39) (a : ByteArray) : Bool := decide (lowT x.f0 = lowT a)
/-- The place of the first one, from i on. -/
def plc (a : ByteArray) : Nat → List S39 → Int
  | _, [] => -1
  | i, x :: xs => if sameF x a = true then (i : Int) else plc a (i + 1) xs
def getF (a : ByteArray) : List S39 → ByteArray × Bool
  | [] => ((⟨#[]⟩ : ByteArray), false)
  | x :: xs => if sameF x a = true then (x.f1, true) else getF a xs
def drp (a : ByteArray) (l : List S39) : List S39 := l.filter fun x => !sameF x a
def smF (l : List S39) : Prop := ∀ x ∈ l, x.f0.size < 140737488355328
theorem smF_tail {x : S39} {l : List S39} (h : smF (x :: l)) : smF l := fun y hy => h y (List.mem_cons_of_mem _ hy)
theorem smF_drp {l : List S39} (h : smF l) (a : ByteArray) : smF (drp a l) := fun y hy => h y (List.mem_filter.1 hy).1
theorem plc_get (a : ByteArray) : ∀ (l : List S39) (i : Nat), (plc a i l = -1 ∧ getF a l = ((⟨#[]⟩ : ByteArray), false)) ∨ ∃ j, ∃ h : j < l.length, plc a i l = ((i + j : Nat) : Int) ∧ getF a l = ((l[j]).f1, true)
  | [], i => .inl ⟨rfl, rfl⟩
  | x :: xs, i => by
    simp only [plc, getF]
    by_cases h : sameF x a = true
    · rw [if_pos h, if_pos h]
      exact .inr ⟨0, by simp, rfl, rfl⟩
    · rw [if_neg h, if_neg h]
      rcases plc_get a xs (i + 1) with ⟨h1, h2⟩ | ⟨j, hj, h1, h2⟩
      · exact .inl ⟨h1, h2⟩
      · exact .inr ⟨j + 1, by simpa using hj, by rw [h1]; omega, by simpa using h2⟩
theorem get_of_plc (a : ByteArray) (l : List S39) : (if plc a 0 l < 0 then (some ((⟨#[]⟩ : ByteArray), false)) else (if 0 ≤ plc a 0 l then (if plc a 0 l < (l.length : Int) then (some ((rd_T39 l (plc a 0 l)).f1, true)) else (none)) else (none))) = some (getF a l) := by
  rcases plc_get a l 0 with ⟨h1, h2⟩ | ⟨j, hj, h1, h2⟩
  · rw [h1, h2, if_pos (by omega)]
  · rw [h1, h2, Nat.zero_add, if_neg (by omega), if_pos (by omega), if_pos (by omega), rdF l j hj]
theorem getF_low (a b : ByteArray) (h : lowT a = lowT b) : ∀ l, getF a l = getF b l
  | [] => rfl
  | x :: xs => by
    have e : sameF x a = sameF x b := by unfold sameF; rw [h]
    rw [getF, getF, e, getF_low a b h xs]
theorem drp_pos {x : S39} {xs : List S39} {a : ByteArray} (h : sameF x a = true) : drp a (x :: xs) = drp a xs := by
  simp only [drp]
  rw [List.filter_cons_of_neg (by simp [h])]
theorem drp_neg {x : S39} {xs : List S39} {a : ByteArray} (h : ¬ sameF x a = true) : drp a (x :: xs) = x :: drp a xs := by
  simp only [drp]
  rw [List.filter_cons_of_pos (by simp [h])]
theorem drp_le (a : ByteArray) (l : List S39) : (drp a l).length ≤ l.length := List.length_filter_le _ _
theorem getF_none (a : ByteArray) : ∀ l : List S39, (getF a l).2 = true ↔ (drp a l).length < l.length
  | [] => by simp [getF, drp]
  | x :: xs => by
    have h1 := getF_none a xs
    have h2 := drp_le a xs
    by_cases h : sameF x a = true
    · rw [drp_pos h, getF, if_pos h]
      simp only [List.length_cons, true_iff]
      omega
    · rw [drp_neg h, getF, if_neg h, h1]
      simp only [List.length_cons]
      omega
theorem drp_drp (a : ByteArray) (l : List S39) : drp a (drp a l) = drp a l := by
  simp only [drp, List.filter_filter, Bool.and_self]
theorem getF_drp (a : ByteArray) (l : List S39) : (getF a (drp a l)).2 = false := by
  have := getF_none a (drp a l)
  rw [drp_drp] at this
  cases h : (getF a (drp a l)).2 with
  | false => rfl
  | true => exact absurd (this.1 h) (Nat.lt_irrefl _)
theorem same_impl (x : S39) (a : ByteArray) (hx : x.f0.size < 140737488355328) (ha : a.size < 140737488355328) : impl_SameText.f x.f0 a = some (sameF x a) := impl_SameText_eq x.f0 a hx ha
theorem idxO_plc (a : ByteArray) (ha : a.size < 140737488355328) : ∀ (l : List S39) (i : Nat), smF l → idxO (fun x : S39 => impl_SameText.f x.f0 a) i l = some (plc a i l)
  | [], i, _ => rfl
  | x :: xs, i, h => by
    simp only [idxO, plc]
    rw [same_impl x a (h x (by simp)) ha, Option.bind_some]
    by_cases hs : sameF x a = true
    · rw [if_pos hs, if_pos hs]
    · rw [if_neg hs, if_neg hs]
      exact idxO_plc a ha xs (i + 1) (smF_tail h)
theorem impl_fieldPlace_eq (l : List S39) (a : ByteArray) (hl : smF l) (ha : a.size < 140737488355328) : impl_fieldPlace.f l a = some (plc a 0 l) := idxO_plc a ha l 0 hl
theorem impl_GetField_eq (l : List S39) (a : ByteArray) (hl : smF l) (ha : a.size < 140737488355328) : impl_GetField.f l a = some (getF a l) := by
  unfold impl_GetField.f
  rw [impl_fieldPlace_eq l a hl ha, Option.bind_some]
  exact get_of_plc a l
theorem spec_l3Find_l0 (a : ByteArray) (ha : a.size < 140737488355328) (l : List S39) (hz : l.length ≤ 1000000000000) (hl : smF l) : ∀ (d i : Nat), i + d = l.length → Ev (fun k => spec_l3Find.l0 k l a (i : Int)) (plc a i (l.drop i)) := by
  intro d
  induction d with
  | zero =>
    intro i hi
    refine ev_succ ?_
    simp only [spec_l3Find.l0]
    rw [List.drop_eq_nil_of_le (by omega)]
    exact ev_neg (by omega) (Ev.now _)
  | succ d ih =>
    intro i hi
    have hlt : i < l.length := by omega
    refine ev_succ ?_
    simp only [spec_l3Find.l0]
    rw [rdF l i hlt, wrap_up i (by omega), List.drop_eq_getElem_cons hlt]
    simp only [plc]
    refine ev_pos (by omega) (ev_pos (by omega) (ev_bind1 (spec_SameText_eq _ a (hl _ (List.getElem_mem hlt)) ha) ?_))
    by_cases hs : sameF l[i] a = true
    · rw [if_pos hs]
      exact ev_pos hs (Ev.now _)
    · rw [if_neg hs]
      exact ev_neg hs (ih (i + 1) (by omega))
theorem spec_l3Find_ev (l : List S39) (a : ByteArray) (hz : l.length ≤ 1000000000000) (hl : smF l) (ha : a.size < 140737488355328) : Ev (fun k => spec_l3Find.f k l a) (plc a 0 l) := by
  unfold spec_l3Find.f
  exact spec_l3Find_l0 a ha l hz hl l.length 0 (by omega)
theorem spec_GetField_ev (l : List S39) (a : ByteArray) (hz : l.length ≤ 1000000000000) (hl : smF l) (ha : a.size < 140737488355328) : Ev (fun k => spec_GetField.f k l a) (getF a l) := by
  unfold spec_GetField.f
  refine ev_bind (spec_l3Find_ev l a hz hl ha) (ev_of ?_)
  exact get_of_plc a l
theorem delO_drp (a : ByteArray) (ha : a.size < 140737488355328) : ∀ (l : List S39), smF l → delO (fun x : S39 => impl_SameText.f x.f0 a) l = some (drp a l)
  | [], _ => rfl
  | x :: xs, h => by
    simp only [delO, drp]
    rw [same_impl x a (h x (by simp)) ha, delO_drp a ha xs (smF_tail h), Option.bind_some, Option.bind_some]
    by_cases hs : sameF x a = true
    · rw [if_pos hs, List.filter_cons_of_neg (by simp [hs])]; rfl
    · rw [if_neg hs, List.filter_cons_of_pos (by simp [hs])]; rfl
theorem impl_DropField_eq (l : List S39) (a : ByteArray) (hz : l.length ≤ 1000000000000) (hl : smF l) (ha : a.size < 140737488355328) : impl_DropField.f l a = some (drp a l) := by
  unfold impl_DropField.f slices_Clone_impl_Field_impl_Field.f
  rw [if_pos (by omega), Option.bind_some]
  exact delO_drp a ha l hl
/-- How many have the name. -/
def cntF (a : ByteArray) (l : List S39) : Int := (l.length : Int) - ((drp a l).length : Int)
theorem wrap_cnt (a : ByteArray) (l : List S39) (hz : l.length ≤ 1000000000000) : wrap64 ((l.length : Int) - ((drp a l).length : Int)) = cntF a l := by
  have := drp_le a l
  exact wrap_id (by omega) (by omega)
theorem impl_CountField_eq (l : List S39) (a : ByteArray) (hz : l.length ≤ 1000000000000) (hl : smF l) (ha : a.size < 140737488355328) : impl_CountField.f l a = some (cntF a l) := by
  unfold impl_CountField.f
  rw [impl_DropField_eq l a hz hl ha, Option.bind_some, wrap_cnt a l hz]
theorem spec_DropField_l0 (a : ByteArray) (ha : a.size < 140737488355328) (l : List S39) (hz : l.length ≤ 1000000000000) (hl : smF l) : ∀ (d i : Nat) (acc : List S39), i + d = l.length → acc.length ≤ i → Ev (fun k => spec_DropField.l0 k l a acc (i : Int)) (acc ++ drp a (l.drop i)) := by
  intro d
  induction d with
  | zero =>
    intro i acc hi hacc
    refine ev_succ ?_
    simp only [spec_DropField.l0]
    rw [List.drop_eq_nil_of_le (by omega)]
    refine ev_neg (by omega) (ev_of ?_)
    simp [drp]
  | succ d ih =>
    intro i acc hi hacc
    have hlt : i < l.length := by omega
    refine ev_succ ?_
    simp only [spec_DropField.l0]
    rw [rdF l i hlt, wrap_up i (by omega), List.drop_eq_getElem_cons hlt]
    refine ev_pos (by omega) (ev_pos (by omega) (ev_bind1 (spec_SameText_eq _ a (hl _ (List.getElem_mem hlt)) ha) ?_))
    by_cases hs : sameF l[i] a = true
    · refine ev_pos hs (ev_cast (ih (i + 1) acc (by omega) (by omega)) ?_)
      simp only [drp]
      rw [List.filter_cons_of_neg (by simp [hs])]
    · refine ev_neg hs (ev_pos (by omega) (ev_cast (ih (i + 1) (acc ++ [l[i]]) (by omega) (by simp; omega)) ?_))
      simp only [drp]
      rw [List.filter_cons_of_pos (by simp [hs]), List.append_assoc]
      rfl
theorem spec_DropField_ev (l : List S39) (a : ByteArray) (hz : l.length ≤ 1000000000000) (hl : smF l) (ha : a.size < 140737488355328) : Ev (fun k => spec_DropField.f k l a) (drp a l) := by
  unfold spec_DropField.f
  exact spec_DropField_l0 a ha l hz hl l.length 0 [] (by omega) (by simp)
theorem spec_CountField_ev (l : List S39) (a : ByteArray) (hz : l.length ≤ 1000000000000) (hl : smF l) (ha : a.size < 140737488355328) : Ev (fun k => spec_CountField.f k l a) (cntF a l) := by
  unfold spec_CountField.f
  refine ev_bind (spec_DropField_ev l a hz hl ha) (ev_of ?_)
  rw [wrap_cnt a l hz]

end Go.Proofs.Ytiobaiakbbboaaa.Q
