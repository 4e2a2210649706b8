/- Each mailbox comes once, the first one first, and there is no more to drop; no condition. -/
import Derived.Test.YtiobaiakbbboaaaK2L
import Derived.Test.YtiobaiakbbboaaaD2d
import Derived.Test.YtiobaiakbbboaaaQ0
import Derived.Test.YtiobaiakbbboaaaQ19
set_option linter.unusedVariables false
set_option linter.unusedSimpArgs false
namespace Go.Proofs.Ytiobaiakbbboaaa.Pure
open Go.RowKit Go.Proofs.Ytiobaiakbbboaaa.Q Go.Proofs.YtiobaiakbbboaaaV.PrintWords Go.Proofs.YtiobaiakbbboaaaV.PrintLast Go.Proofs.YtiobaiakbbboaaaV.PrintMore
theorem DropRepeated_l1 (r q : List S50) (hr : smA r) (hq : smA q) (hz : q.length ≤ 1000) (hz2 : r.length ≤ 1000) (i : Nat) (hi : i < r.length) (R : Bool) :
    ∀ (d j : Nat) (c : Int), j + d = q.length → 0 ≤ c → c ≤ 1000 + j → c + (((q.drop j).filter fun y => decide (keyA y = keyA r[i])).length : Int) = 1 → Ev (fun k => laws_FnDropRepeated.l0 k r q ((i + 1 : Nat) : Int)) R → Ev (fun k => laws_FnDropRepeated.l1 k r q (i : Int) c (j : Int)) R := by
  intro d
  induction d with
  | zero =>
    intro j c hj h0 h1 hc h
    rw [List.drop_eq_nil_of_le (by omega)] at hc
    refine ev_succ ?_
    simp only [laws_FnDropRepeated.l1]
    rw [wrap_upA i (by omega)]
    refine ev_neg (by omega) (ev_pos ?_ h)
    simpa using hc
  | succ d ih =>
    intro j c hj h0 h1 hc h
    have hlt : j < q.length := by omega
    rw [List.drop_eq_getElem_cons hlt] at hc
    refine ev_succ ?_
    simp only [laws_FnDropRepeated.l1]
    rw [rdA q j hlt, rdA r i hi, wrap_upA j (by omega), wrap_id (x := c + 1) (by omega) (by omega)]
    refine ev_pos (by omega) (ev_pos (by omega) (ev_pos (by omega) (ev_pos (by omega) (ev_bind1 (box_impl _ _ (hq _ (List.getElem_mem hlt)) (hr _ (List.getElem_mem hi))) ?_))))
    by_cases he : keyA q[j] = keyA r[i]
    · rw [List.filter_cons_of_pos (by simp [he]), List.length_cons] at hc
      exact ev_pos (decide_eq_true he) (ih (j + 1) (c + 1) (by omega) (by omega) (by omega) (by omega) h)
    · rw [List.filter_cons_of_neg (by simp [he])] at hc
      exact ev_neg (by simp [he]) (ih (j + 1) c (by omega) (by omega) (by omega) hc h)
theorem DropRepeated_l0 (r : List S50) (hr : smA r) (hz2 : r.length ≤ 1000) : ∀ (d i : Nat), i + d = r.length → Ev (fun k => laws_FnDropRepeated.l0 k r (dd [] r) (i : Int)) true := by
  have hd := dd_length r []
  have hq := smA_dd hr []
  intro d
  induction d with
  | zero =>
    intro i hi
    refine ev_succ ?_
    simp only [laws_FnDropRepeated.l0]
    refine ev_neg (by omega) (ev_bind1 (impl_DropRepeated_eq _ (by omega) hq) ?_)
    rw [dd_dd]
    refine ev_bind (mwA_ev _ _ (by omega)) (ev_pos (by simp) ?_)
    cases r with
    | nil => exact ev_pos (by simp) (Ev.now _)
    | cons x xs =>
      have e : dd [] (x :: xs) = x :: dd [keyA x] xs := by simp [dd]
      rw [e]
      refine ev_neg (by simp; omega) (ev_pos (by simp) (ev_pos (by simp) (ev_of ?_)))
      have h1 := rdA (x :: dd [keyA x] xs) 0 (by simp)
      have h2 := rdA (x :: xs) 0 (by simp)
      simp only [Int.ofNat_zero, Int.natCast_zero, List.getElem_cons_zero] at h1 h2
      rw [h1, h2, eqA]
      simp
  | succ d ih =>
    intro i hi
    have hlt : i < r.length := by omega
    refine ev_succ ?_
    simp only [laws_FnDropRepeated.l0]
    refine ev_pos (by omega) (DropRepeated_l1 r (dd [] r) hr hq (by omega) hz2 i hlt true (dd [] r).length 0 0 (by omega) (by omega) (by omega) ?_ (ih (i + 1) (by omega)))
    rw [List.drop_zero, dd_count, if_neg (by simp), if_pos (List.mem_map_of_mem (List.getElem_mem hlt))]
    rfl
theorem FnDropRepeated : laws_FnDropRepeated.Pure := by
  intro l _ _ hw
  refine Ev.rounds (g := fun k => laws_FnDropRepeated.f k l) ?_
  obtain ⟨r, hs, h1, h2⟩ := DrawDropRepeated_some l hw
  have hsm : smA r := fun x hx => by have := (h2 x hx).2.2; omega
  have hd := dd_length r []
  unfold laws_FnDropRepeated.f
  by_cases h : (l.length : Int) > 1048576
  · exact ev_pos h (Ev.now _)
  exact ev_neg h (ev_bind hs (ev_bind1 (impl_DropRepeated_eq r (by omega) hsm) (ev_bind (spec_DropRepeated_ev r (by omega) hsm) (ev_bind (mwA_ev _ _ (by omega)) (ev_pos (by simp) (DropRepeated_l0 r hsm (by omega) r.length 0 (by omega)))))))
end Go.Proofs.Ytiobaiakbbboaaa.Pure
