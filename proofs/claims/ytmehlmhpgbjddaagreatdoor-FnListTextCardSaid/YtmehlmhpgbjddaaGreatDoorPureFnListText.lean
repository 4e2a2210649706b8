/- A list's text is parsed back, and what is parsed keeps its text; no condition. -/
import Derived.Test.YtmehlmhpgbjddaaGreatDoorXFnListText
import Derived.Test.YtmehlmhpgbjddaaGreatDoorQ0
import Derived.Test.YtmehlmhpgbjddaaGreatDoorQ9
set_option linter.unusedVariables false
set_option linter.unusedSimpArgs false
namespace Go.Proofs.YtmehlmhpgbjddaaGreatDoor.Pure
open Go.RowKit Go.Proofs.YtmehlmhpgbjddaaGreatDoor.Q Go.Proofs.YtmehlmhpgbjddaaGreatDoorV.PrintWords Go.Proofs.YtmehlmhpgbjddaaGreatDoorV.PrintLast Go.Proofs.YtmehlmhpgbjddaaGreatDoorV.PrintMore
theorem plB_fmt (l : List S36) (h : fmtL (l.map adr) ≠ []) : plB (fmtLS l) = (l, true) := by
  have e : ((l.map adr).map unA) = l := by
    rw [List.map_map]
    exact (List.map_congr_left fun x _ => unA_adr x).trans (List.map_id l)
  unfold plB
  rw [L_fmtLS, parseL_fmt _ h]
  exact congrArg (·, true) e
theorem fmtLS_nil (l : List S36) : (fmtLS l).toList = ([] : List UInt8) ↔ fmtL (l.map adr) = [] := by
  rw [nilB, L_fmtLS]
theorem plB_sm (s : ByteArray) : smAd (plB s).1 := by
  obtain ⟨_, az, e, _, hok⟩ := plB_ok (s := s) (l := (plB s).1) (b := (plB s).2) rfl
  intro x hx
  rw [e] at hx
  obtain ⟨a, ha, rfl⟩ := List.mem_map.1 hx
  obtain ⟨x1, x2, x3, x4⟩ := addrOk_iff.1 (show addrOk a.n a.lo a.d = true from hok a ha)
  have y3 := (local_mem x3).2.1
  have y4 := (dom_mem x4).2.1
  refine ⟨?_, ?_, ?_⟩
  · show (strOfNums a.n).size ≤ _; rw [S_size]; omega
  · show (strOfNums a.lo).size ≤ _; rw [S_size]; omega
  · show (strOfNums a.d).size ≤ _; rw [S_size]; omega
theorem ListText_j1 (l : List Int) (hw : ∀ x ∈ l, (Lit.int .u8 x).wf = true) : Ev (fun k => laws_FnListText.j1 k l) true := by
  obtain ⟨s, hs, h1⟩ := DrawParseList_some l hw
  obtain ⟨hl, _⟩ := plB_ok (s := s) (l := (plB s).1) (b := (plB s).2) rfl
  have hf := impl_FormatList_ev (plB s).1 (plB_sm s) (by omega)
  have hz := fmtLS_size (plB s).1
  refine ev_succ ?_
  simp only [laws_FnListText.j1]
  refine ev_bind hs (ev_bind (impl_ParseList_ev s (by omega)) (ev_bind (spec_ParseList_ev s (by omega)) (ev_bind (mwA_ev _ _ (by omega)) (ev_pos (by simp) (ev_succ ?_)))))
  simp only [bne_self_eq_false, laws_FnListText.j2, Bool.false_eq_true, if_false]
  refine ev_bind hf (ev_bind (impl_ParseList_ev _ (by omega)) ?_)
  by_cases hb : (plB s).2 = true
  · refine ev_pos hb ?_
    by_cases hn : (fmtLS (plB s).1).toList = ([] : List UInt8)
    · exact ev_pos hn (Ev.now _)
    · have e := plB_fmt (plB s).1 fun h => hn ((fmtLS_nil _).2 h)
      rw [e]
      exact ev_neg hn (ev_pos rfl (ev_bind (mwA_ev _ _ (by dsimp only; omega)) (ev_of (by simp))))
  · exact ev_neg hb (Ev.now _)
theorem FnListText : laws_FnListText.Pure := by
  intro l l' _ _ hw _ _ hw'
  refine Ev.rounds (g := fun k => laws_FnListText.f k l l') ?_
  unfold laws_FnListText.f
  have out : Ev (fun k => laws_FnListText.j0 k l l' true) true := by
    refine ev_succ ?_
    simp only [laws_FnListText.j0, if_true]
    exact Ev.now _
  by_cases h : (l.length : Int) > 1048576
  · exact ev_pos h out
  refine ev_neg h ?_
  by_cases h' : (l'.length : Int) > 1048576
  · rw [decide_eq_true h']; exact out
  rw [decide_eq_false h']
  obtain ⟨r, hs, h1, h2⟩ := DrawFormatList_some l hw
  have hx : smAd r := fun x hx => by obtain ⟨y1, y2, y3⟩ := h2 x hx; exact ⟨by omega, by omega, by omega⟩
  have hz := fmtLS_size r
  refine ev_succ ?_
  simp only [laws_FnListText.j0, Bool.false_eq_true, if_false]
  refine ev_bind hs (ev_bind (impl_FormatList_ev r hx (by omega)) (ev_bind (spec_FormatList_ev r hx (by omega)) (ev_pos rfl ?_)))
  by_cases hn : (fmtLS r).toList = ([] : List UInt8)
  · exact ev_pos hn (ListText_j1 l' hw')
  · have e := plB_fmt r fun h => hn ((fmtLS_nil r).2 h)
    have hp := impl_ParseList_ev (fmtLS r) (by omega)
    rw [e] at hp
    exact ev_neg hn (ev_bind hp (ev_pos rfl (ev_bind (mwA_ev r r (by omega)) (ev_pos (by simp) (ListText_j1 l' hw')))))
end Go.Proofs.YtmehlmhpgbjddaaGreatDoor.Pure
