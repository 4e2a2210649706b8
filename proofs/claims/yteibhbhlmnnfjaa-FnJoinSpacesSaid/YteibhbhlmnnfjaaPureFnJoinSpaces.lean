/- Words of texts that are drawn, joined, begin and end without a space, and end with the word of the last one; no condition. -/
import Derived.Test.YteibhbhlmnnfjaaK1j
import Derived.Test.YteibhbhlmnnfjaaD1w
import Derived.Test.YteibhbhlmnnfjaaQ14
set_option linter.unusedVariables false
set_option linter.unusedSimpArgs false
namespace Go.Proofs.Yteibhbhlmnnfjaa.Pure
open Go.RowKit Go.Proofs.Yteibhbhlmnnfjaa.Q Go.Proofs.YteibhbhlmnnfjaaW.PrintWords Go.Proofs.YteibhbhlmnnfjaaW.PrintLast Go.Proofs.YteibhbhlmnnfjaaW.PrintMore
theorem quoteW_ends {w : List Int} (h : textOk w = true) : (quoteW w).head? ≠ some 32 ∧ (quoteW w).getLast? ≠ some 32 ∧ 1 ≤ (quoteW w).length := by
  rcases quoteW_cases w h with ⟨ha, hq⟩ | ⟨ha, hq⟩ <;> rw [hq]
  · rw [atomOk_iff] at ha
    refine ⟨fun e => ?_, fun e => ?_, ha.1⟩
    · exact (atm_ne (ha.2.2 32 (List.mem_of_head? e))).1 rfl
    · exact (atm_ne (ha.2.2 32 (List.mem_of_getLast? e))).1 rfl
  · refine ⟨by simp, ?_, by simp⟩
    rw [show 34 :: (esc w ++ [34]) = (34 :: esc w) ++ [34] by simp, List.getLast?_concat]
    simp
theorem joinL_snoc (q : List (List Int)) (w : List Int) : ∃ pre, joinL (q ++ [w]) = pre ++ w := by
  cases q with
  | nil => exact ⟨[], by simp [joinL, tailJ]⟩
  | cons x r => exact ⟨x ++ tailJ r ++ [32], by simp [joinL, tailJ_append, tailJ]⟩
theorem joinL_head {x : List Int} (r : List (List Int)) (h : 1 ≤ x.length) : (joinL (x :: r)).head? = x.head? := by
  cases x with
  | nil => simp at h
  | cons a b => rfl
theorem FnJoinSpaces : laws_FnJoinSpaces.Pure := by
  intro l _ _ hw
  refine Ev.rounds (g := fun k => laws_FnJoinSpaces.f k l) ?_
  obtain ⟨q, hs, hz, hx⟩ := DrawJoinWords_some l hw
  have hx' : ∀ x ∈ q, x.size ≤ 1048576 := fun x h => by have := hx x h; omega
  unfold laws_FnJoinSpaces.f
  by_cases h : (l.length : Int) > 1048576
  · exact ev_pos h (Ev.now _)
  refine ev_neg h (ev_bind hs (ev_bind (impl_JoinWords_ev q (by omega) hx') (ev_bind (spec_JoinWords_ev q (by omega) hx') (ev_pos rfl (ev_succ ?_)))))
  have hjs := joinW_size (q.map bytesOf)
  have hIs : IsB (joinW (q.map bytesOf)) := by
    intro x hx
    have := ((textOk_iff _).1 (joinW_text (q.map bytesOf))).2 x hx
    omega
  have he0 : ((strOfNums (joinW (q.map bytesOf))).toList == ([] : List UInt8)) = decide (joinW (q.map bytesOf) = []) := by
    rw [← toList_nil, toList_beq]
    exact decide_eq_decide.2 (by rw [← L_iff, L_S hIs]; rfl)
  rw [he0]
  by_cases hn : joinW (q.map bytesOf) = []
  · simp only [decide_eq_true hn, laws_FnJoinSpaces.j0, if_true]
    refine ev_bind (spec_JoinWords_ev q (by omega) hx') ?_
    rw [beq_self_eq_true]
    exact Ev.now _
  · simp only [decide_eq_false hn, laws_FnJoinSpaces.j0, Bool.false_eq_true, if_false]
    have hc : (q.map bytesOf).all textOk = true ∧ (joinL ((q.map bytesOf).map quoteW)).length ≤ 200 := by
      unfold joinW at hn
      by_cases hc : (q.map bytesOf).all textOk = true ∧ (joinL ((q.map bytesOf).map quoteW)).length ≤ 200
      · exact hc
      · rw [if_neg hc] at hn; exact absurd rfl hn
    have hJ : joinW (q.map bytesOf) = joinL ((q.map bytesOf).map quoteW) := by unfold joinW; rw [if_pos hc]
    have hq0 : q ≠ [] := by
      intro e
      rw [hJ, e] at hn
      exact hn rfl
    have hql : 1 ≤ q.length := by
      cases q with
      | nil => exact absurd rfl hq0
      | cons a b => simp
    obtain ⟨m, hm⟩ : ∃ m, q.length = m + 1 := ⟨q.length - 1, by omega⟩
    have hmlt : m < q.length := by omega
    have hdrop : q.drop m = [q[m]] := by
      rw [List.drop_eq_getElem_cons hmlt, List.drop_eq_nil_of_le (by omega)]
    have htm : textOk (bytesOf q[m]) = true := List.all_eq_true.1 hc.1 _ (List.mem_map_of_mem (List.getElem_mem hmlt))
    have hsnoc : q = q.take m ++ [q[m]] := by rw [← hdrop, List.take_append_drop]
    obtain ⟨pre, hpre⟩ := joinL_snoc ((q.take m).map fun x => quoteW (bytesOf x)) (quoteW (bytesOf q[m]))
    have hpre2 : joinW (q.map bytesOf) = pre ++ quoteW (bytesOf q[m]) := by
      rw [hJ, List.map_map, ← hpre]
      conv => lhs; rw [hsnoc]
      rw [List.map_append]
      rfl
    have hends := quoteW_ends htm
    have hl1 : joinW ((q.drop m).map bytesOf) = quoteW (bytesOf q[m]) := by
      rw [hdrop]
      unfold joinW
      rw [if_pos]
      · simp [joinL, tailJ]
      · refine ⟨by simp [htm], ?_⟩
        have := hc.2
        rw [← hJ, hpre2, List.length_append] at this
        simp only [List.map_cons, List.map_nil, joinL, tailJ, List.append_nil]
        omega
    have hsz : (strOfNums (joinW (q.map bytesOf))).size = pre.length + (quoteW (bytesOf q[m])).length := by rw [S_size, hpre2, List.length_append]
    have hb0 : bt (strOfNums (joinW (q.map bytesOf))) 0 ≠ 32 := by
      have h1 := bt_get (strOfNums (joinW (q.map bytesOf))) 0 (by omega)
      rw [L_S hIs] at h1
      intro e
      rw [show ((0 : Nat) : Int) = 0 from rfl, e] at h1
      cases hq : q with
      | nil => exact hq0 hq
      | cons x r =>
        have htx : textOk (bytesOf x) = true := List.all_eq_true.1 hc.1 _ (List.mem_map_of_mem (by rw [hq]; simp))
        have hex := quoteW_ends htx
        rw [hJ, hq, List.map_cons, List.map_cons, ← List.head?_eq_getElem?, joinL_head _ hex.2.2] at h1
        exact hex.1 h1
    have hbl : bt (strOfNums (joinW (q.map bytesOf))) (((strOfNums (joinW (q.map bytesOf))).size - 1 : Nat) : Int) ≠ 32 := by
      have h1 := bt_get (strOfNums (joinW (q.map bytesOf))) ((strOfNums (joinW (q.map bytesOf))).size - 1) (by omega)
      rw [L_S hIs] at h1
      intro e
      rw [e, hsz, hpre2, List.getElem?_append_right (by omega), show pre.length + (quoteW (bytesOf q[m])).length - 1 - pre.length = (quoteW (bytesOf q[m])).length - 1 by omega, ← List.getLast?_eq_getElem?] at h1
      exact hends.2.1 h1
    have ew : wrap64 ((q.length : Int) - 1) = (m : Int) := by rw [wrap_id (by omega) (by omega)]; omega
    have hlast := impl_JoinWords_ev (q.drop m) (by rw [List.length_drop]; omega) (fun x h => hx' x (List.mem_of_mem_drop h))
    rw [hl1] at hlast
    rw [ew, Int.toNat_natCast]
    refine ev_pos (by omega) (ev_pos (by omega) (ev_bind hlast ?_))
    have e1 : wrap64 (((strOfNums (joinW (q.map bytesOf))).size : Int) - 1) = (((strOfNums (joinW (q.map bytesOf))).size - 1 : Nat) : Int) := by rw [wrap_id (by omega) (by omega)]; omega
    have hqsz : (strOfNums (quoteW (bytesOf q[m]))).size = (quoteW (bytesOf q[m])).length := S_size _
    have e2 : wrap64 (((strOfNums (joinW (q.map bytesOf))).size : Int) - ((strOfNums (quoteW (bytesOf q[m]))).size : Int)) = (pre.length : Int) := by rw [wrap_id (by omega) (by omega)]; omega
    rw [e1, e2, Int.toNat_natCast]
    refine ev_pos (by omega) (ev_neg hb0 (ev_pos (by omega) (ev_pos (by omega) (ev_neg hbl (ev_pos (by omega) (ev_pos (by omega) (ev_pos (by omega) (ev_of ?_))))))))
    rw [toList_beq]
    refine congrArg some (decide_eq_true ?_)
    apply L_inj
    rw [L_from, L_S hIs, L_S (quoteW_IsB (L_IsB _)), hpre2, List.drop_left]
end Go.Proofs.Yteibhbhlmnnfjaa.Pure
