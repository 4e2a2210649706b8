/- Words of two texts that are drawn, together with a space between, are those of both; no condition. -/
import Derived.Test.YteibhbhlmnnfjaaK1j
import Derived.Test.YteibhbhlmnnfjaaKL
import Derived.Test.YteibhbhlmnnfjaaD1w
import Derived.Test.YteibhbhlmnnfjaaQ19
set_option linter.unusedVariables false
set_option linter.unusedSimpArgs false
namespace Go.Proofs.Yteibhbhlmnnfjaa.Pure
open Go.RowKit Go.Proofs.Yteibhbhlmnnfjaa.Q Go.Proofs.YteibhbhlmnnfjaaW.PrintWords Go.Proofs.YteibhbhlmnnfjaaW.PrintLast Go.Proofs.YteibhbhlmnnfjaaW.PrintMore
theorem two_j1_true (l1 : List Int) (s : ByteArray) (a : List ByteArray) (b : Bool) (ha : a.length ≤ 1000000000) : Ev (fun k => laws_FnSplitTwo.j1 k l1 s a b a b true) true := by
  refine ev_succ ?_
  simp only [laws_FnSplitTwo.j1, if_true]
  refine ev_bind (mwTexts_ev a a (by omega)) (ev_pos (by simp) (ev_of ?_))
  rw [beq_self_eq_true]
theorem FnSplitTwo : laws_FnSplitTwo.Pure := by
  intro l l1 _ _ hw _ _ hw1
  refine Ev.rounds (g := fun k => laws_FnSplitTwo.f k l l1) ?_
  have hend : Ev (fun k => laws_FnSplitTwo.j0 k l l1 true) true := by
    refine ev_succ ?_
    simp only [laws_FnSplitTwo.j0, if_true]
    exact Ev.now _
  unfold laws_FnSplitTwo.f
  by_cases h : (l.length : Int) > 1048576
  · exact ev_pos h hend
  refine ev_neg h ?_
  by_cases h2 : (l1.length : Int) > 1048576
  · rw [decide_eq_true h2]; exact hend
  rw [decide_eq_false h2]
  refine ev_succ ?_
  simp only [laws_FnSplitTwo.j0, Bool.false_eq_true, if_false]
  obtain ⟨s, hs, hz⟩ := DrawSplitWords_some l hw
  obtain ⟨t, ht, htz⟩ := DrawSplitWords_some l1 hw1
  have hlen : ∀ u : ByteArray, u.size ≤ 3000 → (spB u).1.length ≤ 3000 := by
    intro u hu
    unfold spB
    rw [List.length_map]
    exact Nat.le_trans (splitW_len (bytesOf u)) (by rw [L_len]; omega)
  have hl1 := hlen s (by omega)
  have hl2 := hlen t (by omega)
  refine ev_bind hs (ev_bind (impl_SplitWords_ev s (by omega)) (ev_bind (spec_SplitWords_ev s (by omega)) (ev_bind (mwTexts_ev _ _ (by omega)) (ev_pos (by simp) (ev_neg (by simp) ?_)))))
  cases hb : (spB s).2 with
  | false => exact two_j1_true l1 s (spB s).1 false (by omega)
  | true =>
    refine ev_succ ?_
    simp only [Bool.not_true, laws_FnSplitTwo.j1, Bool.false_eq_true, if_false]
    have hu : (s ++ (⟨#[32]⟩ : ByteArray) ++ t).size = s.size + 1 + t.size := by rw [size_append, size_append, size_lit1]
    have hu2 : (s ++ (⟨#[32]⟩ : ByteArray)).size = s.size + 1 := by rw [size_append, size_lit1]
    refine ev_bind ht (ev_bind (impl_SplitWords_ev t (by omega)) (ev_pos (by omega) (ev_pos (by omega) (ev_bind (impl_SplitWords_ev _ (by omega)) ?_))))
    cases hb2 : (spB t).2 with
    | false => exact ev_neg (by decide) (Ev.now _)
    | true =>
      refine ev_pos rfl ?_
      rw [wrap_id (x := (s.size : Int) + t.size) (by omega) (by omega)]
      by_cases h200 : (s.size : Int) + t.size ≥ 200
      · exact ev_pos h200 (Ev.now _)
      refine ev_neg h200 ?_
      obtain ⟨a, hsa⟩ : ∃ a, splitW (bytesOf s) = (a, true) := ⟨(splitW (bytesOf s)).1, by rw [← hb]; rfl⟩
      obtain ⟨c, hsc⟩ : ∃ c, splitW (bytesOf t) = (c, true) := ⟨(splitW (bytesOf t)).1, by rw [← hb2]; rfl⟩
      obtain ⟨t1, w1⟩ := splitW_some hsa
      obtain ⟨t2, w2⟩ := splitW_some hsc
      have hL : bytesOf (s ++ (⟨#[32]⟩ : ByteArray) ++ t) = bytesOf s ++ 32 :: bytesOf t := by
        rw [L_append, L_append, lit32]
        simp
      have hsp : splitW (bytesOf (s ++ (⟨#[32]⟩ : ByteArray) ++ t)) = (a ++ c, true) := by
        rw [hL]
        refine splitW_of ?_ (words_append true _ _ a c w1 w2)
        rw [textOk_iff] at t1 t2 ⊢
        rw [L_len] at t1 t2
        refine ⟨by rw [List.length_append, List.length_cons, L_len, L_len]; omega, fun x hx => ?_⟩
        rcases List.mem_append.1 hx with hx | hx
        · exact t1.2 x hx
        · rcases List.mem_cons.1 hx with rfl | hx
          · omega
          · exact t2.2 x hx
      have hA : (spB s).1 = a.map strOfNums := by unfold spB; rw [hsa]
      have hC : (spB t).1 = c.map strOfNums := by unfold spB; rw [hsc]
      have hU : spB (s ++ (⟨#[32]⟩ : ByteArray) ++ t) = (a.map strOfNums ++ c.map strOfNums, true) := by
        unfold spB
        rw [hsp, List.map_append]
      rw [hU, hA, hC]
      rw [hA] at hl1
      rw [hC] at hl2
      refine ev_pos rfl (ev_bind1 rfl (ev_pos (by simp only [List.length_nil]; omega) (ev_bind1 rfl (ev_pos (by simp only [List.nil_append]; omega) (ev_bind (mwTexts_ev _ _ (by rw [List.length_append]; omega)) ?_)))))
      rw [decide_eq_true (by simp)]
      exact Ev.now _
end Go.Proofs.Yteibhbhlmnnfjaa.Pure
