/- Words that were found are found again where they are joined, and behind a space; no condition. -/
import Derived.Test.YtcnkakaipajloaaK1j
import Derived.Test.YtcnkakaipajloaaKL
import Derived.Test.YtcnkakaipajloaaD1w
import Derived.Test.YtcnkakaipajloaaQ8
set_option linter.unusedVariables false
set_option linter.unusedSimpArgs false
namespace Go.Proofs.Ytcnkakaipajloaa.Pure
open Go.RowKit Go.Proofs.Ytcnkakaipajloaa.Q Go.Proofs.YtcnkakaipajloaaV.PrintWords Go.Proofs.YtcnkakaipajloaaV.PrintLast Go.Proofs.YtcnkakaipajloaaV.PrintMore
theorem L_map_S (l : List ByteArray) : (l.map bytesOf).map strOfNums = l := by
  rw [List.map_map]
  have : (strOfNums ∘ bytesOf) = id := funext S_L
  rw [this, List.map_id]
theorem FnSplitWords : laws_FnSplitWords.Pure := by
  intro l _ _ hw
  refine Ev.rounds (g := fun k => laws_FnSplitWords.f k l) ?_
  obtain ⟨s, hs, hz⟩ := DrawSplitWords_some l hw
  unfold laws_FnSplitWords.f
  by_cases h : (l.length : Int) > 1048576
  · exact ev_pos h (Ev.now _)
  have hqs : (spB s).1.length ≤ 1000 := by
    unfold spB
    rw [List.length_map]
    exact Nat.le_trans (splitW_len _) (by rw [L_len]; omega)
  have hwt : (spB s).2 = true → ∀ x ∈ (spB s).1, x.size ≤ 1048576 := by
    intro hok x hx
    unfold spB at hok hx
    simp only at hok hx
    obtain ⟨w, hw, rfl⟩ := List.mem_map.1 hx
    obtain ⟨h1, h2⟩ := splitW_some (ws := (splitW (bytesOf s)).1) (show splitW (bytesOf s) = ((splitW (bytesOf s)).1, true) by rw [← hok])
    have := (words_mem h2 w hw).1
    rw [L_len] at this
    rw [S_size]
    omega
  refine ev_neg h (ev_bind hs (ev_bind (impl_SplitWords_ev s (by omega)) (ev_bind (spec_SplitWords_ev s (by omega)) (ev_bind (mwTexts_ev _ _ (by omega)) (ev_pos (by simp) (ev_neg (by simp) (ev_succ ?_)))))))
  generalize hq : (spB s).1 = q at *
  cases hok : (spB s).2 with
  | false =>
    simp only [Bool.not_false, laws_FnSplitWords.j0, if_true]
    exact ev_bind (mwTexts_ev _ _ (by omega)) (ev_pos (by simp) (Ev.now _))
  | true =>
    have hx' := hwt hok
    simp only [Bool.not_true, laws_FnSplitWords.j0, Bool.false_eq_true, if_false]
    refine ev_bind (impl_JoinWords_ev q (by omega) hx') ?_
    have hjs := joinW_size (q.map bytesOf)
    have hIs : IsB (joinW (q.map bytesOf)) := by
      intro x hx
      have := ((textOk_iff _).1 (joinW_text (q.map bytesOf))).2 x hx
      omega
    by_cases hn : joinW (q.map bytesOf) = []
    · refine ev_pos ?_ (Ev.now _)
      rw [hn, S_nil, toList_nil]
    have he : ¬ (strOfNums (joinW (q.map bytesOf))).toList = ([] : List UInt8) := by
      rw [← toList_nil, toList_iff, ← L_iff, L_S hIs]
      exact hn
    have hsp : spB (strOfNums (joinW (q.map bytesOf))) = (q, true) := by
      unfold spB
      rw [L_S hIs, split_join _ hn, L_map_S]
    have h1 := impl_SplitWords_ev (strOfNums (joinW (q.map bytesOf))) (by omega)
    rw [hsp] at h1
    have hsz : ((⟨#[32]⟩ : ByteArray) ++ strOfNums (joinW (q.map bytesOf))).size ≤ 300 := by
      rw [size_append]
      have : (⟨#[32]⟩ : ByteArray).size = 1 := rfl
      omega
    refine ev_neg he (ev_bind h1 (ev_pos (by omega) (ev_bind (impl_SplitWords_ev _ (by omega)) (ev_pos rfl (ev_bind (mwTexts_ev q q (by omega)) (ev_pos (by simp) ?_))))))
    by_cases hg : (spB ((⟨#[32]⟩ : ByteArray) ++ strOfNums (joinW (q.map bytesOf)))).2 = true
    · have hL : bytesOf ((⟨#[32]⟩ : ByteArray) ++ strOfNums (joinW (q.map bytesOf))) = 32 :: joinW (q.map bytesOf) := by
        rw [L_append, L_S hIs]
        rfl
      have hj := split_join _ hn
      obtain ⟨_, hj2⟩ := splitW_some hj
      have hg2 : (spB ((⟨#[32]⟩ : ByteArray) ++ strOfNums (joinW (q.map bytesOf)))).1 = q := by
        unfold spB at hg ⊢
        simp only at hg ⊢
        rw [hL] at hg ⊢
        obtain ⟨_, h3⟩ := splitW_some (ws := (splitW (32 :: joinW (q.map bytesOf))).1) (show splitW (32 :: joinW (q.map bytesOf)) = ((splitW (32 :: joinW (q.map bytesOf))).1, true) by rw [← hg])
        rw [words_sp, hj2] at h3
        rw [← Option.some.inj h3, L_map_S]
      rw [hg2]
      refine ev_pos hg (ev_bind (mwTexts_ev q q (by omega)) (ev_of ?_))
      simp
    · exact ev_neg hg (Ev.now _)
end Go.Proofs.Ytcnkakaipajloaa.Pure
