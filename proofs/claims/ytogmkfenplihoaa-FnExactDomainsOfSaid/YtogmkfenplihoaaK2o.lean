/- Texts in order, each once: what Sort and Compact leave; no condition. -/
import Derived.Test.YtogmkfenplihoaaC1
import Derived.Test.YtogmkfenplihoaaQH
import Derived.Test.YtogmkfenplihoaaQ4
set_option linter.unusedVariables false
set_option linter.unusedSimpArgs false
namespace Go.Proofs.Ytogmkfenplihoaa.Q
open Go.RowKit Go.Proofs.YtogmkfenplihoaaV.PrintWords Go.Proofs.YtogmkfenplihoaaV.PrintLast Go.Proofs.YtogmkfenplihoaaV.PrintMore
/-! ## Texts in order -/
def ltB (a b : ByteArray) : Prop := lsB a < lsB b
theorem lsB_inj {a b : ByteArray} (h : lsB a = lsB b) : a = b := by
  have : bsL (lsB a) = bsL (lsB b) := by rw [h]
  exact this
theorem ltB_tr {a b c : ByteArray} (h : ltB a b) (h' : ltB b c) : ltB a c := List.lt_trans h h'
theorem ltB_irr (a : ByteArray) : ¬ ltB a a := List.lt_irrefl _
theorem ltB_of {a b : List UInt8} (h : a ≤ b) (h' : a ≠ b) : a < b := by
  rcases Classical.em (a < b) with h1 | h1
  · exact h1
  · exact absurd (List.le_antisymm h (List.not_lt.1 h1)) h'
theorem ltB_tri {a b : ByteArray} (h : ¬ ltB a b) (h' : a ≠ b) : ltB b a := ltB_of (List.not_lt.1 h) (fun e => h' (lsB_inj e).symm)
/-- In order, each once. -/
def Asc (l : List ByteArray) : Prop := l.Pairwise ltB
theorem asc_ext : ∀ {l m : List ByteArray}, Asc l → Asc m → (∀ x, x ∈ l ↔ x ∈ m) → l = m
  | [], [], _, _, _ => rfl
  | [], y :: ys, _, _, h => absurd ((h y).2 (by simp)) (by simp)
  | x :: xs, [], _, _, h => absurd ((h x).1 (by simp)) (by simp)
  | x :: xs, y :: ys, hl, hm, h => by
    obtain ⟨h1, h2⟩ := List.pairwise_cons.1 hl
    obtain ⟨h3, h4⟩ := List.pairwise_cons.1 hm
    have e : x = y := by
      rcases List.mem_cons.1 ((h x).1 (by simp)) with e | e
      · exact e
      · rcases List.mem_cons.1 ((h y).2 (by simp)) with e' | e'
        · exact e'.symm
        · exact absurd (ltB_tr (h1 y e') (h3 x e)) (ltB_irr _)
    subst e
    congr 1
    refine asc_ext h2 h4 fun z => ⟨fun hz => ?_, fun hz => ?_⟩
    · rcases List.mem_cons.1 ((h z).1 (List.mem_cons_of_mem _ hz)) with e | e
      · exact absurd (e ▸ h1 z hz) (ltB_irr _)
      · exact e
    · rcases List.mem_cons.1 ((h z).2 (List.mem_cons_of_mem _ hz)) with e | e
      · exact absurd (e ▸ h3 z hz) (ltB_irr _)
      · exact e
theorem compact_asc (zs : List (List UInt8)) (hs : zs.Pairwise fun x y => x ≤ y) : (Lib.compact zs).Pairwise (fun x y => x < y) ∧ ∀ x, x ∈ Lib.compact zs ↔ x ∈ zs := by
  have get : ∀ j, j < zs.length → zs.toArray[j]! = zs[j]! := fun j hj => by simp
  have key : ∀ m, m ≤ zs.length → (Lib.compactUpTo zs.toArray m).Pairwise (fun x y => x < y) ∧ (∀ x ∈ Lib.compactUpTo zs.toArray m, ∃ j, j < m ∧ x = zs.toArray[j]!) ∧ ∀ j, j < m → zs.toArray[j]! ∈ Lib.compactUpTo zs.toArray m := by
    have hle : ∀ i j, i ≤ j → j < zs.length → zs.toArray[i]! ≤ zs.toArray[j]! := by
      intro i j hij hj
      rw [getElem!_pos zs.toArray i (by simpa using by omega), getElem!_pos zs.toArray j (by simpa using hj)]
      simp only [List.getElem_toArray]
      by_cases e : i = j
      · subst e; exact List.le_refl _
      · exact List.pairwise_iff_getElem.1 hs i j (by omega) hj (by omega)
    intro m
    induction m with
    | zero => intro _; exact ⟨by simp [Lib.compactUpTo], by simp [Lib.compactUpTo], fun j hj => absurd hj (Nat.not_lt_zero _)⟩
    | succ m ih =>
      intro hm
      obtain ⟨h1, h2, h3⟩ := ih (by omega)
      rw [Lib.compactUpTo_succ]
      by_cases hk : Lib.keeps zs.toArray m = true
      · rw [if_pos hk]
        refine ⟨List.pairwise_append.2 ⟨h1, by simp, fun x hx y hy => ?_⟩, fun x hx => ?_, fun j hj => ?_⟩
        · obtain rfl : y = zs.toArray[m]! := by simpa using hy
          obtain ⟨j, hj, rfl⟩ := h2 x hx
          have hm0 : m ≠ 0 := by omega
          have hne : zs.toArray[m]! ≠ zs.toArray[m - 1]! := by
            simp only [Lib.keeps, decide_eq_true_eq] at hk
            exact hk.resolve_left hm0
          exact List.lt_of_le_of_lt (hle j (m - 1) (by omega) (by omega)) (ltB_of (hle (m - 1) m (by omega) (by omega)) (fun e => hne e.symm))
        · rcases List.mem_append.1 hx with h | h
          · obtain ⟨j, hj, e⟩ := h2 x h
            exact ⟨j, by omega, e⟩
          · exact ⟨m, by omega, by simpa using h⟩
        · by_cases e : j = m
          · subst e; exact List.mem_append_right _ (by simp)
          · exact List.mem_append_left _ (h3 j (by omega))
      · rw [if_neg hk, List.append_nil]
        refine ⟨h1, fun x hx => ?_, fun j hj => ?_⟩
        · obtain ⟨j, hj, e⟩ := h2 x hx
          exact ⟨j, by omega, e⟩
        · by_cases e : j = m
          · subst e
            simp only [Lib.keeps, decide_eq_true_eq, not_or, Classical.not_not] at hk
            rw [hk.2]
            exact h3 (j - 1) (by omega)
          · exact h3 j (by omega)
  obtain ⟨h1, h2, h3⟩ := key zs.length (Nat.le_refl _)
  refine ⟨h1, fun x => ⟨fun hx => ?_, fun hx => ?_⟩⟩
  · obtain ⟨j, hj, rfl⟩ := h2 x hx
    rw [getElem!_pos zs.toArray j (by simpa using hj)]
    simp
  · obtain ⟨j, hj, rfl⟩ := List.getElem_of_mem hx
    have := h3 j hj
    rw [getElem!_pos zs.toArray j (by simpa using hj)] at this
    simpa [Lib.compact] using this
theorem srt_le (l : List (List UInt8)) : (l.mergeSort fun x y => decide (x ≤ y)).Pairwise fun x y => x ≤ y := by
  have := List.pairwise_mergeSort (le := fun x y : List UInt8 => decide (x ≤ y)) (fun a b c h1 h2 => by simpa using List.le_trans (by simpa using h1) (by simpa using h2)) (fun a b => by simpa using List.le_total a b) l
  simpa using this
theorem mem_bsL {l : List (List UInt8)} {x : ByteArray} : x ∈ l.map bsL ↔ lsB x ∈ l := by
  rw [List.mem_map]
  exact ⟨fun ⟨y, hy, e⟩ => e ▸ hy, fun h => ⟨lsB x, h, rfl⟩⟩
theorem mem_lsB {l : List ByteArray} {x : ByteArray} : lsB x ∈ l.map lsB ↔ x ∈ l := by
  rw [List.mem_map]
  exact ⟨fun ⟨y, hy, e⟩ => (lsB_inj e) ▸ hy, fun h => ⟨x, h, rfl⟩⟩
/-- Sort and Compact: in order, each once. -/
theorem sorted_asc (l : List ByteArray) : Asc (cmpS (srtS l)) ∧ ∀ x, x ∈ cmpS (srtS l) ↔ x ∈ l := by
  have hb : (srtS l).map lsB = (l.map lsB).mergeSort fun x y => decide (x ≤ y) := by
    unfold srtS
    rw [List.map_map]
    exact List.map_id _
  obtain ⟨h1, h2⟩ := compact_asc ((srtS l).map lsB) (by rw [hb]; exact srt_le _)
  refine ⟨?_, fun x => ?_⟩
  · unfold Asc cmpS
    rw [List.pairwise_map]
    exact h1
  · unfold cmpS
    rw [mem_bsL, h2, hb, List.mem_mergeSort, mem_lsB]

end Go.Proofs.Ytogmkfenplihoaa.Q
