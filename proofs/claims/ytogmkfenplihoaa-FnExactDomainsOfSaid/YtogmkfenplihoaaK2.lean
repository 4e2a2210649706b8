/- What the printed functions on addresses come to; no condition. -/
import Derived.Test.YtogmkfenplihoaaK2s
import Derived.Test.YtogmkfenplihoaaQ0
set_option linter.unusedVariables false
set_option linter.unusedSimpArgs false
namespace Go.Proofs.Ytogmkfenplihoaa.Q
open Go.RowKit Go.Proofs.YtogmkfenplihoaaV.PrintWords Go.Proofs.YtogmkfenplihoaaV.PrintLast Go.Proofs.YtogmkfenplihoaaV.PrintMore
/-! ## Addresses -/
theorem rdA (l : List S31) (i : Nat) (h : i < l.length) : rd_T31 l (i : Int) = l[i] := by
  rw [rd_T31, Int.toNat_natCast, List.getD_eq_getElem?_getD, List.getElem?_eq_getElem h]
  rfl
theorem wrap_upA (i : Nat) (h : i < 9223372036854775807) : wrap64 ((i : Int) + 1) = ((i + 1 : Nat) : Int) := by
  rw [wrap_id (by omega) (by omega)]
  omega
theorem extA {a b : S31} : a = b ↔ a.f0 = b.f0 ∧ a.f1 = b.f1 ∧ a.f2 = b.f2 := by
  cases a; cases b
  simp
instance decA : DecidableEq S31 := fun _ _ => decidable_of_iff _ extA.symm
theorem neA (a b : S31) : (!((a.f0.toList) == (b.f0.toList)) || (!((a.f1.toList) == (b.f1.toList)) || (!((a.f2.toList) == (b.f2.toList))))) = !decide (a = b) := by
  rw [toList_beq, toList_beq, toList_beq, ← Bool.not_and, ← Bool.not_and, ← Bool.decide_and, ← Bool.decide_and]
  exact congrArg _ (decide_eq_decide.2 extA.symm)
theorem eqA (a b : S31) : (((a.f0.toList) == (b.f0.toList)) && (((a.f1.toList) == (b.f1.toList)) && ((a.f2.toList) == (b.f2.toList)))) = decide (a = b) := by
  rw [toList_beq, toList_beq, toList_beq, ← Bool.decide_and, ← Bool.decide_and]
  exact decide_eq_decide.2 extA.symm
def keyA (x : S31) : List Int × List Int := (bytesOf x.f1, bytesOf (lowT x.f2))
theorem keyA_iff {x y : S31} : keyA x = keyA y ↔ x.f1 = y.f1 ∧ lowT x.f2 = lowT y.f2 := by
  unfold keyA
  rw [Prod.mk.injEq, L_iff, L_iff]
def smA (l : List S31) : Prop := ∀ x ∈ l, x.f2.size < 140737488355328
/-- Each mailbox once: what came before (ks) and what comes twice is left out. -/
def dd (ks : List (List Int × List Int)) : List S31 → List S31
  | [] => []
  | x :: xs => if keyA x ∈ ks then dd ks xs else x :: dd (keyA x :: ks) xs
theorem dd_congr : ∀ (l : List S31) {ks ks' : List (List Int × List Int)}, (∀ k, k ∈ ks ↔ k ∈ ks') → dd ks l = dd ks' l
  | [], _, _, _ => rfl
  | x :: xs, ks, ks', h => by
    simp only [dd]
    by_cases hx : keyA x ∈ ks
    · rw [if_pos hx, if_pos ((h _).1 hx), dd_congr xs h]
    · rw [if_neg hx, if_neg (fun e => hx ((h _).2 e)), dd_congr xs (ks' := keyA x :: ks') (fun k => by simp only [List.mem_cons, h])]
theorem dd_dd : ∀ (l : List S31) (ks : List (List Int × List Int)), dd ks (dd ks l) = dd ks l
  | [], _ => rfl
  | x :: xs, ks => by
    simp only [dd]
    by_cases hx : keyA x ∈ ks
    · rw [if_pos hx, dd_dd xs ks]
    · rw [if_neg hx]
      simp only [dd]
      rw [if_neg hx, dd_dd xs]
theorem dd_all : ∀ (l : List S31) (ks : List (List Int × List Int)), (∀ x ∈ l, keyA x ∈ ks) → dd ks l = []
  | [], _, _ => rfl
  | x :: xs, ks, h => by
    simp only [dd]
    rw [if_pos (h x (by simp)), dd_all xs ks (fun y hy => h y (List.mem_cons_of_mem _ hy))]
theorem dd_append : ∀ (l m : List S31) (ks : List (List Int × List Int)), dd ks (l ++ m) = dd ks l ++ dd (l.map keyA ++ ks) m
  | [], m, ks => rfl
  | x :: xs, m, ks => by
    simp only [dd, List.cons_append, List.map_cons]
    by_cases hx : keyA x ∈ ks
    · rw [if_pos hx, if_pos hx, dd_append xs m ks]
      congr 1
      refine dd_congr m fun k => ?_
      simp only [List.mem_cons, List.mem_append]
      constructor
      · exact fun h => .inr h
      · rintro (rfl | h)
        · exact .inr hx
        · exact h
    · rw [if_neg hx, if_neg hx, dd_append xs m, List.cons_append]
      congr 2
      refine dd_congr m fun k => ?_
      simp only [List.mem_cons, List.mem_append]
      constructor
      · rintro (h | h | h)
        · exact .inr (.inl h)
        · exact .inl h
        · exact .inr (.inr h)
      · rintro (h | h | h)
        · exact .inr (.inl h)
        · exact .inl h
        · exact .inr (.inr h)
theorem dd_twice (l : List S31) : dd [] (l ++ l) = dd [] l := by
  rw [dd_append, dd_all l _ (fun x hx => List.mem_append_left _ (List.mem_map_of_mem hx)), List.append_nil]
theorem dd_length : ∀ (l : List S31) (ks : List (List Int × List Int)), (dd ks l).length ≤ l.length
  | [], _ => Nat.le_refl 0
  | x :: xs, ks => by
    simp only [dd]
    by_cases hx : keyA x ∈ ks
    · rw [if_pos hx]
      have := dd_length xs ks
      simp only [List.length_cons]
      omega
    · rw [if_neg hx]
      have := dd_length xs (keyA x :: ks)
      simp only [List.length_cons]
      omega
theorem dd_mem : ∀ (l : List S31) (ks : List (List Int × List Int)) (y : S31), y ∈ dd ks l → y ∈ l
  | [], _, _, h => h
  | x :: xs, ks, y, h => by
    simp only [dd] at h
    by_cases hx : keyA x ∈ ks
    · rw [if_pos hx] at h
      exact List.mem_cons_of_mem _ (dd_mem xs ks y h)
    · rw [if_neg hx] at h
      rcases List.mem_cons.1 h with h | h
      · exact h ▸ List.mem_cons_self
      · exact List.mem_cons_of_mem _ (dd_mem xs _ y h)
theorem smA_dd {l : List S31} (h : smA l) (ks : List (List Int × List Int)) : smA (dd ks l) := fun y hy => h y (dd_mem l ks y hy)
/-- A mailbox comes once, or not where it came before. -/
theorem dd_count : ∀ (l : List S31) (ks : List (List Int × List Int)) (k : List Int × List Int), ((dd ks l).filter fun y => decide (keyA y = k)).length = if k ∈ ks then 0 else if k ∈ l.map keyA then 1 else 0
  | [], ks, k => by simp [dd]
  | x :: xs, ks, k => by
    simp only [dd]
    by_cases hx : keyA x ∈ ks
    · rw [if_pos hx, dd_count xs ks k]
      by_cases hk : k ∈ ks
      · rw [if_pos hk, if_pos hk]
      · rw [if_neg hk, if_neg hk]
        have hne : k ≠ keyA x := fun e => hk (e ▸ hx)
        simp only [List.map_cons, List.mem_cons, hne, false_or]
    · rw [if_neg hx]
      by_cases he : keyA x = k
      · rw [List.filter_cons_of_pos (by simp [he]), List.length_cons, dd_count xs _ k, if_pos (by simp [he]), if_neg (fun h => hx (he ▸ h)), if_pos (by simp [he])]
      · rw [List.filter_cons_of_neg (by simp [he]), dd_count xs _ k]
        have hne : k ≠ keyA x := fun e => he e.symm
        simp only [List.map_cons, List.mem_cons, hne, false_or]

end Go.Proofs.Ytogmkfenplihoaa.Q
