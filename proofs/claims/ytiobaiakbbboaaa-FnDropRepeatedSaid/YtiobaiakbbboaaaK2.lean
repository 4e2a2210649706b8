/- What the printed functions on addresses come to; no condition. -/
import Derived.Test.YtiobaiakbbboaaaK2s
import Derived.Test.YtiobaiakbbboaaaQ0
import Derived.Test.YtiobaiakbbboaaaQ3
import Derived.Test.YtiobaiakbbboaaaQ7
import Derived.Test.YtiobaiakbbboaaaQ8
set_option linter.unusedVariables false
set_option linter.unusedSimpArgs false
namespace Go.Proofs.Ytiobaiakbbboaaa.Q
open Go.RowKit Go.Proofs.YtiobaiakbbboaaaV.PrintWords Go.Proofs.YtiobaiakbbboaaaV.PrintLast Go.Proofs.YtiobaiakbbboaaaV.PrintMore
/-! ## Addresses -/
theorem rdA (l : List S50) (i : Nat) (h : i < l.length) : rd_T50 l (i : Int) = l[i] := by
  rw [rd_T50, Int.toNat_natCast, List.getD_eq_getElem?_getD, List.getElem?_eq_getElem h]
  rfl
theorem wrap_upA (i : Nat) (h : i < 9223372036854775807) : wrap64 ((i : Int) + 1) = ((i + 1 : Nat) : Int) := by
  rw [wrap_id (by omega) (by omega)]
  omega
theorem extA {a b : S50} : a = b ↔ a.f0 = b.f0 ∧ a.f1 = b.f1 ∧ a.f2 = b.f2 := by
  cases a; cases b
  simp
instance decA : DecidableEq S50 := fun _ _ => decidable_of_iff _ extA.symm
theorem neA (a b : S50) : (!((a.f0.toList) == (b.f0.toList)) || (!((a.f1.toList) == (b.f1.toList)) || (!((a.f2.toList) == (b.f2.toList))))) = !decide (a = b) := by
  rw [toList_beq, toList_beq, toList_beq, ← Bool.not_and, ← Bool.not_and, ← Bool.decide_and, ← Bool.decide_and]
  exact congrArg _ (decide_eq_decide.2 extA.symm)
theorem eqA (a b : S50) : (((a.f0.toList) == (b.f0.toList)) && (((a.f1.toList) == (b.f1.toList)) && ((a.f2.toList) == (b.f2.toList)))) = decide (a = b) := by
  rw [toList_beq, toList_beq, toList_beq, ← Bool.decide_and, ← Bool.decide_and]
  exact decide_eq_decide.2 extA.symm
def keyA (x : S50) : List Int × List Int := (bytesOf x.f1, bytesOf (lowT x.f2))
theorem keyA_iff {x y : S50} : keyA x = keyA y ↔ x.f1 = y.f1 ∧ lowT x.f2 = lowT y.f2 := by
  unfold keyA
  rw [Prod.mk.injEq, L_iff, L_iff]
def smA (l : List S50) : Prop := ∀ x ∈ l, x.f2.size < 140737488355328
/-- Each mailbox once: what came before (ks) and what comes twice is left out. -/
def dd (ks : List (List Int × List Int)) : List S50 → List S50
  | [] => []
  | x :: xs => if keyA x ∈ ks then dd ks xs else x :: dd (keyA x :: ks) xs
theorem dd_congr : ∀ (l : List S50) {ks ks' : List (List Int × List Int)}, (∀ k, k ∈ ks ↔ k ∈ ks') → dd ks l = dd ks' l
  | [], _, _, _ => rfl
  | x :: xs, ks, ks', h => by
    simp only [dd]
    by_cases hx : keyA x ∈ ks
    · rw [if_pos hx, if_pos ((h _).1 hx), dd_congr xs h]
    · rw [if_neg hx, if_neg (fun e => hx ((h _).2 e)), dd_congr xs (ks' := keyA x :: ks') (fun k => by simp only [List.mem_cons, h])]
theorem dd_dd : ∀ (l : List S50) (ks : List (List Int × List Int)), dd ks (dd ks l) = dd ks l
  | [], _ => rfl
  | x :: xs, ks => by
    simp only [dd]
    by_cases hx : keyA x ∈ ks
    · rw [if_pos hx, dd_dd xs ks]
    · rw [if_neg hx]
      simp only [dd]
      rw [if_neg hx, dd_dd xs]
theorem dd_all : ∀ (l : List S50) (ks : List (List Int × List Int)), (∀ x ∈ l, keyA x ∈ ks) → dd ks l = []
  | [], _, _ => rfl
  | x :: xs, ks, h => by
    simp only [dd]
    rw [if_pos (h x (by simp)), dd_all xs ks (fun y hy => h y (List.mem_cons_of_mem _ hy))]
theorem dd_append : ∀ (l m : List S50) (ks : List (List Int × List Int)), dd ks (l ++ m) = dd ks l ++ dd (l.map keyA ++ ks) m
  | [], m, ks => rfl
  | x :: xs, m, ks => by
    simp only [dd, List.cons_append, List.map_cons]
    by_cases hx : keyA x ∈ ks
    · rw [if_pos hx, if_pos hx, dd_append xs m ks]
      congr 1
      refine dd_congr m fun k => ?_
      simp only [List.mem_cons, List.mem_append]
      constructor
      · exact fun h => .inr h
      · rintro (rfl | h)
        · exact .inr hx
        · exact h
    · rw [if_neg hx, if_neg hx, dd_append xs m, List.cons_append]
      congr 2
      refine dd_congr m fun k => ?_
      simp only [List.mem_cons, List.mem_append]
      constructor
      · rintro (h | h | h)
        · exact .inr (.inl h)
        · exact .inl h
        · exact .inr (.inr h)
      · rintro (h | h | h)
        · exact .inr (.inl h)
        · exact .inl h
        · exact .inr (.inr h)
theorem dd_twice (l : List S50) : dd [] (l ++ l) = dd [] l := by
  rw [dd_append, dd_all l _ (fun x hx => List.mem_append_left _ (List.mem_map_of_mem hx)), List.append_nil]
theorem dd_length : ∀ (l : List S50) (ks : List (List Int × List Int)), (dd ks l).length ≤ l.length
  | [], _ => Nat.le_refl 0
  | x :: xs, ks => by
    simp only [dd]
    by_cases hx : keyA x ∈ ks
    · rw [if_pos hx]
      have := dd_length xs ks
      simp only [List.length_cons]
      omega
    · rw [if_neg hx]
      have := dd_length xs (keyA x :: ks)
      simp only [List.length_cons]
      omega
theorem dd_mem : ∀ (l : List S50) (ks : List (List Int × List Int)) (y : S50), y ∈ dd ks l → y ∈ l
  | [], _, _, h => h
  | x :: xs, ks, y, h => by
    simp only [dd] at h
    by_cases hx : keyA x ∈ ks
    · rw [if_pos hx] at h
      exact List.mem_cons_of_mem _ (dd_mem xs ks y h)
    · rw [if_neg hx] at h
      rcases List.mem_cons.1 h with h | h
      · exact h ▸ List.mem_cons_self
      · exact List.mem_cons_of_mem _ (dd_mem xs _ y h)
theorem smA_dd {l : List S50} (h : smA l) (ks : List (List Int × List Int)) : smA (dd ks l) := fun y hy => h y (dd_mem l ks y hy)
/-- A mailbox comes once, or not where it came before. -/
theorem dd_count : ∀ (l : List S50) (ks : List (List Int × List Int)) (k : List Int × List Int), ((dd ks l).filter fun y => decide (keyA y = k)).length = if k ∈ ks then 0 else if k ∈ l.map keyA then 1 else 0
  | [], ks, k => by simp [dd]
  | x :: xs, ks, k => by
    simp only [dd]
    by_cases hx : keyA x ∈ ks
    · rw [if_pos hx, dd_count xs ks k]
      by_cases hk : k ∈ ks
      · rw [if_pos hk, if_pos hk]
      · rw [if_neg hk, if_neg hk]
        have hne : k ≠ keyA x := fun e => hk (e ▸ hx)
        simp only [List.map_cons, List.mem_cons, hne, false_or]
    · rw [if_neg hx]
      by_cases he : keyA x = k
      · rw [List.filter_cons_of_pos (by simp [he]), List.length_cons, dd_count xs _ k, if_pos (by simp [he]), if_neg (fun h => hx (he ▸ h)), if_pos (by simp [he])]
      · rw [List.filter_cons_of_neg (by simp [he]), dd_count xs _ k]
        have hne : k ≠ keyA x := fun e => he e.symm
        simp only [List.map_cons, List.mem_cons, hne, false_or]
theorem box_impl (x y : S50) (hx : x.f2.size < 140737488355328) (hy : y.f2.size < 140737488355328) : impl_SameBox.f x.f0 x.f1 x.f2 y.f0 y.f1 y.f2 = some (decide (keyA x = keyA y)) := by
  rw [impl_SameBox_eq x.f0 x.f1 x.f2 y.f0 y.f1 y.f2 hx hy]
  exact congrArg some (decide_eq_decide.2 keyA_iff.symm)
theorem box_spec (x y : S50) (hx : x.f2.size < 140737488355328) (hy : y.f2.size < 140737488355328) : spec_SameBox.f x.f0 x.f1 x.f2 y.f0 y.f1 y.f2 = some (decide (keyA x = keyA y)) := by
  rw [spec_SameBox_eq x.f0 x.f1 x.f2 y.f0 y.f1 y.f2 hx hy]
  exact congrArg some (decide_eq_decide.2 keyA_iff.symm)
theorem any_key (x : S50) (hx : x.f2.size < 140737488355328) : ∀ (l : List S50), smA l → anyO (fun b : S50 => impl_SameBox.f x.f0 x.f1 x.f2 b.f0 b.f1 b.f2) l = some (decide (keyA x ∈ l.map keyA))
  | [], _ => by simp [anyO]
  | y :: ys, h => by
    simp only [anyO]
    rw [box_impl x y hx (h y (by simp)), Option.bind_some, any_key x hx ys (fun z hz => h z (List.mem_cons_of_mem _ hz))]
    by_cases he : keyA x = keyA y
    · rw [if_pos (decide_eq_true he)]
      exact congrArg some (decide_eq_true (by simp [he])).symm
    · rw [if_neg (by simp [he])]
      exact congrArg some (decide_eq_decide.2 (by simp [he]))
theorem impl_DropRepeated_l0 (l : List S50) (hl : l.length ≤ 1000000000000) (hs : smA l) : ∀ (d i k : Nat) (out : List S50), i + d = l.length → d < k → out.length ≤ i → impl_DropRepeated.l0 k l out i = some (out ++ dd ((l.take i).map keyA) (l.drop i)) := by
  intro d
  induction d with
  | zero =>
    intro i k out hi hk ho
    obtain ⟨k', rfl⟩ : ∃ k', k = k' + 1 := ⟨k - 1, by omega⟩
    simp only [impl_DropRepeated.l0]
    rw [if_neg (by omega), List.drop_eq_nil_of_le (by omega)]
    simp [dd]
  | succ d ih =>
    intro i k out hi hk ho
    obtain ⟨k', rfl⟩ : ∃ k', k = k' + 1 := ⟨k - 1, by omega⟩
    have hlt : i < l.length := by omega
    have hx := hs _ (List.getElem_mem hlt)
    simp only [impl_DropRepeated.l0, slices_ContainsFunc_impl_Address_impl_Address.f]
    rw [if_pos hlt, rdA l i hlt, any_key _ hx (l.take i) (fun y hy => hs y (List.mem_of_mem_take hy)), Option.bind_some, List.drop_eq_getElem_cons hlt]
    simp only [dd]
    by_cases hm : keyA l[i] ∈ (l.take i).map keyA
    · rw [if_pos (decide_eq_true hm), if_pos hm, ih (i + 1) k' out (by omega) (by omega) (by omega)]
      congr 2
      refine dd_congr _ fun k => ?_
      rw [List.take_succ_eq_append_getElem hlt, List.map_append, List.mem_append]
      constructor
      · rintro (h | h)
        · exact h
        · have : k = keyA l[i] := by simpa using h
          rw [this]; exact hm
      · exact fun h => .inl h
    · rw [if_neg (by simpa using hm), if_neg hm, if_pos (by omega), ih (i + 1) k' (out ++ [l[i]]) (by omega) (by omega) (by simp; omega), List.append_assoc]
      congr 2
      rw [List.singleton_append]
      congr 1
      refine dd_congr _ fun k => ?_
      rw [List.take_succ_eq_append_getElem hlt, List.map_append, List.mem_append, List.mem_cons]
      constructor
      · rintro (h | h)
        · exact .inr h
        · exact .inl (by simpa using h)
      · rintro (h | h)
        · exact .inr (by simp [h])
        · exact .inl h
theorem impl_DropRepeated_eq (l : List S50) (hl : l.length ≤ 1000000000000) (hs : smA l) : impl_DropRepeated.f l = some (dd [] l) := by
  unfold impl_DropRepeated.f
  rw [impl_DropRepeated_l0 l hl hs l.length 0 (l.length + 1) [] (by omega) (by omega) (by simp)]
  rfl
theorem spec_DropRepeated_l1 (l : List S50) (i : Nat) (hi : i < l.length) (hl : l.length ≤ 1000000000000) (hs : smA l) (out : List S50) (ho : out.length ≤ i) (hso : smA out) (R : List S50) :
    ∀ (d j : Nat) (s : Bool), j + d = out.length → Ev (fun k => spec_DropRepeated.l0 k l (if (s || decide (keyA l[i] ∈ (out.drop j).map keyA)) = true then out else out ++ [l[i]]) ((i + 1 : Nat) : Int)) R → Ev (fun k => spec_DropRepeated.l1 k l out (i : Int) s (j : Int)) R := by
  intro d
  induction d with
  | zero =>
    intro j s hj h
    rw [List.drop_eq_nil_of_le (by omega)] at h
    refine ev_succ ?_
    simp only [spec_DropRepeated.l1]
    refine ev_neg (by omega) ?_
    rw [rdA l i hi, wrap_upA i (by omega)]
    cases s with
    | true => exact ev_pos rfl (by simpa using h)
    | false => exact ev_neg (by simp) (ev_pos (by omega) (ev_pos (by omega) (ev_pos (by omega) (by simpa using h))))
  | succ d ih =>
    intro j s hj h
    have hlt : j < out.length := by omega
    rw [List.drop_eq_getElem_cons hlt] at h
    refine ev_succ ?_
    simp only [spec_DropRepeated.l1]
    rw [rdA l i hi, rdA out j hlt, wrap_upA j (by omega)]
    refine ev_pos (by omega) ?_
    cases s with
    | true => exact ev_pos rfl (ih (j + 1) true (by omega) (by simpa using h))
    | false =>
      refine ev_neg (by simp) (ev_pos (by omega) (ev_pos (by omega) (ev_pos (by omega) (ev_bind1 (box_spec _ _ (hso _ (List.getElem_mem hlt)) (hs _ (List.getElem_mem hi))) (ih (j + 1) _ (by omega) ?_)))))
      have e : (false || decide (keyA l[i] ∈ (out[j] :: out.drop (j + 1)).map keyA)) = (decide (keyA out[j] = keyA l[i]) || decide (keyA l[i] ∈ (out.drop (j + 1)).map keyA)) := by
        rw [Bool.false_or, ← Bool.decide_or]
        exact decide_eq_decide.2 (by rw [List.map_cons, List.mem_cons]; exact ⟨fun h => h.imp Eq.symm id, fun h => h.imp Eq.symm id⟩)
      rw [← e]
      exact h
theorem spec_DropRepeated_l0 (l : List S50) (hl : l.length ≤ 1000000000000) (hs : smA l) : ∀ (d i : Nat) (out : List S50), i + d = l.length → out.length ≤ i → smA out → Ev (fun k => spec_DropRepeated.l0 k l out (i : Int)) (out ++ dd (out.map keyA) (l.drop i)) := by
  intro d
  induction d with
  | zero =>
    intro i out hi ho hso
    refine ev_succ ?_
    simp only [spec_DropRepeated.l0]
    rw [List.drop_eq_nil_of_le (by omega)]
    refine ev_neg (by omega) (ev_of ?_)
    simp [dd]
  | succ d ih =>
    intro i out hi ho hso
    have hlt : i < l.length := by omega
    refine ev_succ ?_
    simp only [spec_DropRepeated.l0]
    refine ev_pos (by omega) (spec_DropRepeated_l1 l i hlt hl hs out ho hso _ out.length 0 false (by omega) ?_)
    rw [List.drop_zero, Bool.false_or, List.drop_eq_getElem_cons hlt]
    simp only [dd]
    by_cases hm : keyA l[i] ∈ out.map keyA
    · rw [if_pos (decide_eq_true hm), if_pos hm]
      exact ih (i + 1) out (by omega) (by omega) hso
    · rw [if_neg (by simpa using hm), if_neg hm]
      refine ev_cast (ih (i + 1) (out ++ [l[i]]) (by omega) (by simp; omega) (fun y hy => ?_)) ?_
      · rcases List.mem_append.1 hy with h | h
        · exact hso y h
        · have : y = l[i] := by simpa using h
          rw [this]; exact hs _ (List.getElem_mem hlt)
      · rw [List.append_assoc, List.singleton_append]
        congr 2
        refine dd_congr _ fun k => ?_
        simp only [List.map_append, List.mem_append, List.map_cons, List.map_nil, List.mem_cons, List.not_mem_nil, or_false]
        exact ⟨fun h => h.symm, fun h => h.symm⟩
theorem spec_DropRepeated_ev (l : List S50) (hl : l.length ≤ 1000000000000) (hs : smA l) : Ev (fun k => spec_DropRepeated.f k l) (dd [] l) := by
  unfold spec_DropRepeated.f
  exact spec_DropRepeated_l0 l hl hs l.length 0 [] (by omega) (by simp) (fun y hy => by cases hy)

end Go.Proofs.Ytiobaiakbbboaaa.Q
