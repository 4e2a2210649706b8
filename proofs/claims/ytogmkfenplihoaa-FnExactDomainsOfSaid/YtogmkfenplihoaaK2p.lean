/- What the printed DomainsOf come to; no condition. -/
import Derived.Test.YtogmkfenplihoaaK2o
import Derived.Test.YtogmkfenplihoaaK2
import Derived.Test.YtogmkfenplihoaaKL
import Derived.Test.YtogmkfenplihoaaQ0
import Derived.Test.YtogmkfenplihoaaQ4
import Derived.Test.YtogmkfenplihoaaQ5
set_option linter.unusedVariables false
set_option linter.unusedSimpArgs false
namespace Go.Proofs.Ytogmkfenplihoaa.Q
open Go.RowKit Go.Proofs.YtogmkfenplihoaaV.PrintWords Go.Proofs.YtogmkfenplihoaaV.PrintLast Go.Proofs.YtogmkfenplihoaaV.PrintMore
/-! ## Domains of lists of addresses -/
def domL (l : List S31) : List ByteArray := l.map fun x => lowT x.f2
/-- The domains in small letters, in order, each once. -/
def domS (l : List S31) : List ByteArray := cmpS (srtS (domL l))
theorem domS_len (l : List S31) : (domS l).length ≤ l.length := by
  unfold domS cmpS
  rw [List.length_map]
  refine Nat.le_trans (compact_le _) ?_
  unfold srtS domL
  simp [List.length_mergeSort]
theorem impl_DomainsOf_l0 (l : List S31) (hl : l.length ≤ 1000000000000) (hs : smA l) : ∀ (d i k : Nat) (out : List ByteArray), i + d = l.length → d < k → out.length ≤ i → impl_DomainsOf.l0 k l out i = some (out ++ domL (l.drop i)) := by
  intro d
  induction d with
  | zero =>
    intro i k out hi hk ho
    obtain ⟨k', rfl⟩ : ∃ k', k = k' + 1 := ⟨k - 1, by omega⟩
    simp only [impl_DomainsOf.l0]
    rw [if_neg (by omega), List.drop_eq_nil_of_le (by omega)]
    simp [domL]
  | succ d ih =>
    intro i k out hi hk ho
    obtain ⟨k', rfl⟩ : ∃ k', k = k' + 1 := ⟨k - 1, by omega⟩
    have hlt : i < l.length := by omega
    have hx := hs _ (List.getElem_mem hlt)
    simp only [impl_DomainsOf.l0]
    rw [if_pos hlt, rdA l i hlt, impl_LowerText_eq _ hx, Option.bind_some, if_pos (by omega), ih (i + 1) k' _ (by omega) (by omega) (by simp; omega), List.drop_eq_getElem_cons hlt, List.append_assoc]
    rfl
theorem impl_DomainsOf_eq (l : List S31) (hl : l.length ≤ 1000000000000) (hs : smA l) : impl_DomainsOf.f l = some (domS l) := by
  unfold impl_DomainsOf.f
  rw [impl_DomainsOf_l0 l hl hs l.length 0 (l.length + 1) [] (by omega) (by omega) (by simp), Option.bind_some, if_pos (by simp [domL]; omega)]
  rfl
theorem less_ltB (a b : ByteArray) : (Op.bytesLess a.toList b.toList = true) ↔ ltB a b := by
  rw [bytesLess_eq, decide_eq_true_eq, Lib.toList_data, Lib.toList_data]
  rfl
/-- What an insertion leaves. -/
def InsOk (out : List ByteArray) (d : ByteArray) (R : List ByteArray) : Prop := Asc R ∧ (∀ x, x ∈ R ↔ x ∈ out ∨ x = d) ∧ R.length ≤ out.length + 1
theorem ins_ok (out : List ByteArray) (d : ByteArray) (ha : Asc out) (j : Nat) (hj : j ≤ out.length) (h1 : ∀ x ∈ out.take j, ltB x d) (h2 : ∀ x ∈ out.drop j, ltB d x) : InsOk out d (out.take j ++ [d] ++ out.drop j) := by
  have hm : ∀ x, x ∈ out ↔ x ∈ out.take j ∨ x ∈ out.drop j := fun x => by
    conv => lhs; rw [← List.take_append_drop j out]
    rw [List.mem_append]
  refine ⟨?_, fun x => ?_, ?_⟩
  · have hp := ha
    unfold Asc at hp ⊢
    rw [← List.take_append_drop j out, List.pairwise_append] at hp
    rw [List.append_assoc, List.pairwise_append]
    refine ⟨hp.1, ?_, fun x hx y hy => ?_⟩
    · rw [List.singleton_append, List.pairwise_cons]
      exact ⟨h2, hp.2.1⟩
    · rcases List.mem_append.1 hy with h | h
      · obtain rfl : y = d := by simpa using h
        exact h1 x hx
      · exact hp.2.2 x hx y h
  · rw [hm x, List.mem_append, List.mem_append]
    simp only [List.mem_cons, List.not_mem_nil, or_false]
    constructor
    · rintro ((h | h) | h)
      · exact .inl (.inl h)
      · exact .inr h
      · exact .inl (.inr h)
    · rintro ((h | h) | h)
      · exact .inl (.inl h)
      · exact .inr h
      · exact .inl (.inr h)
  · simp only [List.length_append, List.length_take, List.length_drop, List.length_singleton]
    omega
theorem spec_DomainsOf_l1 (l : List S31) (i : Nat) (hi : i < l.length) (hz : l.length ≤ 1000000000000) (d : ByteArray) (out : List ByteArray) (ho : out.length ≤ i) (ha : Asc out) :
    ∀ (n j : Nat), j + n = out.length → (∀ x ∈ out.take j, ltB x d) → ∃ R', InsOk out d R' ∧ ∀ R, Ev (fun k => spec_DomainsOf.l0 k l R' ((i + 1 : Nat) : Int)) R → Ev (fun k => spec_DomainsOf.l1 k l out (i : Int) d (j : Int)) R := by
  intro n
  induction n with
  | zero =>
    intro j hj h1
    refine ⟨out.take j ++ [d] ++ out.drop j, ins_ok out d ha j (by omega) h1 (by rw [List.drop_eq_nil_of_le (by omega)]; simp), fun R hR => ev_succ ?_⟩
    simp only [spec_DomainsOf.l1]
    rw [wrap_upA i (by omega), Int.toNat_natCast]
    refine ev_neg (by omega) (ev_bind1 rfl (ev_pos (by omega) (ev_pos (by omega) (ev_bind1 rfl (ev_pos (by simp; omega) (ev_bind1 rfl (ev_pos (by simp; omega) (ev_bind1 rfl (ev_bind1 rfl (ev_pos (by simp; omega) ?_))))))))))
    simpa using hR
  | succ n ih =>
    intro j hj h1
    have hlt : j < out.length := by omega
    have hsp := List.pairwise_append.1 (show (out.take j ++ out.drop j).Pairwise ltB by rw [List.take_append_drop]; exact ha)
    rw [List.drop_eq_getElem_cons hlt, List.pairwise_cons] at hsp
    by_cases hless : ltB out[j] d
    · obtain ⟨R', h2, h3⟩ := ih (j + 1) (by omega) (fun x hx => by
        rw [List.take_succ_eq_append_getElem hlt] at hx
        rcases List.mem_append.1 hx with h | h
        · exact h1 x h
        · obtain rfl : x = out[j] := by simpa using h
          exact hless)
      refine ⟨R', h2, fun R hR => ev_succ ?_⟩
      simp only [spec_DomainsOf.l1]
      rw [rdOf_get out j hlt, wrap_upA j (by omega)]
      exact ev_pos (by omega) (ev_pos (by omega) (ev_pos ((less_ltB _ _).2 hless) (h3 R hR)))
    · by_cases heq : out[j] = d
      · refine ⟨out, ⟨ha, fun x => ⟨fun h => .inl h, fun h => ?_⟩, by omega⟩, fun R hR => ev_succ ?_⟩
        · rcases h with h | h
          · exact h
          · rw [h, ← heq]; exact List.getElem_mem hlt
        · simp only [spec_DomainsOf.l1]
          rw [rdOf_get out j hlt, wrap_upA i (by omega)]
          exact ev_pos (by omega) (ev_pos (by omega) (ev_neg (fun e => hless ((less_ltB _ _).1 e)) (ev_pos (by rw [heq]) hR)))
      · have hgt := ltB_tri hless heq
        refine ⟨out.take j ++ [d] ++ out.drop j, ins_ok out d ha j (by omega) h1 (fun x hx => ?_), fun R hR => ev_succ ?_⟩
        · rw [List.drop_eq_getElem_cons hlt] at hx
          rcases List.mem_cons.1 hx with h | h
          · rw [h]; exact hgt
          · exact ltB_tr hgt (hsp.2.1.1 x h)
        · simp only [spec_DomainsOf.l1]
          rw [rdOf_get out j hlt, wrap_upA i (by omega), Int.toNat_natCast]
          refine ev_pos (by omega) (ev_pos (by omega) (ev_neg (fun e => hless ((less_ltB _ _).1 e)) (ev_neg (fun e => heq (toList_iff.1 e)) (ev_bind1 rfl (ev_pos (by omega) (ev_bind1 rfl (ev_pos (by simp; omega) (ev_bind1 rfl (ev_pos (by simp; omega) (ev_bind1 rfl (ev_bind1 rfl (ev_pos (by simp; omega) ?_))))))))))))
          simpa using hR
theorem spec_DomainsOf_l0 (l : List S31) (hz : l.length ≤ 1000000000000) (hs : smA l) : ∀ (n i : Nat) (out : List ByteArray), i + n = l.length → out.length ≤ i → Asc out → ∃ R, Ev (fun k => spec_DomainsOf.l0 k l out (i : Int)) R ∧ Asc R ∧ ∀ x, x ∈ R ↔ x ∈ out ∨ x ∈ domL (l.drop i) := by
  intro n
  induction n with
  | zero =>
    intro i out hi ho ha
    refine ⟨out, ev_succ ?_, ha, fun x => ?_⟩
    · simp only [spec_DomainsOf.l0]
      exact ev_neg (by omega) (Ev.now _)
    · rw [List.drop_eq_nil_of_le (by omega)]
      simp [domL]
  | succ n ih =>
    intro i out hi ho ha
    have hlt : i < l.length := by omega
    obtain ⟨R', ⟨g1, g2, g3⟩, h1⟩ := spec_DomainsOf_l1 l i hlt hz (lowT l[i].f2) out ho ha out.length 0 (by omega) (by simp)
    obtain ⟨R, h2, h3, h4⟩ := ih (i + 1) R' (by omega) (by omega) g1
    refine ⟨R, ev_succ ?_, h3, fun x => ?_⟩
    · simp only [spec_DomainsOf.l0]
      rw [rdA l i hlt]
      exact ev_pos (by omega) (ev_pos (by omega) (ev_bind1 (spec_LowerText_eq _ (hs _ (List.getElem_mem hlt))) (h1 R h2)))
    · rw [h4, g2, List.drop_eq_getElem_cons hlt]
      simp only [domL, List.map_cons, List.mem_cons]
      constructor
      · rintro ((h | h) | h)
        · exact .inl h
        · exact .inr (.inl h)
        · exact .inr (.inr h)
      · rintro (h | h | h)
        · exact .inl (.inl h)
        · exact .inl (.inr h)
        · exact .inr h
theorem spec_DomainsOf_ev (l : List S31) (hz : l.length ≤ 1000000000000) (hs : smA l) : Ev (fun k => spec_DomainsOf.f k l) (domS l) := by
  obtain ⟨R, h1, h2, h3⟩ := spec_DomainsOf_l0 l hz hs l.length 0 [] (by omega) (by simp) List.Pairwise.nil
  obtain ⟨h4, h5⟩ := sorted_asc (domL l)
  have e : R = domS l := asc_ext h2 h4 fun x => by
    rw [h3]
    show _ ↔ x ∈ cmpS (srtS (domL l))
    rw [h5]
    simp
  unfold spec_DomainsOf.f
  rw [← e]
  exact h1
theorem asc_sub : ∀ (m l : List ByteArray), Asc l → Asc m → (∀ x ∈ l, x ∈ m) → l.length ≤ m.length
  | [], l, _, _, h => by
    cases l with
    | nil => exact Nat.le_refl _
    | cons x xs => exact absurd (h x (by simp)) (by simp)
  | y :: ys, [], _, _, _ => by simp
  | y :: ys, x :: xs, hl, hm, h => by
    obtain ⟨h1, h2⟩ := List.pairwise_cons.1 hl
    obtain ⟨h3, h4⟩ := List.pairwise_cons.1 hm
    by_cases e : x = y
    · subst e
      have := asc_sub ys xs h2 h4 (fun z hz => by
        rcases List.mem_cons.1 (h z (List.mem_cons_of_mem _ hz)) with e | e
        · exact absurd (e ▸ h1 z hz) (ltB_irr _)
        · exact e)
      simp only [List.length_cons]
      omega
    · have hxy : ltB y x := by
        rcases List.mem_cons.1 (h x (by simp)) with e' | e'
        · exact absurd e' e
        · exact h3 x e'
      have := asc_sub ys (x :: xs) hl h4 (fun z hz => by
        rcases List.mem_cons.1 (h z hz) with e' | e'
        · exfalso
          rcases List.mem_cons.1 hz with e2 | e2
          · exact e (e2.symm.trans e')
          · exact ltB_irr y (ltB_tr hxy (e' ▸ h1 z e2))
        · exact e')
      simp only [List.length_cons] at this ⊢
      omega
theorem domS_asc (l : List S31) : Asc (domS l) ∧ ∀ x, x ∈ domS l ↔ x ∈ domL l := sorted_asc (domL l)
theorem dom_size {l : List S31} (h : ∀ x ∈ l, x.f2.size ≤ 100) : ∀ y ∈ domS l, y.size ≤ 100 := by
  intro y hy
  rw [(domS_asc l).2] at hy
  obtain ⟨x, hx, rfl⟩ := List.mem_map.1 hy
  rw [lowT_size]
  exact h x hx

end Go.Proofs.Ytogmkfenplihoaa.Q
