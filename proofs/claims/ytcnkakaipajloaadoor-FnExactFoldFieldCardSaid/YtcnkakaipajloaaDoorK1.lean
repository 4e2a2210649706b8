/- What the printed functions of chapter 1 come to; no condition. -/
import Derived.Test.YtcnkakaipajloaaDoorK0
import Derived.Test.YtcnkakaipajloaaDoorQ3
import Derived.Test.YtcnkakaipajloaaDoorQ4
set_option linter.unusedVariables false
set_option linter.unusedSimpArgs false
namespace Go.Proofs.YtcnkakaipajloaaDoor.Q
open Go.RowKit Go.Proofs.YtcnkakaipajloaaDoorV.PrintWords Go.Proofs.YtcnkakaipajloaaDoorV.PrintLast Go.Proofs.YtcnkakaipajloaaDoorV.PrintMore
/-! ## Chapter 1 -/
theorem impl_isLetter_eq (x : Int) : impl_isLetter.f x = some (isLet x) := by
  unfold impl_isLetter.f isLet
  repeat' split
  all_goals first | exact congrArg some (decide_eq_true (by omega)).symm | exact congrArg some (decide_eq_false (by omega)).symm | exact congrArg some (decide_eq_decide.2 (by omega))
theorem impl_isDigit_eq (x : Int) : impl_isDigit.f x = some (isDig x) := by
  unfold impl_isDigit.f isDig
  repeat' split
  all_goals first | exact congrArg some (decide_eq_true (by omega)).symm | exact congrArg some (decide_eq_false (by omega)).symm | exact congrArg some (decide_eq_decide.2 (by omega))
theorem or_if {c P : Prop} [Decidable c] [Decidable P] {r : Option Bool} (h : r = some (decide P)) : (if c then some true else r) = some (decide (c ∨ P)) := by
  by_cases hc : c
  · rw [if_pos hc, decide_eq_true (Or.inl hc)]
  · rw [if_neg hc, h]
    exact congrArg some (decide_eq_decide.2 ⟨Or.inr, fun h => h.resolve_left hc⟩)
theorem impl_isAtomByte_eq (x : Int) : impl_isAtomByte.f x = some (isAtm x) := by
  unfold impl_isAtomByte.f
  have m : (if x ≥ 94 then (if x ≤ 96 then some true else (if x ≥ 123 then some (decide (x ≤ 126)) else some false)) else (if x ≥ 123 then some (decide (x ≤ 126)) else some false)) = some (decide ((94 ≤ x ∧ x ≤ 96) ∨ (123 ≤ x ∧ x ≤ 126))) := by
    repeat' split
    all_goals first | exact congrArg some (decide_eq_true (by omega)).symm | exact congrArg some (decide_eq_false (by omega)).symm | exact congrArg some (decide_eq_decide.2 (by omega))
  have t := or_if (c := x = 42) (or_if (c := x = 43) (or_if (c := x = 45) (or_if (c := x = 47) (or_if (c := x = 61) (or_if (c := x = 63) m)))))
  rw [t, impl_isLetter_eq, Option.bind_some, impl_isDigit_eq, Option.bind_some]
  have hL : isLet x = true ↔ (97 ≤ x ∧ x ≤ 122) ∨ (65 ≤ x ∧ x ≤ 90) := by simp [isLet]
  have hD : isDig x = true ↔ (48 ≤ x ∧ x ≤ 57) := by simp [isDig]
  have u : (if x ≥ 35 then (if x ≤ 39 then some true else some (decide (x = 42 ∨ x = 43 ∨ x = 45 ∨ x = 47 ∨ x = 61 ∨ x = 63 ∨ (94 ≤ x ∧ x ≤ 96) ∨ (123 ≤ x ∧ x ≤ 126)))) else some (decide (x = 42 ∨ x = 43 ∨ x = 45 ∨ x = 47 ∨ x = 61 ∨ x = 63 ∨ (94 ≤ x ∧ x ≤ 96) ∨ (123 ≤ x ∧ x ≤ 126)))) = some (decide ((35 ≤ x ∧ x ≤ 39) ∨ x = 42 ∨ x = 43 ∨ x = 45 ∨ x = 47 ∨ x = 61 ∨ x = 63 ∨ (94 ≤ x ∧ x ≤ 96) ∨ (123 ≤ x ∧ x ≤ 126))) := by
    by_cases h1 : x ≥ 35
    · by_cases h2 : x ≤ 39
      · rw [if_pos h1, if_pos h2]; exact congrArg some (decide_eq_true (by omega)).symm
      · rw [if_pos h1, if_neg h2]; exact congrArg some (decide_eq_decide.2 (by omega))
    · rw [if_neg h1]; exact congrArg some (decide_eq_decide.2 (by omega))
  rw [or_if (c := isLet x = true) (or_if (c := isDig x = true) (or_if (c := x = 33) u))]
  refine congrArg some (decide_eq_decide.2 ?_)
  rw [hL, hD]
  omega
theorem spec_l1Letter_eq (x : Int) : spec_l1Letter.f x = some (decide ((97 ≤ x ∧ x ≤ 122) ∨ (65 ≤ x ∧ x ≤ 90) ∨ (48 ≤ x ∧ x ≤ 57))) := by
  unfold spec_l1Letter.f
  repeat' split
  all_goals first | exact congrArg some (decide_eq_true (by omega)).symm | exact congrArg some (decide_eq_false (by omega)).symm | exact congrArg some (decide_eq_decide.2 (by omega))
theorem spec_l1Atom_ev (x : Int) : Ev (fun k => spec_l1Atom.f k x) (isAtm x) := by
  have e : ∀ k, spec_l1Atom.f (k + 20) x = some (isAtm x) := by
    intro k
    unfold spec_l1Atom.f
    have b0 : bt (⟨#[33, 35, 36, 37, 38, 39, 42, 43, 45, 47, 61, 63, 94, 95, 96, 123, 124, 125, 126]⟩ : ByteArray) 0 = 33 := by rfl
    have b1 : bt (⟨#[33, 35, 36, 37, 38, 39, 42, 43, 45, 47, 61, 63, 94, 95, 96, 123, 124, 125, 126]⟩ : ByteArray) 1 = 35 := by rfl
    have b2 : bt (⟨#[33, 35, 36, 37, 38, 39, 42, 43, 45, 47, 61, 63, 94, 95, 96, 123, 124, 125, 126]⟩ : ByteArray) 2 = 36 := by rfl
    have b3 : bt (⟨#[33, 35, 36, 37, 38, 39, 42, 43, 45, 47, 61, 63, 94, 95, 96, 123, 124, 125, 126]⟩ : ByteArray) 3 = 37 := by rfl
    have b4 : bt (⟨#[33, 35, 36, 37, 38, 39, 42, 43, 45, 47, 61, 63, 94, 95, 96, 123, 124, 125, 126]⟩ : ByteArray) 4 = 38 := by rfl
    have b5 : bt (⟨#[33, 35, 36, 37, 38, 39, 42, 43, 45, 47, 61, 63, 94, 95, 96, 123, 124, 125, 126]⟩ : ByteArray) 5 = 39 := by rfl
    have b6 : bt (⟨#[33, 35, 36, 37, 38, 39, 42, 43, 45, 47, 61, 63, 94, 95, 96, 123, 124, 125, 126]⟩ : ByteArray) 6 = 42 := by rfl
    have b7 : bt (⟨#[33, 35, 36, 37, 38, 39, 42, 43, 45, 47, 61, 63, 94, 95, 96, 123, 124, 125, 126]⟩ : ByteArray) 7 = 43 := by rfl
    have b8 : bt (⟨#[33, 35, 36, 37, 38, 39, 42, 43, 45, 47, 61, 63, 94, 95, 96, 123, 124, 125, 126]⟩ : ByteArray) 8 = 45 := by rfl
    have b9 : bt (⟨#[33, 35, 36, 37, 38, 39, 42, 43, 45, 47, 61, 63, 94, 95, 96, 123, 124, 125, 126]⟩ : ByteArray) 9 = 47 := by rfl
    have b10 : bt (⟨#[33, 35, 36, 37, 38, 39, 42, 43, 45, 47, 61, 63, 94, 95, 96, 123, 124, 125, 126]⟩ : ByteArray) 10 = 61 := by rfl
    have b11 : bt (⟨#[33, 35, 36, 37, 38, 39, 42, 43, 45, 47, 61, 63, 94, 95, 96, 123, 124, 125, 126]⟩ : ByteArray) 11 = 63 := by rfl
    have b12 : bt (⟨#[33, 35, 36, 37, 38, 39, 42, 43, 45, 47, 61, 63, 94, 95, 96, 123, 124, 125, 126]⟩ : ByteArray) 12 = 94 := by rfl
    have b13 : bt (⟨#[33, 35, 36, 37, 38, 39, 42, 43, 45, 47, 61, 63, 94, 95, 96, 123, 124, 125, 126]⟩ : ByteArray) 13 = 95 := by rfl
    have b14 : bt (⟨#[33, 35, 36, 37, 38, 39, 42, 43, 45, 47, 61, 63, 94, 95, 96, 123, 124, 125, 126]⟩ : ByteArray) 14 = 96 := by rfl
    have b15 : bt (⟨#[33, 35, 36, 37, 38, 39, 42, 43, 45, 47, 61, 63, 94, 95, 96, 123, 124, 125, 126]⟩ : ByteArray) 15 = 123 := by rfl
    have b16 : bt (⟨#[33, 35, 36, 37, 38, 39, 42, 43, 45, 47, 61, 63, 94, 95, 96, 123, 124, 125, 126]⟩ : ByteArray) 16 = 124 := by rfl
    have b17 : bt (⟨#[33, 35, 36, 37, 38, 39, 42, 43, 45, 47, 61, 63, 94, 95, 96, 123, 124, 125, 126]⟩ : ByteArray) 17 = 125 := by rfl
    have b18 : bt (⟨#[33, 35, 36, 37, 38, 39, 42, 43, 45, 47, 61, 63, 94, 95, 96, 123, 124, 125, 126]⟩ : ByteArray) 18 = 126 := by rfl
    simp only [spec_l1Atom.l0, spec_l1Letter_eq, Option.bind_some, show wrap64 (0 + 1) = 1 by unfold wrap64; omega, show wrap64 (1 + 1) = 2 by unfold wrap64; omega, show wrap64 (2 + 1) = 3 by unfold wrap64; omega, show wrap64 (3 + 1) = 4 by unfold wrap64; omega, show wrap64 (4 + 1) = 5 by unfold wrap64; omega, show wrap64 (5 + 1) = 6 by unfold wrap64; omega, show wrap64 (6 + 1) = 7 by unfold wrap64; omega, show wrap64 (7 + 1) = 8 by unfold wrap64; omega, show wrap64 (8 + 1) = 9 by unfold wrap64; omega, show wrap64 (9 + 1) = 10 by unfold wrap64; omega, show wrap64 (10 + 1) = 11 by unfold wrap64; omega, show wrap64 (11 + 1) = 12 by unfold wrap64; omega, show wrap64 (12 + 1) = 13 by unfold wrap64; omega, show wrap64 (13 + 1) = 14 by unfold wrap64; omega, show wrap64 (14 + 1) = 15 by unfold wrap64; omega, show wrap64 (15 + 1) = 16 by unfold wrap64; omega, show wrap64 (16 + 1) = 17 by unfold wrap64; omega, show wrap64 (17 + 1) = 18 by unfold wrap64; omega, show wrap64 (18 + 1) = 19 by unfold wrap64; omega, Int.reduceLT, Int.reduceLE, if_true, if_false, b0, b1, b2, b3, b4, b5, b6, b7, b8, b9, b10, b11, b12, b13, b14, b15, b16, b17, b18]
    rw [or_if (c := x = 33) (or_if (c := x = 35) (or_if (c := x = 36) (or_if (c := x = 37) (or_if (c := x = 38) (or_if (c := x = 39) (or_if (c := x = 42) (or_if (c := x = 43) (or_if (c := x = 45) (or_if (c := x = 47) (or_if (c := x = 61) (or_if (c := x = 63) (or_if (c := x = 94) (or_if (c := x = 95) (or_if (c := x = 96) (or_if (c := x = 123) (or_if (c := x = 124) (or_if (c := x = 125) (or_if (c := x = 126) rfl))))))))))))))))))]
    exact congrArg some (decide_eq_decide.2 (by omega))
  refine ⟨20, fun k hk => ?_⟩
  obtain ⟨m, rfl⟩ : ∃ m, k = m + 20 := ⟨k - 20, by omega⟩
  exact e m
theorem impl_TextValid_l0 (s : ByteArray) (hs : s.size ≤ 4611686018427387904) : ∀ (d i : Nat), i + d = s.size → Ev (fun k => impl_TextValid.l0 k s (s.size : Int) (i : Int)) (decide (s.size ≤ 200) && ((bytesOf s).drop i).all isTxt) := by
  intro d
  induction d with
  | zero =>
    intro i hi
    refine ev_succ ?_
    simp only [impl_TextValid.l0]
    refine ev_neg (by omega) ?_
    rw [L_drop_nil s i (by omega), List.all_nil, Bool.and_true]
    exact ev_of (congrArg some (decide_eq_decide.2 (by omega)))
  | succ d ih =>
    intro i hi
    refine ev_succ ?_
    simp only [impl_TextValid.l0]
    refine ev_pos (by omega) (ev_pos (by omega) (ev_pos (by omega) ?_))
    rw [L_drop s i (by omega), List.all_cons, wrap_succ i (by omega)]
    by_cases h1 : bt s i < 32
    · refine ev_pos h1 (ev_of ?_)
      rw [show isTxt (bt s i) = false from decide_eq_false (by omega), Bool.false_and, Bool.and_false]
    · refine ev_neg h1 ?_
      by_cases h2 : bt s i > 126
      · refine ev_pos h2 (ev_of ?_)
        rw [show isTxt (bt s i) = false from decide_eq_false (by omega), Bool.false_and, Bool.and_false]
      · refine ev_neg h2 ?_
        rw [show isTxt (bt s i) = true from decide_eq_true (by omega), Bool.true_and]
        exact ih (i + 1) (by omega)
theorem impl_TextValid_ev (s : ByteArray) (hs : s.size ≤ 4611686018427387904) : Ev (fun k => impl_TextValid.f k s) (textOk (bytesOf s)) := by
  have h := impl_TextValid_l0 s hs s.size 0 (by omega)
  rw [List.drop_zero] at h
  unfold textOk
  rw [L_len]
  exact h
theorem spec_TextValid_l0 (s : ByteArray) (hs : s.size ≤ 4611686018427387904) : ∀ (d i : Nat), i + d = s.size → i ≤ 201 → Ev (fun k => spec_TextValid.l0 k s (i : Int)) (decide (s.size ≤ 200) && ((bytesOf s).drop i).all isTxt) := by
  intro d
  induction d with
  | zero =>
    intro i hi _
    refine ev_succ ?_
    simp only [spec_TextValid.l0]
    refine ev_neg (by omega) (ev_succ ?_)
    simp only [spec_TextValid.j1, if_true, Bool.false_eq_true, if_false]
    rw [L_drop_nil s i (by omega), List.all_nil, Bool.and_true]
    exact ev_of (congrArg some (decide_eq_decide.2 (by omega)))
  | succ d ih =>
    intro i hi h201
    refine ev_succ ?_
    simp only [spec_TextValid.l0]
    refine ev_pos (by omega) (ev_succ ?_)
    by_cases h0 : (i : Int) ≤ 200
    · simp only [decide_eq_true h0, spec_TextValid.j1, if_true]
      refine ev_pos (by omega) (ev_pos (by omega) ?_)
      rw [L_drop s i (by omega), List.all_cons, wrap_succ i (by omega)]
      by_cases h1 : bt s i < 32
      · refine ev_pos h1 (ev_of ?_)
        rw [show isTxt (bt s i) = false from decide_eq_false (by omega), Bool.false_and, Bool.and_false]
      · refine ev_neg h1 ?_
        by_cases h2 : bt s i > 126
        · refine ev_pos h2 (ev_of ?_)
          rw [show isTxt (bt s i) = false from decide_eq_false (by omega), Bool.false_and, Bool.and_false]
        · refine ev_neg h2 ?_
          rw [show isTxt (bt s i) = true from decide_eq_true (by omega), Bool.true_and]
          exact ih (i + 1) (by omega) (by omega)
    · simp only [decide_eq_false h0, spec_TextValid.j1, Bool.false_eq_true, if_false]
      refine ev_of ?_
      rw [show decide (s.size ≤ 200) = false from decide_eq_false (by omega), Bool.false_and]
      exact congrArg some (decide_eq_false (by omega))
theorem spec_TextValid_ev (s : ByteArray) (hs : s.size ≤ 4611686018427387904) : Ev (fun k => spec_TextValid.f k s) (textOk (bytesOf s)) := by
  have h := spec_TextValid_l0 s hs s.size 0 (by omega) (by omega)
  rw [List.drop_zero] at h
  unfold textOk
  rw [L_len]
  exact h
theorem impl_AtomValid_eq (s : ByteArray) : impl_AtomValid.f s = some (atomOk (bytesOf s)) := by
  unfold impl_AtomValid.f
  by_cases h1 : (s.size : Int) ≥ 1
  · rw [if_pos h1]
    by_cases h2 : (s.size : Int) ≤ 40
    · rw [if_pos h2, allBytes__impl_isAtomByte.f, if_pos (by omega), allO_some (q := isAtm) _ fun x _ => impl_isAtomByte_eq x, Option.bind_some]
      unfold atomOk
      rw [decide_eq_true (by rw [L_len]; omega), Bool.true_and]
    · rw [if_neg h2]
      unfold atomOk
      rw [decide_eq_false (by rw [L_len]; omega), Bool.false_and]
  · rw [if_neg h1]
    unfold atomOk
    rw [decide_eq_false (by rw [L_len]; omega), Bool.false_and]
theorem spec_AtomValid_l0 (s : ByteArray) (hs : s.size ≤ 4611686018427387904) : ∀ (d i : Nat), i + d = s.size → i ≤ 41 → Ev (fun k => spec_AtomValid.l0 k s (i : Int)) (decide (1 ≤ s.size ∧ s.size ≤ 40) && ((bytesOf s).drop i).all isAtm) := by
  have fin : ∀ i : Nat, (i = s.size ∨ 40 < i) → i ≤ s.size → Ev (fun _ => (if (s.size : Int) ≥ 1 then some (decide ((s.size : Int) ≤ 40)) else some false)) (decide (1 ≤ s.size ∧ s.size ≤ 40) && ((bytesOf s).drop i).all isAtm) := by
    intro i hi hle
    have e : (decide (1 ≤ s.size ∧ s.size ≤ 40) && ((bytesOf s).drop i).all isAtm) = decide (1 ≤ s.size ∧ s.size ≤ 40) := by
      rcases hi with hi | hi
      · rw [L_drop_nil s i (by omega), List.all_nil, Bool.and_true]
      · rw [show decide (1 ≤ s.size ∧ s.size ≤ 40) = false from decide_eq_false (by omega), Bool.false_and]
    rw [e]
    by_cases h1 : (s.size : Int) ≥ 1
    · exact ev_pos h1 (ev_of (congrArg some (decide_eq_decide.2 (by omega))))
    · exact ev_neg h1 (ev_of (congrArg some (decide_eq_false (by omega)).symm))
  intro d
  induction d with
  | zero =>
    intro i hi _
    refine ev_succ ?_
    simp only [spec_AtomValid.l0]
    refine ev_neg (by omega) (ev_succ ?_)
    simp only [spec_AtomValid.j1, Bool.false_eq_true, if_false]
    exact fin i (by omega) (by omega)
  | succ d ih =>
    intro i hi h41
    refine ev_succ ?_
    simp only [spec_AtomValid.l0]
    refine ev_pos (by omega) (ev_succ ?_)
    by_cases h0 : (i : Int) ≤ 40
    · simp only [decide_eq_true h0, spec_AtomValid.j1, if_true]
      refine ev_pos (by omega) (ev_pos (by omega) (ev_bind (spec_l1Atom_ev _) ?_))
      rw [L_drop s i (by omega), List.all_cons, wrap_succ i (by omega)]
      cases hA : isAtm (bt s i) with
      | true =>
        refine ev_pos rfl ?_
        rw [Bool.true_and]
        exact ih (i + 1) (by omega) (by omega)
      | false =>
        refine ev_neg (by decide) (ev_of ?_)
        rw [Bool.false_and, Bool.and_false]
    · simp only [decide_eq_false h0, spec_AtomValid.j1, Bool.false_eq_true, if_false]
      exact fin i (by omega) (by omega)
theorem spec_AtomValid_ev (s : ByteArray) (hs : s.size ≤ 4611686018427387904) : Ev (fun k => spec_AtomValid.f k s) (atomOk (bytesOf s)) := by
  have h := spec_AtomValid_l0 s hs s.size 0 (by omega) (by omega)
  rw [List.drop_zero] at h
  unfold atomOk
  rw [L_len]
  exact h

end Go.Proofs.YtcnkakaipajloaaDoor.Q
