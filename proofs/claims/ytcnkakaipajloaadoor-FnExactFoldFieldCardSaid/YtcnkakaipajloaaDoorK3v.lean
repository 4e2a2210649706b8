/- What the printed checks of fields come to; no condition. -/
import Derived.Test.YtcnkakaipajloaaDoorK2t
import Derived.Test.YtcnkakaipajloaaDoorC3
import Derived.Test.YtcnkakaipajloaaDoorK1
import Derived.Test.YtcnkakaipajloaaDoorQ10
import Derived.Test.YtcnkakaipajloaaDoorQ13
import Derived.Test.YtcnkakaipajloaaDoorQ8
set_option linter.unusedVariables false
set_option linter.unusedSimpArgs false
namespace Go.Proofs.YtcnkakaipajloaaDoor.Q
open Go.RowKit Go.Proofs.YtcnkakaipajloaaDoorV.PrintWords Go.Proofs.YtcnkakaipajloaaDoorV.PrintLast Go.Proofs.YtcnkakaipajloaaDoorV.PrintMore
/-! ## What the printed checks of fields come to -/
theorem nilB (a : ByteArray) : a.toList = ([] : List UInt8) ↔ bytesOf a = [] := by rw [← toList_nil, toList_iff, ← L_iff, L_nil]
theorem head_bt (s : ByteArray) (h : 0 < s.size) : ∃ r, bytesOf s = bt s 0 :: r := by
  have := L_drop s 0 h
  rw [List.drop_zero] at this
  exact ⟨_, this⟩
theorem lt_cons (s : ByteArray) (h : 0 < s.size) (h32 : bt s 0 = 32) : ltrim (bytesOf s) = ltrim (bytesOf (s.extract 1 s.size)) := by
  have e := L_drop s 0 h
  rw [List.drop_zero] at e
  have h32' : bt s ((0 : Nat) : Int) = 32 := h32
  rw [L_from, e, h32', ltrim_sp]
  rfl
theorem snoc_bt (s : ByteArray) (h : 0 < s.size) : bytesOf s = bytesOf (s.extract 0 (s.size - 1)) ++ [bt s ((s.size - 1 : Nat) : Int)] := by
  have hl : s.size - 1 < (bytesOf s).length := by rw [L_len]; omega
  have e := List.take_succ_eq_append_getElem hl
  rw [show s.size - 1 + 1 = s.size by omega, List.take_of_length_le (by rw [L_len]; exact Nat.le_refl _), bytesOf_at s (s.size - 1) (by omega)] at e
  rw [L_to]
  exact e
theorem spec_l2Trim_l1 : ∀ (n : Nat) (s : ByteArray), s.size ≤ n → n ≤ 1048576 → Ev (fun k => spec_l2Trim.l1 k s) (strOfNums (rtrim (bytesOf s))) := by
  intro n
  induction n with
  | zero =>
    intro s hs hn
    refine ev_succ ?_
    simp only [spec_l2Trim.l1]
    have e : bytesOf s = [] := (size_nil_iff s).1 (by omega)
    refine ev_neg (by omega) (ev_of ?_)
    rw [e, rtrim_nil, ← e, S_L]
  | succ n ih =>
    intro s hs hn
    refine ev_succ ?_
    simp only [spec_l2Trim.l1]
    by_cases h0 : 0 < s.size
    · have ew : wrap64 ((s.size : Int) - 1) = ((s.size - 1 : Nat) : Int) := by rw [wrap_id (by omega) (by omega)]; omega
      rw [ew]
      have hz : (s.extract 0 (s.size - 1)).size = s.size - 1 := by rw [← L_len, L_to, List.length_take, L_len]; omega
      refine ev_pos (by omega) (ev_pos (by omega) (ev_pos (by omega) ?_))
      have e := snoc_bt s h0
      by_cases h32 : bt s ((s.size - 1 : Nat) : Int) = 32
      · rw [h32] at e ⊢
        rw [e, rtrim_sp, Int.toNat_natCast]
        exact ev_pos rfl (ev_pos (by omega) (ih _ (by omega) (by omega)))
      · refine ev_neg h32 (ev_of ?_)
        rw [e, rtrim_ne _ h32, ← e, S_L]
    · have e : bytesOf s = [] := (size_nil_iff s).1 (by omega)
      refine ev_neg (by omega) (ev_of ?_)
      rw [e, rtrim_nil, ← e, S_L]
theorem spec_l2Trim_l0 : ∀ (n : Nat) (s : ByteArray), s.size ≤ n → n ≤ 1048576 → Ev (fun k => spec_l2Trim.l0 k s) (trimS s) := by
  intro n
  induction n with
  | zero =>
    intro s hs hn
    refine ev_succ ?_
    simp only [spec_l2Trim.l0]
    have e : bytesOf s = [] := (size_nil_iff s).1 (by omega)
    refine ev_neg (by omega) (ev_succ ?_)
    simp only [spec_l2Trim.j1]
    refine ev_cast (spec_l2Trim_l1 0 s hs (by omega)) ?_
    unfold trimS trimT
    rw [e]; rfl
  | succ n ih =>
    intro s hs hn
    refine ev_succ ?_
    simp only [spec_l2Trim.l0]
    by_cases h0 : 0 < s.size
    · have hz : (s.extract 1 s.size).size = s.size - 1 := by rw [← L_len, L_from, List.length_drop, L_len]
      refine ev_pos (by omega) (ev_pos (by omega) ?_)
      by_cases h32 : bt s 0 = 32
      · refine ev_pos h32 (ev_pos (by omega) (ev_cast (ih _ (by omega) (by omega)) ?_))
        unfold trimS trimT
        rw [lt_cons s h0 h32]
      · refine ev_neg h32 (ev_succ ?_)
        simp only [spec_l2Trim.j1]
        refine ev_cast (spec_l2Trim_l1 (n + 1) s hs hn) ?_
        obtain ⟨r, e⟩ := head_bt s h0
        unfold trimS trimT
        rw [e, ltrim_ne r h32]
    · have e : bytesOf s = [] := (size_nil_iff s).1 (by omega)
      refine ev_neg (by omega) (ev_succ ?_)
      simp only [spec_l2Trim.j1]
      refine ev_cast (spec_l2Trim_l1 (n + 1) s hs hn) ?_
      unfold trimS trimT
      rw [e]; rfl
theorem spec_l2Trim_ev (s : ByteArray) (hs : s.size ≤ 1048576) : Ev (fun k => spec_l2Trim.f k s) (trimS s) := spec_l2Trim_l0 s.size s (Nat.le_refl _) hs
theorem trimS_eq (s : ByteArray) : ((trimS s).toList == s.toList) = decide (trimT (bytesOf s) = bytesOf s) := by
  rw [toList_beq]
  exact decide_eq_decide.2 (by rw [← L_iff, L_trimS])
theorem impl_isName_1_eq (x : Int) : impl_isName_1.f x = some (isNm x) := by
  unfold impl_isName_1.f isNm
  rw [impl_isLetter_eq, Option.bind_some, impl_isDigit_eq, Option.bind_some]
  simp only [isLet, isDig, decide_eq_true_eq]
  by_cases h1 : (97 ≤ x ∧ x ≤ 122) ∨ (65 ≤ x ∧ x ≤ 90)
  · rw [if_pos h1]; exact congrArg some (decide_eq_true (by omega)).symm
  · rw [if_neg h1]
    by_cases h2 : 48 ≤ x ∧ x ≤ 57
    · rw [if_pos h2]; exact congrArg some (decide_eq_true (by omega)).symm
    · rw [if_neg h2]
      refine congrArg some ?_
      rw [Bool.eq_iff_iff, beq_iff_eq, decide_eq_true_eq]
      omega
theorem impl_isName_eq (s : ByteArray) : impl_isName.f s = some (nameOk (bytesOf s)) := by
  unfold impl_isName.f nameOk
  rw [L_len]
  by_cases h1 : (s.size : Int) ≥ 1
  · rw [if_pos h1]
    by_cases h2 : (s.size : Int) ≤ 30
    · obtain ⟨r, e⟩ := head_bt s (by omega)
      rw [if_pos h2, if_pos (by omega), impl_isLetter_eq, Option.bind_some, decide_eq_true (by omega), Bool.true_and, e]
      simp only
      cases isLet (bt s 0) with
      | false => rw [if_neg (by decide), Bool.false_and]
      | true => rw [if_pos rfl, Bool.true_and, ← e, allBytes__impl_isName_1.f, if_pos (by omega), allO_some (q := isNm) _ fun x _ => impl_isName_1_eq x, Option.bind_some]
    · rw [if_neg h2, decide_eq_false (by omega), Bool.false_and]
  · rw [if_neg h1, decide_eq_false (by omega), Bool.false_and]
theorem impl_FieldValid_ev (a b : ByteArray) (ha : a.size ≤ 1048576) (hb : b.size ≤ 1048576) : Ev (fun k => impl_FieldValid.f k a b) (fieldOk (bytesOf a) (bytesOf b)) := by
  unfold impl_FieldValid.f fieldOk
  refine ev_bind1 (impl_isName_eq a) ?_
  cases nameOk (bytesOf a) with
  | false => exact ev_neg (by decide) (Ev.now _)
  | true =>
    refine ev_pos rfl (ev_bind (impl_TextValid_ev b (by omega)) ?_)
    cases textOk (bytesOf b) with
    | false => exact ev_neg (by decide) (Ev.now _)
    | true =>
      refine ev_pos rfl ?_
      by_cases h : (b.size : Int) ≤ 150
      · refine ev_pos h (ev_bind1 (strings_Trim_eq b (by omega)) (ev_of ?_))
        rw [trimS_eq, decide_eq_true (p := (bytesOf b).length ≤ 150) (by rw [L_len]; omega)]
        rfl
      · refine ev_neg h (ev_of ?_)
        rw [decide_eq_false (p := (bytesOf b).length ≤ 150) (by rw [L_len]; omega)]
        rfl
theorem spec_nm (x : Int) : decide ((97 ≤ x ∧ x ≤ 122) ∨ (65 ≤ x ∧ x ≤ 90) ∨ (48 ≤ x ∧ x ≤ 57)) = true ∨ x = 45 ↔ isNm x = true := by
  simp only [isNm, decide_eq_true_eq]
  omega
theorem spec_l3Name_l0 (s : ByteArray) (hs : s.size ≤ 1048576) : ∀ (d i : Nat), i + d = s.size → 1 ≤ i → i ≤ 31 → Ev (fun k => spec_l3Name.l0 k s (i : Int)) (decide (s.size ≤ 30) && ((bytesOf s).drop i).all isNm) := by
  intro d
  induction d with
  | zero =>
    intro i hi h1 h31
    refine ev_succ ?_
    simp only [spec_l3Name.l0]
    refine ev_neg (by omega) (ev_succ ?_)
    simp only [spec_l3Name.j1, Bool.false_eq_true, if_false]
    rw [L_drop_nil s i (by omega), List.all_nil, Bool.and_true]
    exact ev_pos (by omega) (ev_of (congrArg some (decide_eq_decide.2 (by omega))))
  | succ d ih =>
    intro i hi h1 h31
    refine ev_succ ?_
    simp only [spec_l3Name.l0]
    refine ev_pos (by omega) (ev_succ ?_)
    by_cases h0 : (i : Int) ≤ 30
    · simp only [decide_eq_true h0, spec_l3Name.j1, if_true]
      rw [L_drop s i (by omega), List.all_cons, wrap_succ i (by omega)]
      have hiff := spec_nm (bt s i)
      have hgo := ih (i + 1) (by omega) (by omega) (by omega)
      refine ev_pos (by omega) (ev_pos (by omega) (ev_bind1 (spec_l1Letter_eq _) ?_))
      cases hn : isNm (bt s i) with
      | true =>
        rw [Bool.true_and]
        by_cases h2 : decide ((97 ≤ bt s i ∧ bt s i ≤ 122) ∨ (65 ≤ bt s i ∧ bt s i ≤ 90) ∨ (48 ≤ bt s i ∧ bt s i ≤ 57)) = true
        · exact ev_pos h2 (ev_neg (by omega) hgo)
        · exact ev_neg h2 (ev_pos ((hiff.2 hn).resolve_left h2) (ev_neg (by omega) hgo))
      | false =>
        have h3 : ¬ _ := fun h => by have := hiff.1 h; rw [hn] at this; cases this
        rw [Bool.false_and, Bool.and_false]
        exact ev_neg (fun h => h3 (.inl h)) (ev_neg (fun h => h3 (.inr h)) (Ev.now _))
    · simp only [decide_eq_false h0, spec_l3Name.j1, Bool.false_eq_true, if_false]
      rw [decide_eq_false (p := s.size ≤ 30) (by omega), Bool.false_and]
      exact ev_pos (by omega) (ev_of (congrArg some (decide_eq_false (by omega))))
theorem spec_l3Name_ev (s : ByteArray) (hs : s.size ≤ 1048576) : Ev (fun k => spec_l3Name.f k s) (nameOk (bytesOf s)) := by
  unfold spec_l3Name.f nameOk
  rw [L_len]
  refine ev_succ ?_
  simp only [spec_l3Name.l0]
  by_cases h0 : 0 < s.size
  · obtain ⟨r, e⟩ := head_bt s h0
    have er : r = (bytesOf s).drop 1 := by rw [e]; rfl
    have hgo := spec_l3Name_l0 s hs (s.size - 1) 1 (by omega) (by omega) (by omega)
    have hw : wrap64 ((0 : Int) + 1) = ((1 : Nat) : Int) := by unfold wrap64; omega
    refine ev_pos (by omega) (ev_succ ?_)
    simp only [show decide ((0 : Int) ≤ 30) = true from rfl, spec_l3Name.j1, if_true]
    rw [e, hw]
    simp only [List.all_cons]
    have hiff := spec_nm (bt s 0)
    have key : (decide (1 ≤ s.size ∧ s.size ≤ 30) && (isLet (bt s 0) && (isNm (bt s 0) && r.all isNm))) = (if isLet (bt s 0) = true then (decide (s.size ≤ 30) && r.all isNm) else false) := by
      cases hl : isLet (bt s 0) with
      | true =>
        have : isNm (bt s 0) = true := by
          simp only [isLet, isNm, decide_eq_true_eq] at hl ⊢
          omega
        rw [this, if_pos rfl, Bool.true_and, Bool.true_and]
        congr 1
        exact decide_eq_decide.2 (by omega)
      | false => simp
    rw [key, er]
    have hlet : isLet (bt s 0) = true ↔ (97 ≤ bt s 0 ∧ bt s 0 ≤ 122) ∨ (65 ≤ bt s 0 ∧ bt s 0 ≤ 90) := by simp [isLet]
    refine ev_pos (by omega) (ev_pos (by omega) (ev_bind1 (spec_l1Letter_eq _) ?_))
    by_cases h2 : decide ((97 ≤ bt s 0 ∧ bt s 0 ≤ 122) ∨ (65 ≤ bt s 0 ∧ bt s 0 ≤ 90) ∨ (48 ≤ bt s 0 ∧ bt s 0 ≤ 57)) = true
    · have h2' := of_decide_eq_true h2
      refine ev_pos h2 ?_
      by_cases h3 : bt s 0 ≤ 57
      · rw [if_neg (fun h => by have := hlet.1 h; omega)]
        exact ev_pos h3 (Ev.now _)
      · rw [if_pos (hlet.2 (by omega))]
        exact ev_neg h3 hgo
    · have h2' : ¬ _ := fun h => h2 (decide_eq_true h)
      rw [if_neg (fun h => h2' (by have := hlet.1 h; omega))]
      refine ev_neg h2 ?_
      by_cases h4 : bt s 0 = 45
      · exact ev_pos h4 (ev_pos (by omega) (Ev.now _))
      · exact ev_neg h4 (Ev.now _)
  · refine ev_neg (by omega) (ev_succ ?_)
    simp only [spec_l3Name.j1, Bool.false_eq_true, if_false]
    rw [decide_eq_false (p := 1 ≤ s.size ∧ s.size ≤ 30) (by omega), Bool.false_and]
    exact ev_neg (by omega) (Ev.now _)
theorem spec_FieldValid_ev (a b : ByteArray) (ha : a.size ≤ 1048576) (hb : b.size ≤ 1048576) : Ev (fun k => spec_FieldValid.f k a b) (fieldOk (bytesOf a) (bytesOf b)) := by
  unfold spec_FieldValid.f fieldOk
  refine ev_bind (spec_l3Name_ev a ha) ?_
  cases nameOk (bytesOf a) with
  | false => exact ev_neg (by decide) (Ev.now _)
  | true =>
    refine ev_pos rfl (ev_bind (spec_TextValid_ev b (by omega)) ?_)
    cases textOk (bytesOf b) with
    | false => exact ev_neg (by decide) (Ev.now _)
    | true =>
      refine ev_pos rfl ?_
      by_cases h : (b.size : Int) ≤ 150
      · refine ev_pos h (ev_bind (spec_l2Trim_ev b hb) (ev_of ?_))
        rw [trimS_eq, decide_eq_true (p := (bytesOf b).length ≤ 150) (by rw [L_len]; omega)]
        rfl
      · refine ev_neg h (ev_of ?_)
        rw [decide_eq_false (p := (bytesOf b).length ≤ 150) (by rw [L_len]; omega)]
        rfl

end Go.Proofs.YtcnkakaipajloaaDoor.Q
