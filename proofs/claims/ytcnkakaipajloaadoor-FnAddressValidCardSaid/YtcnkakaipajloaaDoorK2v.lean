/- What the printed checks of addresses come to; no condition. -/
import Derived.Test.YtcnkakaipajloaaDoorK2t
import Derived.Test.YtcnkakaipajloaaDoorK1
import Derived.Test.YtcnkakaipajloaaDoorKL
import Derived.Test.YtcnkakaipajloaaDoorQ6
import Derived.Test.YtcnkakaipajloaaDoorQ7
set_option linter.unusedVariables false
set_option linter.unusedSimpArgs false
namespace Go.Proofs.YtcnkakaipajloaaDoor.Q
open Go.RowKit Go.Proofs.YtcnkakaipajloaaDoorV.PrintWords Go.Proofs.YtcnkakaipajloaaDoorV.PrintLast Go.Proofs.YtcnkakaipajloaaDoorV.PrintMore
/-! ## What the printed checks of addresses come to -/
theorem lo8_low8 : lo8 = low8 := rfl
theorem impl_isLocal_eq (s : ByteArray) : impl_isLocal.f s = some (localOk (bytesOf s)) := by
  unfold impl_isLocal.f localOk
  by_cases h : (s.size : Int) ≤ 30
  · obtain ⟨ps, h1, h2, h3⟩ := strings_Split_eq s (by omega)
    rw [if_pos h, h1, Option.bind_some, ContainsFunc__impl_isLocal_1.f, anyO_some (q := fun x => !atomOk (bytesOf x)) ps (fun x _ => by unfold impl_isLocal_1.f; rw [impl_AtomValid_eq, Option.bind_some]), Option.bind_some, decide_eq_true (by rw [L_len]; omega), Bool.true_and, ← h2, List.all_map, List.not_any_eq_all_not]
    simp [Function.comp_def]
  · rw [if_neg h, decide_eq_false (by rw [L_len]; omega), Bool.false_and]
theorem impl_isLabel_1_eq (x : Int) : impl_isLabel_1.f x = some (isLow x) := by
  unfold impl_isLabel_1.f isLow
  rw [impl_isDigit_eq]
  simp only [Option.bind_some, isDig, decide_eq_true_eq]
  repeat' split
  all_goals first | exact congrArg some (decide_eq_true (by omega)).symm | exact congrArg some (decide_eq_false (by omega)).symm | (rw [show (x == 45) = decide (x = 45) from (Bool.decide_eq_eq_eq_beq x 45)]; exact congrArg some (decide_eq_decide.2 (by omega))) | (refine congrArg some ?_; rw [Bool.eq_iff_iff, beq_iff_eq, decide_eq_true_eq]; omega)
theorem impl_isLabel_eq (s : ByteArray) (hs : s.size ≤ 1048576) : impl_isLabel.f s = some (labelOk (bytesOf s)) := by
  unfold impl_isLabel.f labelOk
  by_cases h0 : s.toList = ([] : List UInt8)
  · rw [if_pos h0]
    have e : bytesOf s = [] := by
      have : s = (⟨#[]⟩ : ByteArray) := toList_iff.1 (by rw [h0, toList_nil])
      rw [this]; rfl
    rw [e]; rfl
  · have hp : 0 < s.size := by
      rcases Nat.eq_zero_or_pos s.size with h | h
      · exact absurd (by rw [← toList_nil, toList_iff, ← L_iff, L_nil]; exact (size_nil_iff s).1 h) h0
      · exact h
    have hne : bytesOf s ≠ [] := fun e => by rw [← size_nil_iff] at e; omega
    have h1 : (bytesOf s).head? = some (bt s 0) := by rw [List.head?_eq_getElem?]; exact bt_get s 0 hp
    have h2 : (bytesOf s).getLast? = some (bt s ((s.size - 1 : Nat) : Int)) := by rw [List.getLast?_eq_getElem?, L_len]; exact bt_get s (s.size - 1) (by omega)
    have ew : wrap64 ((s.size : Int) - 1) = ((s.size - 1 : Nat) : Int) := by rw [wrap_id (by omega) (by omega)]; omega
    rw [if_neg h0, if_pos (by omega), ew, decide_eq_true hne, Bool.true_and, h1, h2]
    by_cases h3 : bt s 0 = 45
    · rw [if_pos h3, decide_eq_false (by simp [h3]), Bool.false_and]
    · rw [if_neg h3, if_pos (by omega), if_pos (by omega), decide_eq_true (by simpa using h3), Bool.true_and]
      by_cases h4 : bt s ((s.size - 1 : Nat) : Int) = 45
      · rw [if_pos h4, decide_eq_false (by simp [h4]), Bool.false_and]
      · rw [if_neg h4, decide_eq_true (by simpa using h4), Bool.true_and, allBytes__impl_isLabel_1.f, if_pos (by omega), allO_some (q := isLow) _ fun x _ => impl_isLabel_1_eq x, Option.bind_some]
theorem impl_isDomain_eq (s : ByteArray) : impl_isDomain.f s = some (domOk (bytesOf s)) := by
  unfold impl_isDomain.f domOk
  by_cases h : (s.size : Int) ≤ 40
  · obtain ⟨ps, h1, h2, h3⟩ := strings_Split_eq s (by omega)
    have hz : ∀ x ∈ ps, x.size ≤ 1048576 := fun x hx => by
      have := pcs_sub 46 (bytesOf s) [] (bytesOf x) (by rw [← h2]; exact List.mem_map_of_mem hx)
      rw [L_len, L_len] at this
      simp only [List.length_nil] at this
      omega
    rw [if_pos h, h1, Option.bind_some, ContainsFunc__impl_isDomain_1.f, anyO_some (q := fun x => !labelOk (bytesOf x)) ps (fun x hx => by unfold impl_isDomain_1.f; rw [impl_isLabel_eq x (hz x hx), Option.bind_some]), Option.bind_some, decide_eq_true (by rw [L_len]; omega), Bool.true_and, ← h2, List.all_map, List.not_any_eq_all_not]
    simp [Function.comp_def]
  · rw [if_neg h, decide_eq_false (by rw [L_len]; omega), Bool.false_and]
theorem impl_AddressValid_ev (a b c : ByteArray) (ha : a.size ≤ 1048576) (hb : b.size ≤ 1048576) (hc : c.size ≤ 1048576) : Ev (fun k => impl_AddressValid.f k a b c) (addrOk (bytesOf a) (bytesOf b) (bytesOf c)) := by
  unfold impl_AddressValid.f addrOk
  refine ev_bind (impl_TextValid_ev a (by omega)) ?_
  cases textOk (bytesOf a) with
  | false => exact ev_neg (by decide) (Ev.now _)
  | true =>
    refine ev_pos rfl ?_
    by_cases h : (a.size : Int) ≤ 40
    · rw [decide_eq_true (by rw [L_len]; omega), Bool.true_and, Bool.true_and]
      refine ev_pos h (ev_bind1 (impl_isLocal_eq b) ?_)
      cases localOk (bytesOf b) with
      | false => exact ev_neg (by decide) (Ev.now _)
      | true => exact ev_pos rfl (ev_bind1 (impl_isDomain_eq c) (Ev.now _))
    · rw [decide_eq_false (by rw [L_len]; omega)]
      exact ev_neg h (Ev.now _)
theorem spec_l2Parts_l0 (s : ByteArray) (hs : s.size ≤ 1048576) (c : Int) : ∀ (d i st : Nat) (out : List ByteArray), i + d = s.size → st ≤ i → out.length ≤ st → Ev (fun k => spec_l2Parts.l0 k s c out (st : Int) (i : Int)) (out ++ (pcs c (((bytesOf s).drop st).take (i - st)) ((bytesOf s).drop i)).map strOfNums) := by
  intro d
  induction d with
  | zero =>
    intro i st out hi hst ho
    refine ev_succ ?_
    simp only [spec_l2Parts.l0]
    rw [L_drop_nil s i (by omega), pcs, Int.toNat_natCast, Int.toNat_natCast]
    have e : s.extract st s.size = strOfNums (((bytesOf s).drop st).take (i - st)) := by rw [extract_S, show i = s.size by omega]
    refine ev_neg (by omega) (ev_pos (by omega) (ev_pos (by omega) (ev_pos (by omega) (ev_of ?_))))
    rw [e]; rfl
  | succ d ih =>
    intro i st out hi hst ho
    refine ev_succ ?_
    simp only [spec_l2Parts.l0]
    rw [L_drop s i (by omega), wrap_succ i (by omega)]
    refine ev_pos (by omega) (ev_pos (by omega) ?_)
    rw [pcs]
    by_cases h : bt s i = c
    · rw [if_pos h]
      refine ev_pos h (ev_pos (by omega) (ev_pos (by omega) (ev_pos (by omega) (ev_pos (by omega) ?_))))
      rw [Int.toNat_natCast, Int.toNat_natCast, extract_S s st i]
      refine ev_cast (ih (i + 1) (i + 1) _ (by omega) (by omega) (by simp; omega)) ?_
      rw [Nat.sub_self, List.take_zero, List.map_cons, List.append_assoc]
      rfl
    · rw [if_neg h]
      refine ev_neg h (ev_cast (ih (i + 1) st out (by omega) (by omega) (by omega)) ?_)
      rw [show i + 1 - st = (i - st) + 1 by omega, List.take_succ_eq_append_getElem (by rw [List.length_drop, L_len]; omega), List.getElem_drop]
      congr 3
      have := bytesOf_at s i (by omega)
      simp only [show st + (i - st) = i by omega]
      rw [this]
theorem spec_l2Parts_ev (s : ByteArray) (hs : s.size ≤ 1048576) (c : Int) : Ev (fun k => spec_l2Parts.f k s c) ((pcs c [] (bytesOf s)).map strOfNums) := by
  have h := spec_l2Parts_l0 s hs c s.size 0 0 [] (by omega) (by omega) (by simp)
  rw [List.drop_zero, Nat.sub_zero, List.take_zero, List.nil_append] at h
  unfold spec_l2Parts.f
  exact h
theorem all_drop {α : Type} (p : α → Bool) (l : List α) (i : Nat) (h : i < l.length) : (l.drop i).all p = (p l[i] && (l.drop (i + 1)).all p) := by
  rw [List.drop_eq_getElem_cons h, List.all_cons]
theorem spec_l2Local_l0 (s : ByteArray) (ps : List ByteArray) (hp : ∀ p ∈ ps, p.size ≤ 1048576) (hl : ps.length ≤ 1048577) : ∀ (d i : Nat), i + d = ps.length → Ev (fun k => spec_l2Local.l0 k s ps (i : Int)) ((ps.drop i).all (fun p => atomOk (bytesOf p)) && decide (s.size ≤ 30)) := by
  intro d
  induction d with
  | zero =>
    intro i hi
    refine ev_succ ?_
    simp only [spec_l2Local.l0]
    rw [List.drop_eq_nil_of_le (by omega), List.all_nil, Bool.true_and]
    exact ev_neg (by omega) (ev_of (congrArg some (decide_eq_decide.2 (by omega))))
  | succ d ih =>
    intro i hi
    have hlt : i < ps.length := by omega
    have hz := hp _ (List.getElem_mem hlt)
    refine ev_succ ?_
    simp only [spec_l2Local.l0]
    rw [rdOf_get ps i hlt, wrap_succ i (by omega), all_drop _ _ _ hlt]
    refine ev_pos (by omega) (ev_pos (by omega) ((ev_bind (spec_AtomValid_ev _ (by omega)) ?_)))
    cases h : atomOk (bytesOf ps[i]) with
    | true => exact ev_pos rfl (ev_cast (ih (i + 1) (by omega)) (by rw [Bool.true_and]))
    | false => exact ev_neg (by decide) (Ev.now _)
theorem pcs_S (s : ByteArray) (c : Int) : ((pcs c [] (bytesOf s)).map strOfNums).map bytesOf = pcs c [] (bytesOf s) := by
  rw [List.map_map]
  conv => rhs; rw [← List.map_id (pcs c [] (bytesOf s))]
  refine List.map_congr_left fun p hp => ?_
  exact L_S ((L_IsB s).sub fun x hx => pcs_in c (bytesOf s) [] p hp x hx)
theorem pcs_size (s : ByteArray) (c : Int) : (∀ p ∈ (pcs c [] (bytesOf s)).map strOfNums, p.size ≤ s.size) ∧ ((pcs c [] (bytesOf s)).map strOfNums).length ≤ s.size + 1 := by
  refine ⟨fun p hp => ?_, ?_⟩
  · obtain ⟨q, hq, rfl⟩ := List.mem_map.1 hp
    have := pcs_sub c (bytesOf s) [] q hq
    rw [S_size]
    rw [L_len] at this
    simpa using this
  · rw [List.length_map, ← L_len s]
    exact pcs_len c (bytesOf s) []
theorem spec_l2Local_ev (s : ByteArray) (hs : s.size ≤ 1048576) : Ev (fun k => spec_l2Local.f k s) (localOk (bytesOf s)) := by
  unfold spec_l2Local.f
  obtain ⟨h1, h2⟩ := pcs_size s 46
  refine ev_bind (spec_l2Parts_ev s hs 46) ?_
  have h := spec_l2Local_l0 s _ (fun p hp => by have := h1 p hp; omega) (by omega) _ 0 (Nat.zero_add _)
  refine ev_cast h ?_
  unfold localOk
  rw [List.drop_zero, Bool.and_comm, L_len]
  congr 1
  have := pcs_S s 46
  conv => rhs; rw [← this]
  simp only [List.all_map]
  rfl
theorem labelOk_def (p : List Int) : labelOk p = (decide (p ≠ []) && (decide (p.head? ≠ some 45) && (decide (p.getLast? ≠ some 45) && p.all isLow))) := rfl
theorem spec_letter_low (x : Int) : (decide ((97 ≤ x ∧ x ≤ 122) ∨ (65 ≤ x ∧ x ≤ 90) ∨ (48 ≤ x ∧ x ≤ 57)) = true ∧ ¬ (65 ≤ x ∧ x ≤ 90)) ∨ x = 45 ↔ isLow x = true := by
  simp only [isLow, decide_eq_true_eq]
  omega
theorem spec_l2Domain_l1 (s : ByteArray) (ps : List ByteArray) (i : Nat) (hi : i < 1048577) (p : ByteArray) (hz : p.size ≤ 1048576) (R : Bool) (hR : Ev (fun k => spec_l2Domain.l0 k s ps ((i + 1 : Nat) : Int)) R) : ∀ (d j : Nat), j + d = p.size → Ev (fun k => spec_l2Domain.l1 k s ps (i : Int) p (j : Int)) (((bytesOf p).drop j).all isLow && R) := by
  intro d
  induction d with
  | zero =>
    intro j hj
    refine ev_succ ?_
    simp only [spec_l2Domain.l1]
    rw [L_drop_nil p j (by omega), List.all_nil, Bool.true_and, wrap_succ i (by omega)]
    exact ev_neg (by omega) hR
  | succ d ih =>
    intro j hj
    refine ev_succ ?_
    simp only [spec_l2Domain.l1]
    rw [L_drop p j (by omega), List.all_cons, wrap_succ j (by omega)]
    have hiff := spec_letter_low (bt p j)
    have hgo := ih (j + 1) (by omega)
    refine ev_pos (by omega) (ev_pos (by omega) (ev_bind1 (spec_l1Letter_eq _) ?_))
    cases hl : isLow (bt p j) with
    | true =>
      rw [Bool.true_and]
      rcases hiff.2 hl with ⟨h1, h2⟩ | h1
      · refine ev_pos h1 ?_
        by_cases h3 : bt p j ≥ 65
        · exact ev_pos h3 (ev_neg (by omega) hgo)
        · exact ev_neg h3 hgo
      · refine ev_neg (by rw [h1]; decide) (ev_pos h1 (ev_neg (by omega) hgo))
    | false =>
      have h1 : ¬ _ := fun h => by have := hiff.1 h; rw [hl] at this; cases this
      rw [Bool.false_and]
      by_cases h2 : decide ((97 ≤ bt p j ∧ bt p j ≤ 122) ∨ (65 ≤ bt p j ∧ bt p j ≤ 90) ∨ (48 ≤ bt p j ∧ bt p j ≤ 57)) = true
      · have h3 : 65 ≤ bt p j ∧ bt p j ≤ 90 := Classical.not_not.1 fun h => h1 (.inl ⟨h2, h⟩)
        exact ev_pos h2 (ev_pos (by omega) (ev_pos (by omega) (Ev.now _)))
      · exact ev_neg h2 (ev_neg (fun h => h1 (.inr h)) (Ev.now _))
theorem spec_l2Domain_l0 (s : ByteArray) (ps : List ByteArray) (hp : ∀ p ∈ ps, p.size ≤ 1048576) (hl : ps.length ≤ 1048577) : ∀ (d i : Nat), i + d = ps.length → Ev (fun k => spec_l2Domain.l0 k s ps (i : Int)) ((ps.drop i).all (fun p => labelOk (bytesOf p)) && decide (s.size ≤ 40)) := by
  intro d
  induction d with
  | zero =>
    intro i hi
    refine ev_succ ?_
    simp only [spec_l2Domain.l0]
    rw [List.drop_eq_nil_of_le (by omega), List.all_nil, Bool.true_and]
    exact ev_neg (by omega) (ev_of (congrArg some (decide_eq_decide.2 (by omega))))
  | succ d ih =>
    intro i hi
    have hlt : i < ps.length := by omega
    have hz := hp _ (List.getElem_mem hlt)
    refine ev_succ ?_
    simp only [spec_l2Domain.l0]
    rw [rdOf_get ps i hlt, all_drop _ _ _ hlt]
    generalize ps[i] = p at hz
    refine ev_pos (by omega) (ev_pos (by omega) ?_)
    by_cases h0 : p.toList = ([] : List UInt8)
    · have e : bytesOf p = [] := by
        have : p = (⟨#[]⟩ : ByteArray) := toList_iff.1 (by rw [h0, toList_nil])
        rw [this]; rfl
      rw [e, show labelOk [] = false from rfl, Bool.false_and, Bool.false_and]
      refine ev_pos h0 (ev_succ ?_)
      simp only [spec_l2Domain.j1, if_true]
      exact Ev.now _
    · have hpos : 0 < p.size := by
        rcases Nat.eq_zero_or_pos p.size with h | h
        · exact absurd (by rw [← toList_nil, toList_iff, ← L_iff, L_nil]; exact (size_nil_iff p).1 h) h0
        · exact h
      have hne : bytesOf p ≠ [] := fun e => by rw [← size_nil_iff] at e; omega
      have h1 : (bytesOf p).head? = some (bt p 0) := by rw [List.head?_eq_getElem?]; exact bt_get p 0 hpos
      have h2 : (bytesOf p).getLast? = some (bt p ((p.size - 1 : Nat) : Int)) := by rw [List.getLast?_eq_getElem?, L_len]; exact bt_get p (p.size - 1) (by omega)
      have ew : wrap64 ((p.size : Int) - 1) = ((p.size - 1 : Nat) : Int) := by rw [wrap_id (by omega) (by omega)]; omega
      have hgo := spec_l2Domain_l1 s ps i (by omega) p hz _ (ih (i + 1) (by omega)) p.size 0 (by omega)
      rw [List.drop_zero] at hgo
      rw [ew]
      refine ev_neg h0 (ev_pos (by omega) ?_)
      rw [labelOk_def (bytesOf p), decide_eq_true hne, Bool.true_and, h1, h2]
      by_cases h3 : bt p 0 = 45
      · rw [decide_eq_false (by simp [h3]), Bool.false_and, Bool.false_and]
        refine ev_pos h3 (ev_succ ?_)
        simp only [spec_l2Domain.j1, if_true]
        exact Ev.now _
      · rw [decide_eq_true (p := some (bt p 0) ≠ some 45) (by simpa using h3), Bool.true_and]
        refine ev_neg h3 (ev_pos (by omega) (ev_pos (by omega) (ev_succ ?_)))
        simp only [spec_l2Domain.j1]
        by_cases h4 : bt p ((p.size - 1 : Nat) : Int) = 45
        · rw [decide_eq_false (by simp [h4]), Bool.false_and, Bool.false_and]
          exact ev_pos (by rw [h4]; rfl) (Ev.now _)
        · rw [decide_eq_true (p := some (bt p ((p.size - 1 : Nat) : Int)) ≠ some 45) (by simpa using h4), Bool.true_and]
          rw [Bool.and_assoc]
          exact ev_neg (by simpa using h4) hgo
theorem spec_l2Domain_ev (s : ByteArray) (hs : s.size ≤ 1048576) : Ev (fun k => spec_l2Domain.f k s) (domOk (bytesOf s)) := by
  unfold spec_l2Domain.f
  obtain ⟨h1, h2⟩ := pcs_size s 46
  refine ev_bind (spec_l2Parts_ev s hs 46) ?_
  have h := spec_l2Domain_l0 s _ (fun p hp => by have := h1 p hp; omega) (by omega) _ 0 (Nat.zero_add _)
  refine ev_cast h ?_
  unfold domOk
  rw [List.drop_zero, Bool.and_comm, L_len]
  congr 1
  have := pcs_S s 46
  conv => rhs; rw [← this]
  simp only [List.all_map]
  rfl
theorem spec_AddressValid_ev (a b c : ByteArray) (ha : a.size ≤ 1048576) (hb : b.size ≤ 1048576) (hc : c.size ≤ 1048576) : Ev (fun k => spec_AddressValid.f k a b c) (addrOk (bytesOf a) (bytesOf b) (bytesOf c)) := by
  unfold spec_AddressValid.f addrOk
  have hn : Ev (fun k => spec_l2Name.f k a) (textOk (bytesOf a) && decide ((bytesOf a).length ≤ 40)) := by
    unfold spec_l2Name.f
    refine ev_bind (spec_TextValid_ev a (by omega)) ?_
    cases textOk (bytesOf a) with
    | false => exact ev_neg (by decide) (Ev.now _)
    | true => exact ev_pos rfl (ev_of (congrArg some (by rw [Bool.true_and]; exact decide_eq_decide.2 (by rw [L_len]; omega))))
  refine ev_bind hn ?_
  rw [← Bool.and_assoc]
  cases textOk (bytesOf a) && decide ((bytesOf a).length ≤ 40) with
  | false => exact ev_neg (by decide) (Ev.now _)
  | true =>
    rw [Bool.true_and]
    refine ev_pos rfl ?_
    by_cases h : (b.size : Int) ≤ 30
    · refine ev_pos h (ev_bind (spec_l2Local_ev b hb) ?_)
      cases localOk (bytesOf b) with
      | false => exact ev_neg (by decide) (Ev.now _)
      | true =>
        rw [Bool.true_and]
        refine ev_pos rfl ?_
        by_cases h2 : (c.size : Int) ≤ 40
        · exact ev_pos h2 (ev_bind (spec_l2Domain_ev c hc) (Ev.now _))
        · refine ev_neg h2 (ev_of (congrArg some ?_))
          unfold domOk
          rw [decide_eq_false (by rw [L_len]; omega), Bool.false_and]
    · refine ev_neg h (ev_of (congrArg some ?_))
      unfold localOk
      rw [decide_eq_false (by rw [L_len]; omega), Bool.false_and, Bool.false_and]

end Go.Proofs.YtcnkakaipajloaaDoor.Q
