/- What the printed helpers of the laws on addresses come to; no condition. -/
import Derived.Test.YtogmkfenplihoaaK2
import Derived.Test.YtogmkfenplihoaaKLa
import Derived.Test.YtogmkfenplihoaaKM
import Derived.Test.YtogmkfenplihoaaQ0
import Derived.Test.YtogmkfenplihoaaQ7
import Derived.Test.YtogmkfenplihoaaQ8
set_option linter.unusedVariables false
set_option linter.unusedSimpArgs false
namespace Go.Proofs.Ytogmkfenplihoaa.Q
open Go.RowKit Go.Proofs.YtogmkfenplihoaaV.PrintWords Go.Proofs.YtogmkfenplihoaaV.PrintLast Go.Proofs.YtogmkfenplihoaaV.PrintMore
/-! ## The laws' own helpers on addresses -/
theorem rdAL (l : List S46) (i : Nat) (h : i < l.length) : rd_T46 l (i : Int) = l[i] := by
  rw [rd_T46, Int.toNat_natCast, List.getD_eq_getElem?_getD, List.getElem?_eq_getElem h]
  rfl
def toA (x : S46) : S31 := ⟨x.f0, x.f1, x.f2⟩
theorem toAddressS_l0 (a : List S46) (hz : a.length ≤ 1000000000000) : ∀ (d i : Nat) (b : List S31), i + d = a.length → b.length = a.length → b.take i = (a.map toA).take i → Ev (fun k => laws_toAddressS.l0 k a b (i : Int)) (a.map toA) := by
  intro d
  induction d with
  | zero =>
    intro i b hi hl ht
    refine ev_succ ?_
    simp only [laws_toAddressS.l0]
    rw [List.take_of_length_le (by omega), List.take_of_length_le (by simp; omega)] at ht
    rw [← ht]
    exact ev_neg (by omega) (Ev.now _)
  | succ d ih =>
    intro i b hi hl ht
    have ha : i < a.length := by omega
    refine ev_succ ?_
    simp only [laws_toAddressS.l0]
    rw [rdAL a i ha, wrap_upA i (by omega)]
    refine ev_pos (by omega) (ev_pos (by omega) (ev_bind1 (show laws_toAddress.f a[i].f0 a[i].f1 a[i].f2 = some (a[i].f0, a[i].f1, a[i].f2) from rfl) (ev_pos (by omega) ?_)))
    rw [Int.toNat_natCast]
    refine ih (i + 1) _ (by omega) (by simpa using hl) ?_
    rw [List.take_succ_eq_append_getElem (by simp; omega), List.take_succ_eq_append_getElem (by simp; omega), List.take_set_of_le (by omega), ht, List.getElem_set_self, List.getElem_map]
    rfl
theorem toAddressS_ev (a : List S46) (hz : a.length ≤ 1000000000000) : Ev (fun k => laws_toAddressS.f k a) (a.map toA) := by
  unfold laws_toAddressS.f
  refine ev_pos (by omega) (ev_pos (by omega) ?_)
  rw [Int.toNat_natCast]
  exact toAddressS_l0 a hz a.length 0 _ (by omega) (by simp) (by simp)
theorem szAddressS_l0 (a : List S46) (hz : a.length ≤ 1000000000000) (hs : ∀ x ∈ a, x.f0.size ≤ 9223372036854775807 ∧ x.f1.size ≤ 9223372036854775807 ∧ x.f2.size ≤ 9223372036854775807) : ∀ (d i : Nat) (n : Int), i + d = a.length → 0 ≤ n → n ≤ 1048576 → ∃ r, Ev (fun k => laws_szAddressS.l0 k a n (i : Int)) r ∧ r ≤ n ∧ (0 ≤ r → ∀ x ∈ a.drop i, (x.f0.size : Int) ≤ n ∧ (x.f1.size : Int) ≤ n ∧ (x.f2.size : Int) ≤ n) := by
  intro d
  induction d with
  | zero =>
    intro i n hi h0 hn
    refine ⟨n, ev_succ ?_, by omega, ?_⟩
    · simp only [laws_szAddressS.l0]
      exact ev_neg (by omega) (Ev.now _)
    · rw [List.drop_eq_nil_of_le (by omega)]
      simp
  | succ d ih =>
    intro i n hi h0 hn
    have ha : i < a.length := by omega
    obtain ⟨g1, g2, g3⟩ := hs a[i] (List.getElem_mem ha)
    obtain ⟨r, e1, h1, h2⟩ := szAddress_eq a[i].f0 a[i].f1 a[i].f2 n hn h0 g1 g2 g3
    by_cases h3 : r < 0
    · refine ⟨-1, ev_succ ?_, by omega, fun h => by omega⟩
      simp only [laws_szAddressS.l0]
      rw [rdAL a i ha]
      exact ev_pos (by omega) (ev_pos (by omega) (ev_bind1 e1 (ev_pos h3 (Ev.now _))))
    · obtain ⟨r', e2, h4, h5⟩ := ih (i + 1) r (by omega) (by omega) (by omega)
      refine ⟨r', ev_succ ?_, by omega, fun h => ?_⟩
      · simp only [laws_szAddressS.l0]
        rw [rdAL a i ha, wrap_upA i (by omega)]
        exact ev_pos (by omega) (ev_pos (by omega) (ev_bind1 e1 (ev_neg h3 e2)))
      · rw [List.drop_eq_getElem_cons ha]
        intro x hx
        rcases List.mem_cons.1 hx with e | hx
        · rw [e]; exact h2 (by omega)
        · have := h5 h x hx
          omega
/-- Too much, or what has a size. -/
theorem szAddressS_ev (a : List S46) (n : Int) (hn : n ≤ 1048576) (h0 : 0 ≤ n) (hz : a.length ≤ 9223372036854775807) (hs : ∀ x ∈ a, x.f0.size ≤ 9223372036854775807 ∧ x.f1.size ≤ 9223372036854775807 ∧ x.f2.size ≤ 9223372036854775807) : ∃ r, Ev (fun k => laws_szAddressS.f k a n) r ∧ r ≤ n ∧ (0 ≤ r → (a.length : Int) ≤ n ∧ ∀ x ∈ a, (x.f0.size : Int) ≤ n ∧ (x.f1.size : Int) ≤ n ∧ (x.f2.size : Int) ≤ n) := by
  unfold laws_szAddressS.f
  rw [wrap_id (x := n - (a.length : Int)) (by omega) (by omega)]
  by_cases h : n - (a.length : Int) < 0
  · exact ⟨-1, ev_pos h (Ev.now _), by omega, fun h => by omega⟩
  · obtain ⟨r, e1, h1, h2⟩ := szAddressS_l0 a (by omega) hs a.length 0 (n - (a.length : Int)) (by omega) (by omega) (by omega)
    refine ⟨r, ev_neg h e1, by omega, fun h3 => ⟨by omega, fun x hx => ?_⟩⟩
    have := h2 h3 x (by simpa using hx)
    omega
theorem eqAddress_eq (a b : S31) : laws_eqAddress.f a.f0 a.f1 a.f2 b.f0 b.f1 b.f2 = some (decide (a = b)) := by
  unfold laws_eqAddress.f
  by_cases h : a.f0 = b.f0
  · rw [if_pos (toList_iff.2 h)]
    by_cases h' : a.f1 = b.f1
    · rw [if_pos (toList_iff.2 h')]
      by_cases h2 : a.f2 = b.f2
      · rw [if_pos (toList_iff.2 h2)]
        exact congrArg some (decide_eq_true (extA.2 ⟨h, h', h2⟩)).symm
      · rw [if_neg (fun e => h2 (toList_iff.1 e))]
        exact congrArg some (decide_eq_false (fun e => h2 (extA.1 e).2.2)).symm
    · rw [if_neg (fun e => h' (toList_iff.1 e))]
      exact congrArg some (decide_eq_false (fun e => h' (extA.1 e).2.1)).symm
  · rw [if_neg (fun e => h (toList_iff.1 e))]
    exact congrArg some (decide_eq_false (fun e => h (extA.1 e).1)).symm
theorem eqAddressS_l0 (a b : List S31) (hl : a.length = b.length) (hz : a.length ≤ 1000000000000) : ∀ (d i : Nat), i + d = a.length → Ev (fun k => laws_eqAddressS.l0 k a b (i : Int)) (decide (a.drop i = b.drop i)) := by
  intro d
  induction d with
  | zero =>
    intro i hi
    refine ev_succ ?_
    simp only [laws_eqAddressS.l0]
    rw [List.drop_eq_nil_of_le (by omega), List.drop_eq_nil_of_le (by omega)]
    exact ev_neg (by omega) (Ev.now _)
  | succ d ih =>
    intro i hi
    have ha : i < a.length := by omega
    have hb : i < b.length := by omega
    refine ev_succ ?_
    simp only [laws_eqAddressS.l0]
    rw [rdA a i ha, rdA b i hb, wrap_upA i (by omega), List.drop_eq_getElem_cons ha, List.drop_eq_getElem_cons hb]
    refine ev_pos (by omega) (ev_pos (by omega) (ev_pos (by omega) (ev_bind1 (eqAddress_eq a[i] b[i]) ?_)))
    by_cases h : a[i] = b[i]
    · refine ev_pos (by simp [h]) (ev_cast (ih (i + 1) (by omega)) ?_)
      exact decide_eq_decide.2 ⟨fun e => by rw [h, e], fun e => (List.cons.inj e).2⟩
    · refine ev_neg (by simp [h]) (ev_of ?_)
      exact congrArg some (decide_eq_false (fun e => h (List.cons.inj e).1)).symm
theorem eqAddressS_ev (a b : List S31) (hz : a.length ≤ 1000000000000) : Ev (fun k => laws_eqAddressS.f k a b) (decide (a = b)) := by
  unfold laws_eqAddressS.f
  by_cases hl : a.length = b.length
  · exact ev_pos (by omega) (eqAddressS_l0 a b hl hz a.length 0 (by omega))
  · refine ev_neg (by omega) (ev_of ?_)
    exact congrArg some (decide_eq_false (fun e => hl (by rw [e]))).symm
theorem rdA_set (l : List S31) (i : Nat) (h : i < l.length) (x : S31) : rd_T31 (l.set i x) (i : Int) = x := by
  rw [rdA _ i (by rw [List.length_set]; exact h), List.getElem_set_self]
theorem markA_l0 : ∀ (d : Nat) (i : Nat) (l : List S31) (a : Int), i + d = l.length → l.length ≤ 10000000000 → 0 ≤ a → a ≤ 10000000000 + 3 * i → ∃ l', Ev (fun k => laws_markAddressS.l0 k l a (i : Int)) (a + 3 * d, l') ∧ l'.length = l.length ∧ (∀ j, j < i → l'[j]? = l[j]?) ∧ ∀ j, i ≤ j → j < l.length → l'[j]? = some ⟨mkT (a + 3 * (j - i : Nat)), mkT (a + 3 * (j - i : Nat) + 1), mkT (a + 3 * (j - i : Nat) + 1 + 1)⟩ := by
  intro d
  induction d with
  | zero =>
    intro i l a hi hl h0 h1
    refine ⟨l, ev_succ ?_, rfl, fun _ _ => rfl, fun j h2 h3 => by omega⟩
    simp only [laws_markAddressS.l0]
    rw [show a + 3 * ((0 : Nat) : Int) = a by omega]
    exact ev_neg (by omega) (Ev.now _)
  | succ d ih =>
    intro i l a hi hl h0 h1
    obtain ⟨l', he, hlen, hlo, hhi⟩ := ih (i + 1) (l.set i ⟨mkT a, mkT (a + 1), mkT (a + 1 + 1)⟩) (a + 1 + 1 + 1) (by rw [List.length_set]; omega) (by rw [List.length_set]; omega) (by omega) (by omega)
    rw [List.length_set] at hlen hhi
    refine ⟨l', ev_succ ?_, hlen, fun j hj => ?_, fun j h2 h3 => ?_⟩
    · simp only [laws_markAddressS.l0]
      rw [wrap_upA i (by omega), Int.toNat_natCast, wrap_id (x := a + 1) (by omega) (by omega), wrap_id (x := a + 1 + 1) (by omega) (by omega), wrap_id (x := a + 1 + 1 + 1) (by omega) (by omega)]
      refine ev_pos (by omega) (ev_bind (mkT_ev a (by omega)) (ev_pos (by omega) (ev_bind1 rfl (ev_bind (mkT_ev (a + 1) (by omega)) (ev_bind1 rfl (ev_bind (mkT_ev (a + 1 + 1) (by omega)) ?_))))))
      simp only [List.set_set, rdA_set l i (show i < l.length by omega)]
      refine ev_cast he ?_
      rw [show a + 3 * ((d + 1 : Nat) : Int) = a + 1 + 1 + 1 + 3 * (d : Int) by omega]
    · rw [hlo j (by omega), List.getElem?_set_ne (by omega)]
    · by_cases hji : j = i
      · subst hji
        rw [hlo j (by omega), List.getElem?_set_self (by omega), Nat.sub_self]
        simp
      · rw [hhi j (by omega) (by omega), show (a + 1 + 1 + 1 + 3 * ((j - (i + 1) : Nat) : Int)) = a + 3 * ((j - i : Nat) : Int) by omega]
theorem markA_some (l : List S31) (hl : l.length ≤ 10000000000) : ∃ l', Ev (fun k => laws_markAddressS.f k l 1) (1 + 3 * (l.length : Int), l') := by
  obtain ⟨l', h1, h2, _, h4⟩ := markA_l0 l.length 0 l 1 (by omega) hl (by omega) (by omega)
  exact ⟨l', h1⟩

end Go.Proofs.Ytogmkfenplihoaa.Q
