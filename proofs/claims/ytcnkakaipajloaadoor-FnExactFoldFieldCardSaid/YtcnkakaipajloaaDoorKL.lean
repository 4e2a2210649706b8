/- What the printed helpers of the laws on lists of strings come to; no condition. -/
import Derived.Test.YtcnkakaipajloaaDoorK0
import Derived.Test.YtcnkakaipajloaaDoorKM
import Derived.Test.YtcnkakaipajloaaDoorQ15
set_option linter.unusedVariables false
set_option linter.unusedSimpArgs false
namespace Go.Proofs.YtcnkakaipajloaaDoor.Q
open Go.RowKit Go.Proofs.YtcnkakaipajloaaDoorV.PrintWords Go.Proofs.YtcnkakaipajloaaDoorV.PrintLast Go.Proofs.YtcnkakaipajloaaDoorV.PrintMore
/-! ## The laws' own helpers on lists of strings -/
theorem rdOf_get (l : List ByteArray) (i : Nat) (h : i < l.length) : rdOf ByteArray.empty l (i : Int) = l[i] := by
  rw [rdOf, Int.toNat_natCast, List.getD_eq_getElem?_getD, List.getElem?_eq_getElem h]
  rfl
theorem mwTexts_l0 (a b : List ByteArray) (hl : a.length = b.length) (hz : a.length ≤ 1000000000000) : ∀ (d i : Nat), i + d = a.length → Ev (fun k => laws_mwTexts.l0 k a b (i : Int)) (decide (a.drop i = b.drop i)) := by
  intro d
  induction d with
  | zero =>
    intro i hi
    refine ev_succ ?_
    simp only [laws_mwTexts.l0]
    rw [List.drop_eq_nil_of_le (by omega), List.drop_eq_nil_of_le (by omega)]
    exact ev_neg (by omega) (Ev.now _)
  | succ d ih =>
    intro i hi
    have ha : i < a.length := by omega
    have hb : i < b.length := by omega
    refine ev_succ ?_
    simp only [laws_mwTexts.l0]
    rw [rdOf_get a i ha, rdOf_get b i hb, wrap_succ i (by omega), List.drop_eq_getElem_cons ha, List.drop_eq_getElem_cons hb]
    refine ev_pos (by omega) (ev_pos (by omega) (ev_pos (by omega) ?_))
    by_cases h : a[i] = b[i]
    · refine ev_pos (toList_iff.2 h) (ev_cast (ih (i + 1) (by omega)) ?_)
      exact decide_eq_decide.2 ⟨fun e => by rw [h, e], fun e => (List.cons.inj e).2⟩
    · refine ev_neg (fun e => h (toList_iff.1 e)) (ev_of ?_)
      exact congrArg some (decide_eq_false (fun e => h (List.cons.inj e).1)).symm
theorem mwTexts_ev (a b : List ByteArray) (hz : a.length ≤ 1000000000000) : Ev (fun k => laws_mwTexts.f k a b) (decide (a = b)) := by
  unfold laws_mwTexts.f
  by_cases hl : a.length = b.length
  · exact ev_pos (by omega) (mwTexts_l0 a b hl hz a.length 0 (by omega))
  · refine ev_neg (by omega) (ev_of ?_)
    exact congrArg some (decide_eq_false (fun e => hl (by rw [e]))).symm
theorem eqStringS_l0 (a b : List ByteArray) (hl : a.length = b.length) (hz : a.length ≤ 1000000000000) : ∀ (d i : Nat), i + d = a.length → Ev (fun k => laws_eqStringS.l0 k a b (i : Int)) (decide (a.drop i = b.drop i)) := by
  intro d
  induction d with
  | zero =>
    intro i hi
    refine ev_succ ?_
    simp only [laws_eqStringS.l0]
    rw [List.drop_eq_nil_of_le (by omega), List.drop_eq_nil_of_le (by omega)]
    exact ev_neg (by omega) (Ev.now _)
  | succ d ih =>
    intro i hi
    have ha : i < a.length := by omega
    have hb : i < b.length := by omega
    refine ev_succ ?_
    simp only [laws_eqStringS.l0]
    rw [rdOf_get a i ha, rdOf_get b i hb, wrap_succ i (by omega), List.drop_eq_getElem_cons ha, List.drop_eq_getElem_cons hb]
    refine ev_pos (by omega) (ev_pos (by omega) (ev_pos (by omega) ?_))
    by_cases h : a[i] = b[i]
    · refine ev_pos (toList_iff.2 h) (ev_cast (ih (i + 1) (by omega)) ?_)
      exact decide_eq_decide.2 ⟨fun e => by rw [h, e], fun e => (List.cons.inj e).2⟩
    · refine ev_neg (fun e => h (toList_iff.1 e)) (ev_of ?_)
      exact congrArg some (decide_eq_false (fun e => h (List.cons.inj e).1)).symm
theorem eqStringS_ev (a b : List ByteArray) (hz : a.length ≤ 1000000000000) : Ev (fun k => laws_eqStringS.f k a b) (decide (a = b)) := by
  unfold laws_eqStringS.f
  by_cases hl : a.length = b.length
  · exact ev_pos (by omega) (eqStringS_l0 a b hl hz a.length 0 (by omega))
  · refine ev_neg (by omega) (ev_of ?_)
    exact congrArg some (decide_eq_false (fun e => hl (by rw [e]))).symm
theorem markS_l0 : ∀ (d : Nat) (i : Nat) (l : List ByteArray) (a : Int), i + d = l.length → l.length ≤ 10000000000 → 0 ≤ a → a ≤ 10000000000 + i → ∃ l', Ev (fun k => laws_markStringS.l0 k l a (i : Int)) (a + d, l') ∧ l'.length = l.length ∧ (∀ j, j < i → l'[j]? = l[j]?) ∧ ∀ j, i ≤ j → j < l.length → l'[j]? = some (mkT (a + (j - i : Nat))) := by
  intro d
  induction d with
  | zero =>
    intro i l a hi hl h0 h1
    refine ⟨l, ev_succ ?_, rfl, fun _ _ => rfl, fun j h2 h3 => by omega⟩
    simp only [laws_markStringS.l0]
    rw [show a + ((0 : Nat) : Int) = a by omega]
    exact ev_neg (by omega) (Ev.now _)
  | succ d ih =>
    intro i l a hi hl h0 h1
    obtain ⟨l', he, hlen, hlo, hhi⟩ := ih (i + 1) (l.set i (mkT a)) (a + 1) (by rw [List.length_set]; omega) (by rw [List.length_set]; omega) (by omega) (by omega)
    rw [List.length_set] at hlen hhi
    refine ⟨l', ev_succ ?_, hlen, fun j hj => ?_, fun j h2 h3 => ?_⟩
    · simp only [laws_markStringS.l0]
      rw [wrap_succ i (by omega), Int.toNat_natCast, wrap_id (x := a + 1) (by omega) (by omega)]
      refine ev_pos (by omega) (ev_bind (mkT_ev a (by omega)) (ev_pos (by omega) (ev_cast he ?_)))
      rw [show a + ((d + 1 : Nat) : Int) = a + 1 + (d : Int) by omega]
    · rw [hlo j (by omega), List.getElem?_set_ne (by omega)]
    · by_cases hji : j = i
      · subst hji
        rw [hlo j (by omega), List.getElem?_set_self (by omega), Nat.sub_self]
        simp
      · rw [hhi j (by omega) (by omega), show (a + 1 + ((j - (i + 1) : Nat) : Int)) = a + ((j - i : Nat) : Int) by omega]
theorem heldS_l0 (l' : List ByteArray) (hl : l'.length ≤ 10000000000) : ∀ (d : Nat) (i : Nat) (a : Int), i + d = l'.length → 0 ≤ a → a ≤ 10000000000 + i → (∀ j, i ≤ j → j < l'.length → l'[j]? = some (mkT (a + (j - i : Nat)))) → Ev (fun k => laws_heldStringS.l0 k l' a (i : Int)) (a + d) := by
  intro d
  induction d with
  | zero =>
    intro i a hi h0 h1 h2
    refine ev_succ ?_
    simp only [laws_heldStringS.l0]
    rw [show a + ((0 : Nat) : Int) = a by omega]
    exact ev_neg (by omega) (Ev.now _)
  | succ d ih =>
    intro i a hi h0 h1 h2
    have hlt : i < l'.length := by omega
    have hg := h2 i (Nat.le_refl _) hlt
    rw [List.getElem?_eq_getElem hlt, Nat.sub_self, show a + ((0 : Nat) : Int) = a by omega] at hg
    have hg := Option.some.inj hg
    refine ev_succ ?_
    simp only [laws_heldStringS.l0]
    rw [rdOf_get l' i hlt, wrap_succ i (by omega), wrap_id (x := a + 1) (by omega) (by omega)]
    refine ev_pos (by omega) (ev_pos (by omega) (ev_bind (mkT_ev a (by omega)) (ev_pos (by rw [hg]) ?_)))
    refine ev_cast (ih (i + 1) (a + 1) (by omega) (by omega) (by omega) fun j h3 h4 => ?_) (by omega)
    rw [h2 j (by omega) h4, show (a + ((j - i : Nat) : Int)) = a + 1 + ((j - (i + 1) : Nat) : Int) by omega]
/-- What is marked is held. -/
theorem markS_held (l : List ByteArray) (hl : l.length ≤ 10000000000) : ∃ l', Ev (fun k => laws_markStringS.f k l 1) (1 + (l.length : Int), l') ∧ Ev (fun k => laws_heldStringS.f k l' 1) (1 + (l.length : Int)) := by
  obtain ⟨l', h1, h2, _, h4⟩ := markS_l0 l.length 0 l 1 (by omega) hl (by omega) (by omega)
  refine ⟨l', h1, ?_⟩
  have := heldS_l0 l' (by omega) l.length 0 1 (by omega) (by omega) (by omega) (fun j h5 h6 => h4 j h5 (by omega))
  exact this

end Go.Proofs.YtcnkakaipajloaaDoor.Q
