/- What the printed helpers of the laws on lists of strings come to; no condition. -/
import Derived.Test.YteibhbhlmnnfjaaK1
import Derived.Test.YteibhbhlmnnfjaaQ8
set_option linter.unusedVariables false
set_option linter.unusedSimpArgs false
namespace Go.Proofs.Yteibhbhlmnnfjaa.Q
open Go.RowKit Go.Proofs.YteibhbhlmnnfjaaW.PrintWords Go.Proofs.YteibhbhlmnnfjaaW.PrintLast Go.Proofs.YteibhbhlmnnfjaaW.PrintMore
/-! ## The laws' own helpers on lists of strings -/
theorem rdOf_get (l : List ByteArray) (i : Nat) (h : i < l.length) : rdOf ByteArray.empty l (i : Int) = l[i] := by
  rw [rdOf, Int.toNat_natCast, List.getD_eq_getElem?_getD, List.getElem?_eq_getElem h]
  rfl
theorem mwTexts_l0 (a b : List ByteArray) (hl : a.length = b.length) (hz : a.length ≤ 1000000000000) : ∀ (d i : Nat), i + d = a.length → Ev (fun k => laws_mwTexts.l0 k a b (i : Int)) (decide (a.drop i = b.drop i)) := by
  intro d
  induction d with
  | zero =>
    intro i hi
    refine ev_succ ?_
    simp only [laws_mwTexts.l0]
    rw [List.drop_eq_nil_of_le (by omega), List.drop_eq_nil_of_le (by omega)]
    exact ev_neg (by omega) (Ev.now _)
  | succ d ih =>
    intro i hi
    have ha : i < a.length := by omega
    have hb : i < b.length := by omega
    refine ev_succ ?_
    simp only [laws_mwTexts.l0]
    rw [rdOf_get a i ha, rdOf_get b i hb, wrap_succ i (by omega), List.drop_eq_getElem_cons ha, List.drop_eq_getElem_cons hb]
    refine ev_pos (by omega) (ev_pos (by omega) (ev_pos (by omega) ?_))
    by_cases h : a[i] = b[i]
    · refine ev_pos (toList_iff.2 h) (ev_cast (ih (i + 1) (by omega)) ?_)
      exact decide_eq_decide.2 ⟨fun e => by rw [h, e], fun e => (List.cons.inj e).2⟩
    · refine ev_neg (fun e => h (toList_iff.1 e)) (ev_of ?_)
      exact congrArg some (decide_eq_false (fun e => h (List.cons.inj e).1)).symm
theorem mwTexts_ev (a b : List ByteArray) (hz : a.length ≤ 1000000000000) : Ev (fun k => laws_mwTexts.f k a b) (decide (a = b)) := by
  unfold laws_mwTexts.f
  by_cases hl : a.length = b.length
  · exact ev_pos (by omega) (mwTexts_l0 a b hl hz a.length 0 (by omega))
  · refine ev_neg (by omega) (ev_of ?_)
    exact congrArg some (decide_eq_false (fun e => hl (by rw [e]))).symm
theorem eqStringS_l0 (a b : List ByteArray) (hl : a.length = b.length) (hz : a.length ≤ 1000000000000) : ∀ (d i : Nat), i + d = a.length → Ev (fun k => laws_eqStringS.l0 k a b (i : Int)) (decide (a.drop i = b.drop i)) := by
  intro d
  induction d with
  | zero =>
    intro i hi
    refine ev_succ ?_
    simp only [laws_eqStringS.l0]
    rw [List.drop_eq_nil_of_le (by omega), List.drop_eq_nil_of_le (by omega)]
    exact ev_neg (by omega) (Ev.now _)
  | succ d ih =>
    intro i hi
    have ha : i < a.length := by omega
    have hb : i < b.length := by omega
    refine ev_succ ?_
    simp only [laws_eqStringS.l0]
    rw [rdOf_get a i ha, rdOf_get b i hb, wrap_succ i (by omega), List.drop_eq_getElem_cons ha, List.drop_eq_getElem_cons hb]
    refine ev_pos (by omega) (ev_pos (by omega) (ev_pos (by omega) ?_))
    by_cases h : a[i] = b[i]
    · refine ev_pos (toList_iff.2 h) (ev_cast (ih (i + 1) (by omega)) ?_)
      exact decide_eq_decide.2 ⟨fun e => by rw [h, e], fun e => (List.cons.inj e).2⟩
    · refine ev_neg (fun e => h (toList_iff.1 e)) (ev_of ?_)
      exact congrArg some (decide_eq_false (fun e => h (List.cons.inj e).1)).symm
theorem eqStringS_ev (a b : List ByteArray) (hz : a.length ≤ 1000000000000) : Ev (fun k => laws_eqStringS.f k a b) (decide (a = b)) := by
  unfold laws_eqStringS.f
  by_cases hl : a.length = b.length
  · exact ev_pos (by omega) (eqStringS_l0 a b hl hz a.length 0 (by omega))
  · refine ev_neg (by omega) (ev_of ?_)
    exact congrArg some (decide_eq_false (fun e => hl (by rw [e]))).symm
theorem toStringS_l0 (a : List ByteArray) (hz : a.length ≤ 1000000000000) : ∀ (d i : Nat) (b : List ByteArray), i + d = a.length → b.length = a.length → b.take i = a.take i → Ev (fun k => laws_toStringS.l0 k a b (i : Int)) a := by
  intro d
  induction d with
  | zero =>
    intro i b hi hl ht
    refine ev_succ ?_
    simp only [laws_toStringS.l0]
    rw [List.take_of_length_le (by omega), List.take_of_length_le (by omega)] at ht
    rw [ht]
    exact ev_neg (by omega) (Ev.now _)
  | succ d ih =>
    intro i b hi hl ht
    have ha : i < a.length := by omega
    refine ev_succ ?_
    simp only [laws_toStringS.l0]
    rw [rdOf_get a i ha, wrap_succ i (by omega), Int.toNat_natCast]
    refine ev_pos (by omega) (ev_pos (by omega) (ev_pos (by omega) (ih (i + 1) _ (by omega) (by rw [List.length_set]; exact hl) ?_)))
    rw [List.take_succ_eq_append_getElem ha, List.take_succ_eq_append_getElem (by rw [List.length_set]; omega), List.getElem_set_self, List.take_set_of_le (by omega), ht]
theorem toStringS_ev (a : List ByteArray) (hz : a.length ≤ 1000000000000) : Ev (fun k => laws_toStringS.f k a) a := by
  unfold laws_toStringS.f
  rw [Int.toNat_natCast]
  exact ev_pos (by omega) (ev_pos (by omega) (toStringS_l0 a hz a.length 0 _ (by omega) (by simp) (by simp)))
theorem szStringS_l0 (a : List ByteArray) (hz : a.length ≤ 1000000000000) (hs : ∀ x ∈ a, x.size ≤ 9223372036854775807) : ∀ (d i : Nat) (n : Int), i + d = a.length → 0 ≤ n → n ≤ 1048576 → ∃ r, Ev (fun k => laws_szStringS.l0 k a n (i : Int)) r ∧ r ≤ n ∧ (0 ≤ r → ∀ x ∈ a.drop i, (x.size : Int) ≤ n) := by
  intro d
  induction d with
  | zero =>
    intro i n hi h0 h1
    refine ⟨n, ev_succ ?_, by omega, fun _ x hx => ?_⟩
    · simp only [laws_szStringS.l0]
      exact ev_neg (by omega) (Ev.now _)
    · rw [List.drop_eq_nil_of_le (by omega)] at hx; cases hx
  | succ d ih =>
    intro i n hi h0 h1
    have ha : i < a.length := by omega
    have hx := hs a[i] (List.getElem_mem ha)
    have ew : wrap64 (n - (a[i].size : Int)) = n - a[i].size := wrap_id (by omega) (by omega)
    by_cases hneg : n - (a[i].size : Int) < 0
    · refine ⟨-1, ev_succ ?_, by omega, fun h => by omega⟩
      simp only [laws_szStringS.l0]
      rw [rdOf_get a i ha, ew]
      exact ev_pos (by omega) (ev_pos (by omega) (ev_pos hneg (Ev.now _)))
    · obtain ⟨r, hr, hle, hp⟩ := ih (i + 1) (n - a[i].size) (by omega) (by omega) (by omega)
      refine ⟨r, ev_succ ?_, by omega, fun h x hxm => ?_⟩
      · simp only [laws_szStringS.l0]
        rw [rdOf_get a i ha, ew, wrap_succ i (by omega)]
        exact ev_pos (by omega) (ev_pos (by omega) (ev_neg hneg hr))
      · rw [List.drop_eq_getElem_cons ha] at hxm
        rcases List.mem_cons.1 hxm with rfl | hxm
        · omega
        · have := hp h x hxm
          omega
theorem szStringS_ev (a : List ByteArray) (n : Int) (hn : n ≤ 1048576) (h0 : 0 ≤ n) (hz : a.length ≤ 1000000000000) (hs : ∀ x ∈ a, x.size ≤ 9223372036854775807) : ∃ r, Ev (fun k => laws_szStringS.f k a n) r ∧ r ≤ n ∧ (0 ≤ r → (a.length : Int) ≤ n ∧ ∀ x ∈ a, (x.size : Int) ≤ n) := by
  have ew : wrap64 (n - (a.length : Int)) = n - a.length := wrap_id (by omega) (by omega)
  unfold laws_szStringS.f
  rw [ew]
  by_cases hneg : n - (a.length : Int) < 0
  · exact ⟨-1, ev_pos hneg (Ev.now _), by omega, fun h => by omega⟩
  · obtain ⟨r, hr, hle, hp⟩ := szStringS_l0 a hz hs a.length 0 (n - a.length) (by omega) (by omega) (by omega)
    refine ⟨r, ev_neg hneg hr, by omega, fun h => ⟨by omega, fun x hx => ?_⟩⟩
    have := hp h x hx
    omega
theorem markText_l0 : ∀ (n : Nat) (x : Int) (t : ByteArray), x < n → 0 ≤ x → x ≤ 1000000000000 → t.size + x ≤ 1000000000000000 → ∃ r, Ev (fun k => laws_markText.l0 k x t) r := by
  intro n
  induction n with
  | zero => intro x t h1 h2; omega
  | succ n ih =>
    intro x t h1 h2 h3 h4
    by_cases h0 : x > 0
    · have e : wrap64 (Int.tdiv x 10) = x / 10 := by rw [Int.tdiv_eq_ediv_of_nonneg h2]; exact wrap_id (by omega) (by omega)
      have hsz : (strOfNums [(wrap64 (48 + (Int.tmod x 10))) % 256] ++ t).size = 1 + t.size := by rw [size_append, S_size]; rfl
      obtain ⟨r, hr⟩ := ih (x / 10) (strOfNums [(wrap64 (48 + (Int.tmod x 10))) % 256] ++ t) (by omega) (by omega) (by omega) (by rw [hsz]; omega)
      refine ⟨r, ev_succ ?_⟩
      simp only [laws_markText.l0]
      refine ev_pos h0 (ev_bind1 rfl (ev_pos (by rw [S_size]; simp; omega) ?_))
      rw [e]
      exact hr
    · refine ⟨(⟨#[109]⟩ : ByteArray) ++ t, ev_succ ?_⟩
      simp only [laws_markText.l0]
      exact ev_neg h0 (ev_pos (by omega) (Ev.now _))
theorem markText_some (x : Int) (h : x ≤ 1000000000000) : ∃ r, Ev (fun k => laws_markText.f k x) r := by
  unfold laws_markText.f
  by_cases h0 : x ≤ 0
  · exact ⟨(⟨#[109, 48]⟩ : ByteArray), ev_pos h0 (Ev.now _)⟩
  · obtain ⟨r, hr⟩ := markText_l0 (x + 1).toNat x (⟨#[]⟩ : ByteArray) (by omega) (by omega) h (by show ((0 : Nat) : Int) + x ≤ _; omega)
    exact ⟨r, ev_neg h0 hr⟩
noncomputable def mkT (x : Int) : ByteArray := by
  classical
  exact if h : ∃ r, Ev (fun k => laws_markText.f k x) r then h.choose else ByteArray.empty
theorem mkT_ev (x : Int) (h : x ≤ 1000000000000) : Ev (fun k => laws_markText.f k x) (mkT x) := by
  have h' := markText_some x h
  unfold mkT
  rw [dif_pos h']
  exact h'.choose_spec
theorem markS_l0 : ∀ (d : Nat) (i : Nat) (l : List ByteArray) (a : Int), i + d = l.length → l.length ≤ 10000000000 → 0 ≤ a → a ≤ 10000000000 + i → ∃ l', Ev (fun k => laws_markStringS.l0 k l a (i : Int)) (a + d, l') ∧ l'.length = l.length ∧ (∀ j, j < i → l'[j]? = l[j]?) ∧ ∀ j, i ≤ j → j < l.length → l'[j]? = some (mkT (a + (j - i : Nat))) := by
  intro d
  induction d with
  | zero =>
    intro i l a hi hl h0 h1
    refine ⟨l, ev_succ ?_, rfl, fun _ _ => rfl, fun j h2 h3 => by omega⟩
    simp only [laws_markStringS.l0]
    rw [show a + ((0 : Nat) : Int) = a by omega]
    exact ev_neg (by omega) (Ev.now _)
  | succ d ih =>
    intro i l a hi hl h0 h1
    obtain ⟨l', he, hlen, hlo, hhi⟩ := ih (i + 1) (l.set i (mkT a)) (a + 1) (by rw [List.length_set]; omega) (by rw [List.length_set]; omega) (by omega) (by omega)
    rw [List.length_set] at hlen hhi
    refine ⟨l', ev_succ ?_, hlen, fun j hj => ?_, fun j h2 h3 => ?_⟩
    · simp only [laws_markStringS.l0]
      rw [wrap_succ i (by omega), Int.toNat_natCast, wrap_id (x := a + 1) (by omega) (by omega)]
      refine ev_pos (by omega) (ev_bind (mkT_ev a (by omega)) (ev_pos (by omega) (ev_cast he ?_)))
      rw [show a + ((d + 1 : Nat) : Int) = a + 1 + (d : Int) by omega]
    · rw [hlo j (by omega), List.getElem?_set_ne (by omega)]
    · by_cases hji : j = i
      · subst hji
        rw [hlo j (by omega), List.getElem?_set_self (by omega), Nat.sub_self]
        simp
      · rw [hhi j (by omega) (by omega), show (a + 1 + ((j - (i + 1) : Nat) : Int)) = a + ((j - i : Nat) : Int) by omega]
theorem heldS_l0 (l' : List ByteArray) (hl : l'.length ≤ 10000000000) : ∀ (d : Nat) (i : Nat) (a : Int), i + d = l'.length → 0 ≤ a → a ≤ 10000000000 + i → (∀ j, i ≤ j → j < l'.length → l'[j]? = some (mkT (a + (j - i : Nat)))) → Ev (fun k => laws_heldStringS.l0 k l' a (i : Int)) (a + d) := by
  intro d
  induction d with
  | zero =>
    intro i a hi h0 h1 h2
    refine ev_succ ?_
    simp only [laws_heldStringS.l0]
    rw [show a + ((0 : Nat) : Int) = a by omega]
    exact ev_neg (by omega) (Ev.now _)
  | succ d ih =>
    intro i a hi h0 h1 h2
    have hlt : i < l'.length := by omega
    have hg := h2 i (Nat.le_refl _) hlt
    rw [List.getElem?_eq_getElem hlt, Nat.sub_self, show a + ((0 : Nat) : Int) = a by omega] at hg
    have hg := Option.some.inj hg
    refine ev_succ ?_
    simp only [laws_heldStringS.l0]
    rw [rdOf_get l' i hlt, wrap_succ i (by omega), wrap_id (x := a + 1) (by omega) (by omega)]
    refine ev_pos (by omega) (ev_pos (by omega) (ev_bind (mkT_ev a (by omega)) (ev_pos (by rw [hg]) ?_)))
    refine ev_cast (ih (i + 1) (a + 1) (by omega) (by omega) (by omega) fun j h3 h4 => ?_) (by omega)
    rw [h2 j (by omega) h4, show (a + ((j - i : Nat) : Int)) = a + 1 + ((j - (i + 1) : Nat) : Int) by omega]
/-- What is marked is held. -/
theorem markS_held (l : List ByteArray) (hl : l.length ≤ 10000000000) : ∃ l', Ev (fun k => laws_markStringS.f k l 1) (1 + (l.length : Int), l') ∧ Ev (fun k => laws_heldStringS.f k l' 1) (1 + (l.length : Int)) := by
  obtain ⟨l', h1, h2, _, h4⟩ := markS_l0 l.length 0 l 1 (by omega) hl (by omega) (by omega)
  refine ⟨l', h1, ?_⟩
  have := heldS_l0 l' (by omega) l.length 0 1 (by omega) (by omega) (by omega) (fun j h5 h6 => h4 j h5 (by omega))
  exact this

end Go.Proofs.Yteibhbhlmnnfjaa.Q
