/- What the printed marks on fields come to; no condition. -/
import Derived.Test.YtiobaiakbbboaaaK3
import Derived.Test.YtiobaiakbbboaaaKM
import Derived.Test.YtiobaiakbbboaaaQ0
import Derived.Test.YtiobaiakbbboaaaQ15
set_option linter.unusedVariables false
set_option linter.unusedSimpArgs false
namespace Go.Proofs.Ytiobaiakbbboaaa.Q
open Go.RowKit Go.Proofs.YtiobaiakbbboaaaV.PrintWords Go.Proofs.YtiobaiakbbboaaaV.PrintLast Go.Proofs.YtiobaiakbbboaaaV.PrintMore
theorem markF_l0 : ∀ (d : Nat) (i : Nat) (l : List S39) (a : Int), i + d = l.length → l.length ≤ 10000000000 → 0 ≤ a → a ≤ 10000000000 + 2 * i → ∃ l', Ev (fun k => laws_markFieldS.l0 k l a (i : Int)) (a + 2 * d, l') ∧ l'.length = l.length ∧ (∀ j, j < i → l'[j]? = l[j]?) ∧ ∀ j, i ≤ j → j < l.length → l'[j]? = some ⟨mkT (a + 2 * (j - i : Nat)), mkT (a + 2 * (j - i : Nat) + 1)⟩ := by
  intro d
  induction d with
  | zero =>
    intro i l a hi hl h0 h1
    refine ⟨l, ev_succ ?_, rfl, fun _ _ => rfl, fun j h2 h3 => by omega⟩
    simp only [laws_markFieldS.l0]
    rw [show a + 2 * ((0 : Nat) : Int) = a by omega]
    exact ev_neg (by omega) (Ev.now _)
  | succ d ih =>
    intro i l a hi hl h0 h1
    obtain ⟨l', he, hlen, hlo, hhi⟩ := ih (i + 1) (l.set i ⟨mkT a, mkT (a + 1)⟩) (a + 1 + 1) (by rw [List.length_set]; omega) (by rw [List.length_set]; omega) (by omega) (by omega)
    rw [List.length_set] at hlen hhi
    refine ⟨l', ev_succ ?_, hlen, fun j hj => ?_, fun j h2 h3 => ?_⟩
    · simp only [laws_markFieldS.l0]
      rw [wrap_up i (by omega), Int.toNat_natCast, wrap_id (x := a + 1) (by omega) (by omega), wrap_id (x := a + 1 + 1) (by omega) (by omega)]
      refine ev_pos (by omega) (ev_bind (mkT_ev a (by omega)) (ev_pos (by omega) (ev_bind1 rfl (ev_bind (mkT_ev (a + 1) (by omega)) ?_))))
      rw [rdF (l.set i (⟨mkT a, (rd_T39 l (i : Int)).f1⟩ : S39)) i (by rw [List.length_set]; omega), List.getElem_set_self, List.set_set]
      refine ev_cast he ?_
      rw [show a + 2 * ((d + 1 : Nat) : Int) = a + 1 + 1 + 2 * (d : Int) by omega]
    · rw [hlo j (by omega), List.getElem?_set_ne (by omega)]
    · by_cases hji : j = i
      · subst hji
        rw [hlo j (by omega), List.getElem?_set_self (by omega), Nat.sub_self]
        simp
      · rw [hhi j (by omega) (by omega), show (a + 1 + 1 + 2 * ((j - (i + 1) : Nat) : Int)) = a + 2 * ((j - i : Nat) : Int) by omega]
theorem heldF_l0 (l' : List S39) (hl : l'.length ≤ 10000000000) : ∀ (d : Nat) (i : Nat) (a : Int), i + d = l'.length → 0 ≤ a → a ≤ 10000000000 + 2 * i → (∀ j, i ≤ j → j < l'.length → l'[j]? = some ⟨mkT (a + 2 * (j - i : Nat)), mkT (a + 2 * (j - i : Nat) + 1)⟩) → Ev (fun k => laws_heldFieldS.l0 k l' a (i : Int)) (a + 2 * d) := by
  intro d
  induction d with
  | zero =>
    intro i a hi h0 h1 h2
    refine ev_succ ?_
    simp only [laws_heldFieldS.l0]
    rw [show a + 2 * ((0 : Nat) : Int) = a by omega]
    exact ev_neg (by omega) (Ev.now _)
  | succ d ih =>
    intro i a hi h0 h1 h2
    have hlt : i < l'.length := by omega
    have hg := h2 i (Nat.le_refl _) hlt
    rw [List.getElem?_eq_getElem hlt, Nat.sub_self, show a + 2 * ((0 : Nat) : Int) = a by omega] at hg
    have hg := Option.some.inj hg
    refine ev_succ ?_
    simp only [laws_heldFieldS.l0]
    rw [rdF l' i hlt, wrap_up i (by omega), wrap_id (x := a + 1) (by omega) (by omega), wrap_id (x := a + 1 + 1) (by omega) (by omega)]
    refine ev_pos (by omega) (ev_pos (by omega) (ev_bind (mkT_ev a (by omega)) (ev_pos (by rw [hg]) (ev_bind (mkT_ev (a + 1) (by omega)) (ev_pos (by rw [hg]) ?_)))))
    refine ev_cast (ih (i + 1) (a + 1 + 1) (by omega) (by omega) (by omega) fun j h3 h4 => ?_) (by omega)
    rw [h2 j (by omega) h4, show (a + 2 * ((j - i : Nat) : Int)) = a + 1 + 1 + 2 * ((j - (i + 1) : Nat) : Int) by omega]
/-- What is marked is held. -/
theorem markF_held (l : List S39) (hl : l.length ≤ 10000000000) : ∃ l', Ev (fun k => laws_markFieldS.f k l 1) (1 + 2 * (l.length : Int), l') ∧ Ev (fun k => laws_heldFieldS.f k l' 1) (1 + 2 * (l.length : Int)) := by
  obtain ⟨l', h1, h2, _, h4⟩ := markF_l0 l.length 0 l 1 (by omega) hl (by omega) (by omega)
  refine ⟨l', h1, ?_⟩
  have := heldF_l0 l' (by omega) l.length 0 1 (by omega) (by omega) (by omega) (fun j h5 h6 => h4 j h5 (by omega))
  exact this

end Go.Proofs.Ytiobaiakbbboaaa.Q
