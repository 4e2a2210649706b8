/- The domains of a part of a list are domains of the list; no condition. -/
import Derived.Test.YtogmkfenplihoaaK2p
import Derived.Test.YtogmkfenplihoaaKL
import Derived.Test.YtogmkfenplihoaaD2d
import Derived.Test.YtogmkfenplihoaaQ10
set_option linter.unusedVariables false
set_option linter.unusedSimpArgs false
namespace Go.Proofs.Ytogmkfenplihoaa.Pure
open Go.RowKit Go.Proofs.Ytogmkfenplihoaa.Q Go.Proofs.YtogmkfenplihoaaV.PrintWords Go.Proofs.YtogmkfenplihoaaV.PrintLast Go.Proofs.YtogmkfenplihoaaV.PrintMore
theorem Parts_l1 (a p : List ByteArray) (ha : a.length ≤ 1000) (hp : p.length ≤ 1000) (i : Nat) (hi : i < p.length) (R : Bool) :
    ∀ (n j : Nat) (s : Bool), j + n = a.length → (s = true ∨ p[i] ∈ a.drop j) → Ev (fun k => laws_FnDomainsParts.l0 k a p ((i + 1 : Nat) : Int)) R → Ev (fun k => laws_FnDomainsParts.l1 k a p (i : Int) s (j : Int)) R := by
  intro n
  induction n with
  | zero =>
    intro j s hj h hR
    rw [List.drop_eq_nil_of_le (by omega)] at h
    have hs : s = true := by simpa using h
    refine ev_succ ?_
    simp only [laws_FnDomainsParts.l1]
    rw [wrap_succ i (by omega)]
    exact ev_neg (by omega) (ev_pos hs hR)
  | succ n ih =>
    intro j s hj h hR
    have hlt : j < a.length := by omega
    refine ev_succ ?_
    simp only [laws_FnDomainsParts.l1]
    rw [rdOf_get a j hlt, rdOf_get p i hi, wrap_succ j (by omega)]
    refine ev_pos (by omega) ?_
    cases s with
    | true => exact ev_pos rfl (ih (j + 1) true (by omega) (.inl rfl) hR)
    | false =>
      refine ev_neg (by simp) (ev_pos (by omega) (ev_pos (by omega) (ev_pos (by omega) (ih (j + 1) _ (by omega) ?_ hR))))
      rw [toList_beq]
      have h' : p[i] ∈ a.drop j := h.resolve_left (by simp)
      rw [List.drop_eq_getElem_cons hlt] at h'
      rcases List.mem_cons.1 h' with e | e
      · exact .inl (decide_eq_true e.symm)
      · exact .inr e
theorem Parts_l0 (a p : List ByteArray) (ha : a.length ≤ 1000) (hp : p.length ≤ 1000) (hs : ∀ x ∈ p, x ∈ a) (hl : p.length ≤ a.length) : ∀ (n i : Nat), i + n = p.length → Ev (fun k => laws_FnDomainsParts.l0 k a p (i : Int)) true := by
  intro n
  induction n with
  | zero =>
    intro i hi
    refine ev_succ ?_
    simp only [laws_FnDomainsParts.l0]
    exact ev_neg (by omega) (ev_of (congrArg some (decide_eq_true (by omega))))
  | succ n ih =>
    intro i hi
    have hlt : i < p.length := by omega
    refine ev_succ ?_
    simp only [laws_FnDomainsParts.l0]
    exact ev_pos (by omega) (Parts_l1 a p ha hp i hlt true a.length 0 false (by omega) (.inr (by rw [List.drop_zero]; exact hs _ (List.getElem_mem hlt))) (ih (i + 1) (by omega)))
theorem FnDomainsParts : laws_FnDomainsParts.Pure := by
  intro l _ _ hw
  refine Ev.rounds (g := fun k => laws_FnDomainsParts.f k l) ?_
  obtain ⟨r, hs, h1, h2⟩ := DrawDomainsOf_some l hw
  have hsm : smA r := fun x hx => by have := (h2 x hx).2.2; omega
  have hd := domS_len r
  unfold laws_FnDomainsParts.f
  by_cases h : (l.length : Int) > 1048576
  · exact ev_pos h (Ev.now _)
  have e2 : wrap64 ((r.length : Int) / 2) = ((r.length / 2 : Nat) : Int) := by rw [wrap_id (by omega) (by omega)]; omega
  refine ev_neg h (ev_bind hs (ev_bind1 (impl_DomainsOf_eq r (by omega) hsm) (ev_bind (spec_DomainsOf_ev r (by omega) hsm) (ev_bind (mwTexts_ev _ _ (by omega)) (ev_pos (by simp) ?_)))))
  rw [e2, Int.toNat_natCast]
  have hst : smA (r.take (r.length / 2)) := fun x hx => hsm x (List.mem_of_mem_take hx)
  have hsub : ∀ x ∈ domS (r.take (r.length / 2)), x ∈ domS r := by
    intro x hx
    rw [(domS_asc _).2] at hx ⊢
    obtain ⟨y, hy, rfl⟩ := List.mem_map.1 hx
    exact List.mem_map_of_mem (List.mem_of_mem_take hy)
  have hle := asc_sub _ _ (domS_asc (r.take (r.length / 2))).1 (domS_asc r).1 hsub
  exact ev_pos (by omega) (ev_pos (by omega) (ev_bind1 (impl_DomainsOf_eq _ (by rw [List.length_take]; omega) hst) (Parts_l0 _ _ (by omega) (by omega) hsub hle _ 0 (Nat.zero_add _))))
end Go.Proofs.Ytogmkfenplihoaa.Pure
