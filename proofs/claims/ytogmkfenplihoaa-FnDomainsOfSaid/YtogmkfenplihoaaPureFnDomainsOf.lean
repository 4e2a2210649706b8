/- Domains are in order, each once, and each address has one; no condition. -/
import Derived.Test.YtogmkfenplihoaaXFnDomainsOf
import Derived.Test.YtogmkfenplihoaaQ0
import Derived.Test.YtogmkfenplihoaaQ9
set_option linter.unusedVariables false
set_option linter.unusedSimpArgs false
namespace Go.Proofs.Ytogmkfenplihoaa.Pure
open Go.RowKit Go.Proofs.Ytogmkfenplihoaa.Q Go.Proofs.YtogmkfenplihoaaV.PrintWords Go.Proofs.YtogmkfenplihoaaV.PrintLast Go.Proofs.YtogmkfenplihoaaV.PrintMore
theorem Dom_l2 (r : List S31) (d : List ByteArray) (hr : r.length ≤ 1000) (hd : d.length ≤ 1000) (hs : smA r) (hz : ∀ x ∈ d, x.size ≤ 100) (i : Nat) (hi : i < r.length) (R : Bool) :
    ∀ (n j : Nat) (s : Bool), j + n = d.length → (s = true ∨ lowT r[i].f2 ∈ d.drop j) → (∀ x ∈ d, lowT x = x) → Ev (fun k => laws_FnDomainsOf.l1 k r d ((i + 1 : Nat) : Int)) R → Ev (fun k => laws_FnDomainsOf.l2 k r d (i : Int) s (j : Int)) R := by
  intro n
  induction n with
  | zero =>
    intro j s hj h _ hR
    rw [List.drop_eq_nil_of_le (by omega)] at h
    have hs : s = true := by simpa using h
    refine ev_succ ?_
    simp only [laws_FnDomainsOf.l2]
    rw [wrap_succ i (by omega)]
    exact ev_neg (by omega) (ev_pos hs hR)
  | succ n ih =>
    intro j s hj h hlow hR
    have hlt : j < d.length := by omega
    refine ev_succ ?_
    simp only [laws_FnDomainsOf.l2]
    rw [rdOf_get d j hlt, rdA r i hi, wrap_succ j (by omega)]
    refine ev_pos (by omega) ?_
    cases s with
    | true => exact ev_pos rfl (ih (j + 1) true (by omega) (.inl rfl) hlow hR)
    | false =>
      have hsz := hz _ (List.getElem_mem hlt)
      refine ev_neg (by simp) (ev_pos (by omega) (ev_pos (by omega) (ev_pos (by omega) (ev_bind1 (impl_SameText_eq _ _ (by omega) (hs _ (List.getElem_mem hi))) (ih (j + 1) _ (by omega) ?_ hlow hR)))))
      rw [hlow _ (List.getElem_mem hlt)]
      have h' : lowT r[i].f2 ∈ d.drop j := h.resolve_left (by simp)
      rw [List.drop_eq_getElem_cons hlt] at h'
      rcases List.mem_cons.1 h' with e | e
      · exact .inl (decide_eq_true e.symm)
      · exact .inr e
theorem Dom_l1 (r : List S31) (d : List ByteArray) (hr : r.length ≤ 1000) (hd : d.length ≤ r.length) (hs : smA r) (hz : ∀ x ∈ d, x.size ≤ 100) (hm : ∀ x ∈ r, lowT x.f2 ∈ d) (hlow : ∀ x ∈ d, lowT x = x) : ∀ (n i : Nat), i + n = r.length → Ev (fun k => laws_FnDomainsOf.l1 k r d (i : Int)) true := by
  intro n
  induction n with
  | zero =>
    intro i hi
    refine ev_succ ?_
    simp only [laws_FnDomainsOf.l1]
    exact ev_neg (by omega) (ev_of (congrArg some (decide_eq_true (by omega))))
  | succ n ih =>
    intro i hi
    have hlt : i < r.length := by omega
    refine ev_succ ?_
    simp only [laws_FnDomainsOf.l1]
    exact ev_pos (by omega) (Dom_l2 r d hr (by omega) hs hz i hlt true d.length 0 false (by omega) (.inr (by rw [List.drop_zero]; exact hm _ (List.getElem_mem hlt))) hlow (ih (i + 1) (by omega)))
theorem Dom_l0 (r : List S31) (d : List ByteArray) (hd : d.length ≤ 1000) (ha : Asc d) (R : Bool) (hR : Ev (fun k => laws_FnDomainsOf.l1 k r d 0) R) : ∀ (n i : Nat), i + n = d.length ∨ (n = 0 ∧ d.length ≤ i) → 1 ≤ i → i ≤ 1001 → Ev (fun k => laws_FnDomainsOf.l0 k r d (i : Int)) R := by
  intro n
  induction n with
  | zero =>
    intro i hi h1 h2
    refine ev_succ ?_
    simp only [laws_FnDomainsOf.l0]
    exact ev_neg (by omega) hR
  | succ n ih =>
    intro i hi h1 h2
    have hlt : i < d.length := by omega
    have e1 : wrap64 ((i : Int) - 1) = ((i - 1 : Nat) : Int) := by rw [wrap_id (by omega) (by omega)]; omega
    refine ev_succ ?_
    simp only [laws_FnDomainsOf.l0]
    rw [e1, rdOf_get d i hlt, rdOf_get d (i - 1) (by omega), wrap_succ i (by omega)]
    exact ev_pos (by omega) (ev_pos (by omega) (ev_pos (by omega) (ev_pos (by omega) (ev_pos ((less_ltB _ _).2 (List.pairwise_iff_getElem.1 ha (i - 1) i (by omega) hlt (by omega))) (ih (i + 1) (by omega) (by omega) (by omega))))))
theorem FnDomainsOf : laws_FnDomainsOf.Pure := by
  intro l _ _ hw
  refine Ev.rounds (g := fun k => laws_FnDomainsOf.f k l) ?_
  obtain ⟨r, hs, h1, h2⟩ := DrawDomainsOf_some l hw
  have hsm : smA r := fun x hx => by have := (h2 x hx).2.2; omega
  have hd := domS_len r
  obtain ⟨ha, hm⟩ := domS_asc r
  have hz := dom_size (l := r) (fun x hx => (h2 x hx).2.2)
  unfold laws_FnDomainsOf.f
  by_cases h : (l.length : Int) > 1048576
  · exact ev_pos h (Ev.now _)
  refine ev_neg h (ev_bind hs (ev_bind1 (impl_DomainsOf_eq r (by omega) hsm) (ev_bind (spec_DomainsOf_ev r (by omega) hsm) (ev_bind (mwTexts_ev _ _ (by omega)) (ev_pos (by simp) ?_)))))
  have hl1 := Dom_l1 r (domS r) (by omega) hd hsm hz (fun x hx => (hm _).2 (List.mem_map_of_mem hx)) (fun x hx => by
    obtain ⟨y, _, rfl⟩ := List.mem_map.1 ((hm x).1 hx)
    exact lowT_lowT _) r.length 0 (by omega)
  by_cases h0 : 1 ≤ (domS r).length
  · exact Dom_l0 r (domS r) (by omega) ha true hl1 ((domS r).length - 1) 1 (.inl (by omega)) (by omega) (by omega)
  · exact Dom_l0 r (domS r) (by omega) ha true hl1 0 1 (.inr ⟨rfl, by omega⟩) (by omega) (by omega)
end Go.Proofs.Ytogmkfenplihoaa.Pure
