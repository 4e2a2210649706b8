/- What the printed draws of fields and a name come to; no condition. -/
import Derived.Test.YtiobaiakbbboaaaD3
import Derived.Test.YtiobaiakbbboaaaQ0
import Derived.Test.YtiobaiakbbboaaaQ12
set_option linter.unusedVariables false
set_option linter.unusedSimpArgs false
namespace Go.Proofs.Ytiobaiakbbboaaa.Q
open Go.RowKit Go.Proofs.YtiobaiakbbboaaaV.PrintWords Go.Proofs.YtiobaiakbbboaaaV.PrintLast Go.Proofs.YtiobaiakbbboaaaV.PrintMore
theorem l3Wrong_some (b : List Int) (hb : IsB b) (hl : b.length ≤ 2000) (p : Int) (x y : ByteArray) (hp0 : 0 ≤ p) (hp1 : p ≤ 900000) (hx : x.size ≤ 100) (hy : y.size ≤ 100) :
    ∃ x' y' p', Ev (fun k => spec_l3Wrong.f k b p x y) (x', y', p') ∧ x'.size ≤ 100 ∧ y'.size ≤ 100 ∧ p ≤ p' ∧ p' ≤ p + 2 := by
  unfold spec_l3Wrong.f
  generalize hg1 : ([(⟨#[]⟩ : ByteArray), (⟨#[45, 97]⟩ : ByteArray), (⟨#[49, 97]⟩ : ByteArray), (⟨#[97, 32, 98]⟩ : ByteArray), (⟨#[97, 95, 98]⟩ : ByteArray), (⟨#[97, 97, 97, 97, 97, 97, 97, 97, 97, 97, 97, 97, 97, 97, 97, 97, 97, 97, 97, 97, 97, 97, 97, 97, 97, 97, 97, 97, 97, 97, 97]⟩ : ByteArray)] : List ByteArray) = q1
  generalize hg2 : ([(⟨#[32, 97]⟩ : ByteArray), (⟨#[97, 32]⟩ : ByteArray), (⟨#[10]⟩ : ByteArray)] : List ByteArray) = q2
  have hz1 : (∀ x ∈ q1, x.size ≤ 100) ∧ q1.length = 6 := by subst hg1; exact ⟨by decide, rfl⟩
  have hz2 : (∀ x ∈ q2, x.size ≤ 100) ∧ q2.length = 3 := by subst hg2; exact ⟨by decide, rfl⟩
  obtain ⟨v, hv, v0, v1⟩ := pick_some b hb hl p 20 hp0 (by omega) (by omega)
  by_cases h0 : v = 0
  · obtain ⟨s, hs, ms⟩ := of_some b hb hl (p + 1) q1 (by omega) (by omega) (by omega) (by omega)
    exact ⟨s, y, p + 1 + 1, ev_bind hv (ev_pos h0 (ev_bind hs (Ev.now _))), hz1.1 s ms, hy, by omega, by omega⟩
  · by_cases h1 : v = 1
    · obtain ⟨s, hs, ms⟩ := of_some b hb hl (p + 1) q2 (by omega) (by omega) (by omega) (by omega)
      exact ⟨x, s, p + 1 + 1, ev_bind hv (ev_neg h0 (ev_pos h1 (ev_bind hs (Ev.now _)))), hx, hz2.1 s ms, by omega, by omega⟩
    · exact ⟨x, y, p + 1, ev_bind hv (ev_neg h0 (ev_neg h1 (Ev.now _))), hx, hy, by omega, by omega⟩
theorem l3Some_some (b : List Int) (hb : IsB b) (hl : b.length ≤ 2000) (p : Int) (hp0 : 0 ≤ p) (hp1 : p ≤ 700000) :
    ∃ r p', Ev (fun k => spec_l3Some.f k b p) (r, p') ∧ r.length ≤ 4 ∧ (∀ x ∈ r, szF 100 x) ∧ p ≤ p' ∧ p' ≤ p + 20 := by
  obtain ⟨r, p1, hr, r1, r2, p2, p3⟩ := l3List_some b hb hl p hp0 (by omega)
  unfold spec_l3Some.f
  by_cases h0 : 0 < r.length
  · obtain ⟨v, hv, v0, v1⟩ := pick_some b hb hl p1 r.length (by omega) (by omega) (by omega)
    have v1 := v1 (by omega)
    have hlt : v.toNat < r.length := by omega
    have hm := r2 _ (List.getElem_mem hlt)
    obtain ⟨x', y', p4, hw, w1, w2, w3, w4⟩ := l3Wrong_some b hb hl (p1 + 1) r[v.toNat].f0 r[v.toNat].f1 (by omega) (by omega) hm.1 hm.2
    have he : rd_T39 r v = r[v.toNat] := by
      rw [rd_T39, List.getD_eq_getElem?_getD, List.getElem?_eq_getElem hlt]
      rfl
    refine ⟨r.set v.toNat ⟨x', y'⟩, p4, ev_bind hr (ev_pos (show (r.length : Int) > 0 by omega) (ev_bind hv (ev_pos v0 (ev_pos v1 (ev_bind (a := (x', y', p4)) ?_ (Ev.now _)))))), by simpa using r1, fun x hx => ?_, by omega, by omega⟩
    · show Ev (fun k => spec_l3Wrong.f k b (p1 + 1) (rd_T39 r v).f0 (rd_T39 r v).f1) _
      rw [he]
      exact hw
    · rcases List.mem_or_eq_of_mem_set hx with h | h
      · exact r2 x h
      · rw [h]; exact ⟨w1, w2⟩
  · exact ⟨r, p1, ev_bind hr (ev_neg (show ¬ (r.length : Int) > 0 by omega) (Ev.now _)), r1, r2, by omega, by omega⟩
theorem l3Case_some (l : List Int) (hw : ∀ x ∈ l, (Lit.int .u8 x).wf = true) : ∃ r a, Ev (fun k => spec_l3Case.f k l) (r, a) ∧ r.length ≤ 4 ∧ (∀ x ∈ r, szF 100 x) ∧ a.size ≤ 20 := by
  obtain ⟨b, ho, hb, hl⟩ := open_some l hw
  obtain ⟨r, p, hr, r1, r2, p1, p2⟩ := l3Some_some b hb hl 0 (by omega) (by omega)
  unfold spec_l3Case.f
  generalize hg1 : ([(⟨#[116, 111]⟩ : ByteArray), (⟨#[70, 82, 79, 77]⟩ : ByteArray), (⟨#[83, 117, 98, 106, 101, 99, 116]⟩ : ByteArray), (⟨#[120, 45, 121]⟩ : ByteArray), (⟨#[110, 111, 110, 101]⟩ : ByteArray), (⟨#[]⟩ : ByteArray)] : List ByteArray) = q1
  have hz1 : (∀ x ∈ q1, x.size ≤ 20) ∧ q1.length = 6 := by subst hg1; exact ⟨by decide, rfl⟩
  obtain ⟨s, hs, ms⟩ := of_some b hb hl p q1 (by omega) (by omega) (by omega) (by omega)
  exact ⟨r, s, ev_bind1 ho (ev_bind hr (ev_bind hs (Ev.now _))), r1, r2, hz1.1 s ms⟩
theorem DrawGetField_some (l : List Int) (hw : ∀ x ∈ l, (Lit.int .u8 x).wf = true) : ∃ r a, Ev (fun k => spec_DrawGetField.f k l) (r, a) ∧ r.length ≤ 4 ∧ (∀ x ∈ r, szF 100 x) ∧ a.size ≤ 20 := by
  obtain ⟨r, a, h, h1⟩ := l3Case_some l hw
  exact ⟨r, a, ev_bind h (Ev.now _), h1⟩
theorem DrawDropField_some (l : List Int) (hw : ∀ x ∈ l, (Lit.int .u8 x).wf = true) : ∃ r a, Ev (fun k => spec_DrawDropField.f k l) (r, a) ∧ r.length ≤ 4 ∧ (∀ x ∈ r, szF 100 x) ∧ a.size ≤ 20 := by
  obtain ⟨r, a, h, h1⟩ := l3Case_some l hw
  exact ⟨r, a, ev_bind h (Ev.now _), h1⟩
theorem DrawCountField_some (l : List Int) (hw : ∀ x ∈ l, (Lit.int .u8 x).wf = true) : ∃ r a, Ev (fun k => spec_DrawCountField.f k l) (r, a) ∧ r.length ≤ 4 ∧ (∀ x ∈ r, szF 100 x) ∧ a.size ≤ 20 := by
  obtain ⟨r, a, h, h1⟩ := l3Case_some l hw
  exact ⟨r, a, ev_bind h (Ev.now _), h1⟩

end Go.Proofs.Ytiobaiakbbboaaa.Q
