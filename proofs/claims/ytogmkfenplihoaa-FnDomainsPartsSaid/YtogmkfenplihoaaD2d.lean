/- What the printed draws of lists of addresses come to; no condition. -/
import Derived.Test.YtogmkfenplihoaaD2
import Derived.Test.YtogmkfenplihoaaDN
import Derived.Test.YtogmkfenplihoaaK2
import Derived.Test.YtogmkfenplihoaaQ0
import Derived.Test.YtogmkfenplihoaaQ6
set_option linter.unusedVariables false
set_option linter.unusedSimpArgs false
namespace Go.Proofs.Ytogmkfenplihoaa.Q
open Go.RowKit Go.Proofs.YtogmkfenplihoaaV.PrintWords Go.Proofs.YtogmkfenplihoaaV.PrintLast Go.Proofs.YtogmkfenplihoaaV.PrintMore
/-! ## Draws of lists of addresses -/
def szA (n : Nat) (x : S31) : Prop := x.f0.size ≤ n ∧ x.f1.size ≤ n ∧ x.f2.size ≤ n
theorem l2List_l0 (b : List Int) (hb : IsB b) (hl : b.length ≤ 2000) : ∀ (d : Nat) (n : Int) (acc : List S31) (p : Int), n = d → d ≤ 100 → acc.length + d ≤ 100000 → 0 ≤ p → p + 3 * d ≤ 800000 → (∀ x ∈ acc, szA 100 x) →
    ∃ r, Ev (fun k => spec_l2List.l0 k acc n b p) (r, p + 3 * d) ∧ r.length = acc.length + d ∧ ∀ x ∈ r, szA 100 x := by
  intro d
  induction d with
  | zero =>
    intro n acc p hn hd ha h0 h1 hx
    refine ⟨acc, ev_succ ?_, rfl, hx⟩
    simp only [spec_l2List.l0]
    rw [show p + 3 * ((0 : Nat) : Int) = p by omega]
    exact ev_neg (by omega) (Ev.now _)
  | succ d ih =>
    intro n acc p hn hd ha h0 h1 hx
    obtain ⟨s, t, u, hs, hz1, hz2, hz3⟩ := l2Draw_some b hb hl p h0 (by omega)
    obtain ⟨r, hr, hrl, hrx⟩ := ih (n - 1) (acc ++ [⟨s, t, u⟩]) (p + 1 + 1 + 1) (by omega) (by omega) (by simp; omega) (by omega) (by omega) (fun x hxm => by
      rcases List.mem_append.1 hxm with h | h
      · exact hx x h
      · have : x = ⟨s, t, u⟩ := by simpa using h
        rw [this]
        refine ⟨?_, ?_, ?_⟩
        · show s.size ≤ 100; omega
        · show t.size ≤ 100; omega
        · show u.size ≤ 100; omega)
    refine ⟨r, ev_succ ?_, by rw [hrl, List.length_append, List.length_singleton]; omega, hrx⟩
    simp only [spec_l2List.l0]
    rw [show p + 3 * ((d + 1 : Nat) : Int) = p + 1 + 1 + 1 + 3 * (d : Int) by omega]
    refine ev_pos (by omega) (ev_bind hs (ev_pos (by omega) ?_))
    rw [wrap_id (by omega) (by omega)]
    exact hr
theorem l2List_some (b : List Int) (hb : IsB b) (hl : b.length ≤ 2000) (p : Int) (hp0 : 0 ≤ p) (hp1 : p ≤ 700000) :
    ∃ r p', Ev (fun k => spec_l2List.f k b p) (r, p') ∧ r.length ≤ 4 ∧ (∀ x ∈ r, szA 100 x) ∧ p ≤ p' ∧ p' ≤ p + 13 := by
  obtain ⟨n, hn, hm⟩ := num_some b hb hl p [2, 3, 1, 0, 4] hp0 (by omega) (by decide) (by decide)
  have hr : 0 ≤ n ∧ n ≤ 4 := by
    simp only [List.mem_cons, List.mem_nil_iff, or_false] at hm
    omega
  obtain ⟨r, h1, h2, h3⟩ := l2List_l0 b hb hl n.toNat n [] (p + 1) (by omega) (by omega) (by simp; omega) (by omega) (by omega) (by simp)
  refine ⟨r, p + 1 + 3 * (n.toNat : Int), ?_, by rw [h2]; simp; omega, h3, ?_, ?_⟩
  · unfold spec_l2List.f
    exact ev_bind hn h1
  · omega
  · omega
theorem l2Wrong_some (b : List Int) (hb : IsB b) (hl : b.length ≤ 2000) (p : Int) (x y z : ByteArray) (hp0 : 0 ≤ p) (hp1 : p ≤ 900000) (hx : x.size ≤ 100) (hy : y.size ≤ 100) (hz : z.size ≤ 100) :
    ∃ x' y' z' p', Ev (fun k => spec_l2Wrong.f k b p x y z) (x', y', z', p') ∧ x'.size ≤ 100 ∧ y'.size ≤ 100 ∧ z'.size ≤ 100 ∧ p ≤ p' ∧ p' ≤ p + 2 := by
  unfold spec_l2Wrong.f
  generalize hg1 : ([(⟨#[]⟩ : ByteArray), (⟨#[46, 97]⟩ : ByteArray), (⟨#[97, 46, 46, 98]⟩ : ByteArray), (⟨#[97, 32, 98]⟩ : ByteArray), (⟨#[97, 64, 98]⟩ : ByteArray)] : List ByteArray) = q1
  generalize hg2 : ([(⟨#[]⟩ : ByteArray), (⟨#[88, 46, 111, 114, 103]⟩ : ByteArray), (⟨#[45, 97]⟩ : ByteArray), (⟨#[97, 45]⟩ : ByteArray), (⟨#[97, 95, 98]⟩ : ByteArray), (⟨#[97, 46, 46, 98]⟩ : ByteArray)] : List ByteArray) = q2
  generalize hg3 : ([(⟨#[10]⟩ : ByteArray), (⟨#[97, 97, 97, 97, 97, 97, 97, 97, 97, 97, 97, 97, 97, 97, 97, 97, 97, 97, 97, 97, 97, 97, 97, 97, 97, 97, 97, 97, 97, 97, 97, 97, 97, 97, 97, 97, 97, 97, 97, 97, 97]⟩ : ByteArray)] : List ByteArray) = q3
  have hz1 : (∀ x ∈ q1, x.size ≤ 100) ∧ q1.length = 5 := by subst hg1; exact ⟨by decide, rfl⟩
  have hz2 : (∀ x ∈ q2, x.size ≤ 100) ∧ q2.length = 6 := by subst hg2; exact ⟨by decide, rfl⟩
  have hz3 : (∀ x ∈ q3, x.size ≤ 100) ∧ q3.length = 2 := by subst hg3; exact ⟨by decide, rfl⟩
  obtain ⟨v, hv, v0, v1⟩ := pick_some b hb hl p 20 hp0 (by omega) (by omega)
  by_cases h0 : v = 0
  · obtain ⟨s, hs, ms⟩ := of_some b hb hl (p + 1) q1 (by omega) (by omega) (by omega) (by omega)
    exact ⟨x, s, z, p + 1 + 1, ev_bind hv (ev_pos h0 (ev_bind hs (Ev.now _))), hx, hz1.1 s ms, hz, by omega, by omega⟩
  by_cases h1 : v = 1
  · obtain ⟨s, hs, ms⟩ := of_some b hb hl (p + 1) q2 (by omega) (by omega) (by omega) (by omega)
    exact ⟨x, y, s, p + 1 + 1, ev_bind hv (ev_neg h0 (ev_pos h1 (ev_bind hs (Ev.now _)))), hx, hy, hz2.1 s ms, by omega, by omega⟩
  by_cases h2 : v = 2
  · obtain ⟨s, hs, ms⟩ := of_some b hb hl (p + 1) q3 (by omega) (by omega) (by omega) (by omega)
    exact ⟨s, y, z, p + 1 + 1, ev_bind hv (ev_neg h0 (ev_neg h1 (ev_pos h2 (ev_bind hs (Ev.now _))))), hz3.1 s ms, hy, hz, by omega, by omega⟩
  · exact ⟨x, y, z, p + 1, ev_bind hv (ev_neg h0 (ev_neg h1 (ev_neg h2 (Ev.now _)))), hx, hy, hz, by omega, by omega⟩
theorem l2Some_some (b : List Int) (hb : IsB b) (hl : b.length ≤ 2000) (p : Int) (hp0 : 0 ≤ p) (hp1 : p ≤ 600000) :
    ∃ r p', Ev (fun k => spec_l2Some.f k b p) (r, p') ∧ r.length ≤ 4 ∧ (∀ x ∈ r, szA 100 x) ∧ p ≤ p' ∧ p' ≤ p + 20 := by
  obtain ⟨r, p1, hr, r1, r2, p2, p3⟩ := l2List_some b hb hl p hp0 (by omega)
  unfold spec_l2Some.f
  by_cases h0 : 0 < r.length
  · obtain ⟨v, hv, v0, v1⟩ := pick_some b hb hl p1 r.length (by omega) (by omega) (by omega)
    have v1 := v1 (by omega)
    have hlt : v.toNat < r.length := by omega
    have hm := r2 _ (List.getElem_mem hlt)
    obtain ⟨x', y', z', p4, hw, w1, w2, w3, w4, w5⟩ := l2Wrong_some b hb hl (p1 + 1) r[v.toNat].f0 r[v.toNat].f1 r[v.toNat].f2 (by omega) (by omega) hm.1 hm.2.1 hm.2.2
    have he : rd_T31 r v = r[v.toNat] := by
      rw [rd_T31, List.getD_eq_getElem?_getD, List.getElem?_eq_getElem hlt]
      rfl
    refine ⟨r.set v.toNat ⟨x', y', z'⟩, p4, ev_bind hr (ev_pos (show (r.length : Int) > 0 by omega) (ev_bind hv (ev_pos v0 (ev_pos v1 (ev_bind (a := (x', y', z', p4)) ?_ (Ev.now _)))))), by simpa using r1, fun x hx => ?_, by omega, by omega⟩
    · show Ev (fun k => spec_l2Wrong.f k b (p1 + 1) (rd_T31 r v).f0 (rd_T31 r v).f1 (rd_T31 r v).f2) _
      rw [he]
      exact hw
    · rcases List.mem_or_eq_of_mem_set hx with h | h
      · exact r2 x h
      · rw [h]; exact ⟨w1, w2, w3⟩
  · exact ⟨r, p1, ev_bind hr (ev_neg (show ¬ (r.length : Int) > 0 by omega) (Ev.now _)), r1, r2, by omega, by omega⟩
theorem DrawDomainsOf_some (l : List Int) (hw : ∀ x ∈ l, (Lit.int .u8 x).wf = true) : ∃ r, Ev (fun k => spec_DrawDomainsOf.f k l) r ∧ r.length ≤ 8 ∧ ∀ x ∈ r, szA 100 x := by
  obtain ⟨b, ho, hb, hl⟩ := open_some l hw
  obtain ⟨r, p, hr, r1, r2, p1, p2⟩ := l2Some_some b hb hl 0 (by omega) (by omega)
  refine ⟨r, ?_, by omega, r2⟩
  unfold spec_DrawDomainsOf.f
  exact ev_bind1 ho (ev_bind hr (Ev.now _))

end Go.Proofs.Ytogmkfenplihoaa.Q
