/- What the printed draws of fields come to; no condition. -/
import Derived.Test.YtiobaiakbbboaaaDN
import Derived.Test.YtiobaiakbbboaaaK3
import Derived.Test.YtiobaiakbbboaaaQ0
import Derived.Test.YtiobaiakbbboaaaQ12
set_option linter.unusedVariables false
set_option linter.unusedSimpArgs false
namespace Go.Proofs.Ytiobaiakbbboaaa.Q
open Go.RowKit Go.Proofs.YtiobaiakbbboaaaV.PrintWords Go.Proofs.YtiobaiakbbboaaaV.PrintLast Go.Proofs.YtiobaiakbbboaaaV.PrintMore
/-! ## Draws of fields -/
def szF (n : Nat) (x : S39) : Prop := x.f0.size ≤ n ∧ x.f1.size ≤ n
theorem l3Draw_some (b : List Int) (hb : IsB b) (hl : b.length ≤ 2000) (p : Int) (hp0 : 0 ≤ p) (hp1 : p ≤ 900000) :
    ∃ x y, Ev (fun k => spec_l3Draw.f k b p) (x, y, p + 1 + 1) ∧ x.size ≤ 100 ∧ y.size ≤ 100 := by
  unfold spec_l3Draw.f
  generalize hg1 : ([(⟨#[84, 111]⟩ : ByteArray), (⟨#[70, 114, 111, 109]⟩ : ByteArray), (⟨#[83, 117, 98, 106, 101, 99, 116]⟩ : ByteArray), (⟨#[88, 45, 89]⟩ : ByteArray), (⟨#[82, 101, 99, 101, 105, 118, 101, 100]⟩ : ByteArray), (⟨#[116, 111]⟩ : ByteArray), (⟨#[68, 97, 116, 101]⟩ : ByteArray)] : List ByteArray) = q1
  generalize hg2 : ([(⟨#[]⟩ : ByteArray), (⟨#[120]⟩ : ByteArray), (⟨#[97, 32, 98]⟩ : ByteArray), (⟨#[104, 101, 108, 108, 111, 32, 116, 104, 101, 114, 101, 44, 32, 116, 104, 105, 115, 32, 105, 115, 32, 97, 32, 108, 111, 110, 103, 101, 114, 32, 118, 97, 108, 117, 101, 32, 116, 104, 97, 116, 32, 105, 115, 32, 98, 114, 111, 107, 101, 110]⟩ : ByteArray), (⟨#[97, 97, 97, 97, 97, 97, 97, 97, 97, 97, 97, 97, 97, 97, 97, 97, 97, 97, 97, 97, 97, 97, 97, 97, 97, 97, 97, 97, 97, 97, 97, 97, 97, 97, 97, 97, 97, 97, 97, 97, 97, 97, 97, 97, 97, 97, 97, 97, 97, 97, 97, 32, 98]⟩ : ByteArray), (⟨#[116, 119, 111, 32, 32, 115, 112, 97, 99, 101, 115, 32, 115, 116, 97, 121, 32, 32, 116, 111, 103, 101, 116, 104, 101, 114, 32, 105, 110, 32, 104, 101, 114, 101, 44, 32, 97, 110, 100, 32, 115, 111, 32, 100, 111, 32, 116, 104, 101, 115, 101, 32, 32, 111, 110, 101, 115]⟩ : ByteArray), (⟨#[97, 58, 98]⟩ : ByteArray), (⟨#[111, 110, 101, 32, 116, 119, 111, 32, 116, 104, 114, 101, 101, 32, 102, 111, 117, 114, 32, 102, 105, 118, 101, 32, 115, 105, 120, 32, 115, 101, 118, 101, 110, 32, 101, 105, 103, 104, 116, 32, 110, 105, 110, 101, 32, 116, 101, 110, 32, 101, 108, 101, 118, 101, 110]⟩ : ByteArray)] : List ByteArray) = q2
  have hz1 : (∀ x ∈ q1, x.size ≤ 100) ∧ q1.length = 7 := by subst hg1; exact ⟨by decide, rfl⟩
  have hz2 : (∀ x ∈ q2, x.size ≤ 100) ∧ q2.length = 8 := by subst hg2; exact ⟨by decide, rfl⟩
  obtain ⟨x, hx, mx⟩ := of_some b hb hl p q1 (by omega) (by omega) (by omega) (by omega)
  obtain ⟨y, hy, my⟩ := of_some b hb hl (p + 1) q2 (by omega) (by omega) (by omega) (by omega)
  exact ⟨x, y, ev_bind hx (ev_bind hy (Ev.now _)), hz1.1 x mx, hz2.1 y my⟩
theorem l3List_l0 (b : List Int) (hb : IsB b) (hl : b.length ≤ 2000) : ∀ (d : Nat) (n : Int) (acc : List S39) (p : Int), n = d → d ≤ 100 → acc.length + d ≤ 100000 → 0 ≤ p → p + 2 * d ≤ 900000 → (∀ x ∈ acc, szF 100 x) →
    ∃ r, Ev (fun k => spec_l3List.l0 k acc n b p) (r, p + 2 * d) ∧ r.length = acc.length + d ∧ ∀ x ∈ r, szF 100 x := by
  intro d
  induction d with
  | zero =>
    intro n acc p hn hd ha h0 h1 hx
    refine ⟨acc, ev_succ ?_, rfl, hx⟩
    simp only [spec_l3List.l0]
    rw [show p + 2 * ((0 : Nat) : Int) = p by omega]
    exact ev_neg (by omega) (Ev.now _)
  | succ d ih =>
    intro n acc p hn hd ha h0 h1 hx
    obtain ⟨s, t, hs, hz1, hz2⟩ := l3Draw_some b hb hl p h0 (by omega)
    obtain ⟨r, hr, hrl, hrx⟩ := ih (n - 1) (acc ++ [⟨s, t⟩]) (p + 1 + 1) (by omega) (by omega) (by simp; omega) (by omega) (by omega) (fun x hxm => by
      rcases List.mem_append.1 hxm with h | h
      · exact hx x h
      · have : x = ⟨s, t⟩ := by simpa using h
        rw [this]; exact ⟨hz1, hz2⟩)
    refine ⟨r, ev_succ ?_, by rw [hrl, List.length_append, List.length_singleton]; omega, hrx⟩
    simp only [spec_l3List.l0]
    rw [show p + 2 * ((d + 1 : Nat) : Int) = p + 1 + 1 + 2 * (d : Int) by omega]
    refine ev_pos (by omega) (ev_bind hs (ev_pos (by omega) ?_))
    rw [wrap_id (by omega) (by omega)]
    exact hr
theorem l3List_some (b : List Int) (hb : IsB b) (hl : b.length ≤ 2000) (p : Int) (hp0 : 0 ≤ p) (hp1 : p ≤ 800000) :
    ∃ r p', Ev (fun k => spec_l3List.f k b p) (r, p') ∧ r.length ≤ 4 ∧ (∀ x ∈ r, szF 100 x) ∧ p ≤ p' ∧ p' ≤ p + 9 := by
  obtain ⟨n, hn, hm⟩ := num_some b hb hl p [2, 3, 1, 0, 4] hp0 (by omega) (by decide) (by decide)
  have hr : 0 ≤ n ∧ n ≤ 4 := by
    simp only [List.mem_cons, List.mem_nil_iff, or_false] at hm
    omega
  obtain ⟨r, h1, h2, h3⟩ := l3List_l0 b hb hl n.toNat n [] (p + 1) (by omega) (by omega) (by simp; omega) (by omega) (by omega) (by simp)
  refine ⟨r, p + 1 + 2 * (n.toNat : Int), ?_, by rw [h2]; simp; omega, h3, ?_, ?_⟩
  · unfold spec_l3List.f
    exact ev_bind hn h1
  · omega
  · omega
theorem DrawFieldsSame_some (l : List Int) (hw : ∀ x ∈ l, (Lit.int .u8 x).wf = true) : ∃ a c, Ev (fun k => spec_DrawFieldsSame.f k l) (a, c) ∧ a.length ≤ 4 ∧ c.length ≤ 4 := by
  obtain ⟨b, ho, hb, hl⟩ := open_some l hw
  obtain ⟨q, p, hq, q1, q2, p1, p2⟩ := l3List_some b hb hl 0 (by omega) (by omega)
  unfold spec_DrawFieldsSame.f
  have key : ∀ (c : Bool) (p : Int), 0 ≤ p → p ≤ 20 → (c = true → 0 < q.length) → ∃ r, Ev (fun k => spec_DrawFieldsSame.j0 k q q c b p) (q, r) ∧ r.length ≤ 4 := by
    intro c p p1 p2 hc
    cases c with
    | false =>
      refine ⟨q, ev_succ ?_, q1⟩
      simp only [spec_DrawFieldsSame.j0, Bool.false_eq_true, if_false]
      exact Ev.now _
    | true =>
      obtain ⟨v, hv, v0, v1⟩ := pick_some b hb hl p q.length p1 (by omega) (by omega)
      obtain ⟨s, t, hs, _, _⟩ := l3Draw_some b hb hl (p + 1) (by omega) (by omega)
      refine ⟨q.set v.toNat ⟨s, t⟩, ev_succ ?_, by simpa using q1⟩
      simp only [spec_DrawFieldsSame.j0]
      have := hc rfl
      exact ev_pos trivial (ev_bind hv (ev_bind hs (ev_pos v0 (ev_pos (v1 (by omega)) (Ev.now _)))))
  by_cases h0 : 0 < q.length
  · obtain ⟨v, hv, v0, v1⟩ := pick_some b hb hl p 2 (by omega) (by omega) (by omega)
    obtain ⟨r, hr, r1⟩ := key (v == 0) (p + 1) (by omega) (by omega) (fun _ => h0)
    exact ⟨q, r, ev_bind1 ho (ev_bind hq (ev_bind1 rfl (ev_pos (by simp; omega) (ev_bind1 rfl (ev_pos (by rw [List.nil_append]; show (q.length : Int) > 0; omega) (ev_bind hv hr)))))), q1, r1⟩
  · obtain ⟨r, hr, r1⟩ := key false p (by omega) (by omega) (fun h => by simp at h)
    exact ⟨q, r, ev_bind1 ho (ev_bind hq (ev_bind1 rfl (ev_pos (by simp; omega) (ev_bind1 rfl (ev_neg (by rw [List.nil_append]; show ¬ ((q.length : Int) > 0); omega) hr))))), q1, r1⟩

end Go.Proofs.Ytiobaiakbbboaaa.Q
