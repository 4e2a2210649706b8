/- What the printed draws of addresses come to; no condition. -/
import Derived.Test.YtcnkakaipajloaaDoorD1
import Derived.Test.YtcnkakaipajloaaDoorQ9
set_option linter.unusedVariables false
set_option linter.unusedSimpArgs false
namespace Go.Proofs.YtcnkakaipajloaaDoor.Q
open Go.RowKit Go.Proofs.YtcnkakaipajloaaDoorV.PrintWords Go.Proofs.YtcnkakaipajloaaDoorV.PrintLast Go.Proofs.YtcnkakaipajloaaDoorV.PrintMore
/-! ## Draws of addresses -/
theorem l2Draw_some (b : List Int) (hb : IsB b) (hl : b.length ≤ 2000) (p : Int) (hp0 : 0 ≤ p) (hp1 : p ≤ 900000) :
    ∃ x y z, Ev (fun k => spec_l2Draw.f k b p) (x, y, z, p + 1 + 1 + 1) ∧ x.size ≤ 20 ∧ y.size ≤ 20 ∧ z.size ≤ 20 := by
  unfold spec_l2Draw.f
  generalize hg1 : ([(⟨#[]⟩ : ByteArray), (⟨#[65, 110, 110]⟩ : ByteArray), (⟨#[65, 110, 110, 32, 76, 101, 101]⟩ : ByteArray), (⟨#[]⟩ : ByteArray), (⟨#[97, 34, 98]⟩ : ByteArray), (⟨#[120, 44, 32, 121]⟩ : ByteArray), (⟨#[60, 122, 62]⟩ : ByteArray), (⟨#[64]⟩ : ByteArray)] : List ByteArray) = q1
  generalize hg2 : ([(⟨#[97, 110, 110]⟩ : ByteArray), (⟨#[97, 46, 98]⟩ : ByteArray), (⟨#[98, 111, 98]⟩ : ByteArray), (⟨#[120, 43, 121]⟩ : ByteArray), (⟨#[111, 39, 110, 101, 105, 108]⟩ : ByteArray), (⟨#[65]⟩ : ByteArray)] : List ByteArray) = q2
  generalize hg3 : ([(⟨#[120, 46, 111, 114, 103]⟩ : ByteArray), (⟨#[109, 97, 105, 108, 46, 101, 120, 97, 109, 112, 108, 101]⟩ : ByteArray), (⟨#[97, 45, 98, 46, 99]⟩ : ByteArray), (⟨#[120, 46, 111, 114, 103]⟩ : ByteArray), (⟨#[57, 46, 100, 101]⟩ : ByteArray)] : List ByteArray) = q3
  have hz1 : (∀ x ∈ q1, x.size ≤ 20) ∧ q1.length = 8 := by subst hg1; exact ⟨by decide, rfl⟩
  have hz2 : (∀ x ∈ q2, x.size ≤ 20) ∧ q2.length = 6 := by subst hg2; exact ⟨by decide, rfl⟩
  have hz3 : (∀ x ∈ q3, x.size ≤ 20) ∧ q3.length = 5 := by subst hg3; exact ⟨by decide, rfl⟩
  obtain ⟨x, hx, mx⟩ := of_some b hb hl p q1 (by omega) (by omega) (by omega) (by omega)
  obtain ⟨y, hy, my⟩ := of_some b hb hl (p + 1) q2 (by omega) (by omega) (by omega) (by omega)
  obtain ⟨z, hz, mz⟩ := of_some b hb hl (p + 1 + 1) q3 (by omega) (by omega) (by omega) (by omega)
  exact ⟨x, y, z, ev_bind hx (ev_bind hy (ev_bind hz (Ev.now _))), hz1.1 x mx, hz2.1 y my, hz3.1 z mz⟩
-- IF spec_l2Wrong.f
theorem l2Wrong_some (b : List Int) (hb : IsB b) (hl : b.length ≤ 2000) (p : Int) (x y z : ByteArray) (hp0 : 0 ≤ p) (hp1 : p ≤ 900000) (hx : x.size ≤ 100) (hy : y.size ≤ 100) (hz : z.size ≤ 100) :
    ∃ x' y' z' p', Ev (fun k => spec_l2Wrong.f k b p x y z) (x', y', z', p') ∧ x'.size ≤ 100 ∧ y'.size ≤ 100 ∧ z'.size ≤ 100 ∧ p ≤ p' ∧ p' ≤ p + 2 := by
  unfold spec_l2Wrong.f
  generalize hg1 : ([(⟨#[]⟩ : ByteArray), (⟨#[46, 97]⟩ : ByteArray), (⟨#[97, 46, 46, 98]⟩ : ByteArray), (⟨#[97, 32, 98]⟩ : ByteArray), (⟨#[97, 64, 98]⟩ : ByteArray)] : List ByteArray) = q1
  generalize hg2 : ([(⟨#[]⟩ : ByteArray), (⟨#[88, 46, 111, 114, 103]⟩ : ByteArray), (⟨#[45, 97]⟩ : ByteArray), (⟨#[97, 45]⟩ : ByteArray), (⟨#[97, 95, 98]⟩ : ByteArray), (⟨#[97, 46, 46, 98]⟩ : ByteArray)] : List ByteArray) = q2
  generalize hg3 : ([(⟨#[10]⟩ : ByteArray), (⟨#[97, 97, 97, 97, 97, 97, 97, 97, 97, 97, 97, 97, 97, 97, 97, 97, 97, 97, 97, 97, 97, 97, 97, 97, 97, 97, 97, 97, 97, 97, 97, 97, 97, 97, 97, 97, 97, 97, 97, 97, 97]⟩ : ByteArray)] : List ByteArray) = q3
  have hz1 : (∀ x ∈ q1, x.size ≤ 100) ∧ q1.length = 5 := by subst hg1; exact ⟨by decide, rfl⟩
  have hz2 : (∀ x ∈ q2, x.size ≤ 100) ∧ q2.length = 6 := by subst hg2; exact ⟨by decide, rfl⟩
  have hz3 : (∀ x ∈ q3, x.size ≤ 100) ∧ q3.length = 2 := by subst hg3; exact ⟨by decide, rfl⟩
  obtain ⟨v, hv, v0, v1⟩ := pick_some b hb hl p 20 hp0 (by omega) (by omega)
  by_cases h0 : v = 0
  · obtain ⟨s, hs, ms⟩ := of_some b hb hl (p + 1) q1 (by omega) (by omega) (by omega) (by omega)
    exact ⟨x, s, z, p + 1 + 1, ev_bind hv (ev_pos h0 (ev_bind hs (Ev.now _))), hx, hz1.1 s ms, hz, by omega, by omega⟩
  by_cases h1 : v = 1
  · obtain ⟨s, hs, ms⟩ := of_some b hb hl (p + 1) q2 (by omega) (by omega) (by omega) (by omega)
    exact ⟨x, y, s, p + 1 + 1, ev_bind hv (ev_neg h0 (ev_pos h1 (ev_bind hs (Ev.now _)))), hx, hy, hz2.1 s ms, by omega, by omega⟩
  by_cases h2 : v = 2
  · obtain ⟨s, hs, ms⟩ := of_some b hb hl (p + 1) q3 (by omega) (by omega) (by omega) (by omega)
    exact ⟨s, y, z, p + 1 + 1, ev_bind hv (ev_neg h0 (ev_neg h1 (ev_pos h2 (ev_bind hs (Ev.now _))))), hz3.1 s ms, hy, hz, by omega, by omega⟩
  · exact ⟨x, y, z, p + 1, ev_bind hv (ev_neg h0 (ev_neg h1 (ev_neg h2 (Ev.now _)))), hx, hy, hz, by omega, by omega⟩

end Go.Proofs.YtcnkakaipajloaaDoor.Q
