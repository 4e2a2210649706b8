/- What the printed draws of addresses come to; no condition. -/
import Derived.Test.YtogmkfenplihoaaD1
import Derived.Test.YtogmkfenplihoaaQ6
set_option linter.unusedVariables false
set_option linter.unusedSimpArgs false
namespace Go.Proofs.Ytogmkfenplihoaa.Q
open Go.RowKit Go.Proofs.YtogmkfenplihoaaV.PrintWords Go.Proofs.YtogmkfenplihoaaV.PrintLast Go.Proofs.YtogmkfenplihoaaV.PrintMore
/-! ## Draws of addresses -/
-- IF spec_l2Draw.f
theorem l2Draw_some (b : List Int) (hb : IsB b) (hl : b.length ≤ 2000) (p : Int) (hp0 : 0 ≤ p) (hp1 : p ≤ 900000) :
    ∃ x y z, Ev (fun k => spec_l2Draw.f k b p) (x, y, z, p + 1 + 1 + 1) ∧ x.size ≤ 20 ∧ y.size ≤ 20 ∧ z.size ≤ 20 := by
  unfold spec_l2Draw.f
  generalize hg1 : ([(⟨#[]⟩ : ByteArray), (⟨#[65, 110, 110]⟩ : ByteArray), (⟨#[65, 110, 110, 32, 76, 101, 101]⟩ : ByteArray), (⟨#[]⟩ : ByteArray), (⟨#[97, 34, 98]⟩ : ByteArray), (⟨#[120, 44, 32, 121]⟩ : ByteArray), (⟨#[60, 122, 62]⟩ : ByteArray), (⟨#[64]⟩ : ByteArray)] : List ByteArray) = q1
  generalize hg2 : ([(⟨#[97, 110, 110]⟩ : ByteArray), (⟨#[97, 46, 98]⟩ : ByteArray), (⟨#[98, 111, 98]⟩ : ByteArray), (⟨#[120, 43, 121]⟩ : ByteArray), (⟨#[111, 39, 110, 101, 105, 108]⟩ : ByteArray), (⟨#[65]⟩ : ByteArray)] : List ByteArray) = q2
  generalize hg3 : ([(⟨#[120, 46, 111, 114, 103]⟩ : ByteArray), (⟨#[109, 97, 105, 108, 46, 101, 120, 97, 109, 112, 108, 101]⟩ : ByteArray), (⟨#[97, 45, 98, 46, 99]⟩ : ByteArray), (⟨#[120, 46, 111, 114, 103]⟩ : ByteArray), (⟨#[57, 46, 100, 101]⟩ : ByteArray)] : List ByteArray) = q3
  have hz1 : (∀ x ∈ q1, x.size ≤ 20) ∧ q1.length = 8 := by subst hg1; exact ⟨by decide, rfl⟩
  have hz2 : (∀ x ∈ q2, x.size ≤ 20) ∧ q2.length = 6 := by subst hg2; exact ⟨by decide, rfl⟩
  have hz3 : (∀ x ∈ q3, x.size ≤ 20) ∧ q3.length = 5 := by subst hg3; exact ⟨by decide, rfl⟩
  obtain ⟨x, hx, mx⟩ := of_some b hb hl p q1 (by omega) (by omega) (by omega) (by omega)
  obtain ⟨y, hy, my⟩ := of_some b hb hl (p + 1) q2 (by omega) (by omega) (by omega) (by omega)
  obtain ⟨z, hz, mz⟩ := of_some b hb hl (p + 1 + 1) q3 (by omega) (by omega) (by omega) (by omega)
  exact ⟨x, y, z, ev_bind hx (ev_bind hy (ev_bind hz (Ev.now _))), hz1.1 x mx, hz2.1 y my, hz3.1 z mz⟩

end Go.Proofs.Ytogmkfenplihoaa.Q
