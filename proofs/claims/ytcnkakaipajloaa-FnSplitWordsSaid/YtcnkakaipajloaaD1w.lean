/- What the printed draws of words come to; no condition. -/
import Derived.Test.YtcnkakaipajloaaD1t
import Derived.Test.YtcnkakaipajloaaDN
import Derived.Test.YtcnkakaipajloaaK1j
import Derived.Test.YtcnkakaipajloaaQ6
set_option linter.unusedVariables false
set_option linter.unusedSimpArgs false
namespace Go.Proofs.Ytcnkakaipajloaa.Q
open Go.RowKit Go.Proofs.YtcnkakaipajloaaV.PrintWords Go.Proofs.YtcnkakaipajloaaV.PrintLast Go.Proofs.YtcnkakaipajloaaV.PrintMore
/-! ## Draws of words -/
theorem l1List_l0 (b : List Int) (hb : IsB b) (hl : b.length ≤ 2000) : ∀ (d : Nat) (n : Int) (acc : List ByteArray) (p : Int), n = d → d ≤ 100 → acc.length + d ≤ 100000 → 0 ≤ p → p + d ≤ 900000 → (∀ x ∈ acc, x.size ≤ 20) →
    ∃ r, Ev (fun k => spec_l1List.l0 k acc n b p) (r, p + d) ∧ r.length = acc.length + d ∧ ∀ x ∈ r, x.size ≤ 20 := by
  intro d
  induction d with
  | zero =>
    intro n acc p hn hd ha h0 h1 hx
    refine ⟨acc, ev_succ ?_, rfl, hx⟩
    simp only [spec_l1List.l0]
    rw [show p + ((0 : Nat) : Int) = p by omega]
    exact ev_neg (by omega) (Ev.now _)
  | succ d ih =>
    intro n acc p hn hd ha h0 h1 hx
    obtain ⟨s, hs, hz⟩ := l1Draw_some b hb hl p h0 (by omega)
    obtain ⟨r, hr, hrl, hrx⟩ := ih (n - 1) (acc ++ [s]) (p + 1) (by omega) (by omega) (by simp; omega) (by omega) (by omega) (fun x hxm => by
      rcases List.mem_append.1 hxm with h | h
      · exact hx x h
      · have : x = s := by simpa using h
        rw [this]; exact hz)
    refine ⟨r, ev_succ ?_, by rw [hrl]; simp; omega, hrx⟩
    simp only [spec_l1List.l0]
    rw [wrap_id (x := n - 1) (by omega) (by omega)]
    refine ev_pos (by omega) (ev_bind hs (ev_pos (by omega) (ev_cast hr ?_)))
    rw [show p + ((d + 1 : Nat) : Int) = p + 1 + (d : Int) by omega]
theorem l1List_some (b : List Int) (hb : IsB b) (hl : b.length ≤ 2000) (p : Int) (hp0 : 0 ≤ p) (hp1 : p ≤ 800000) : ∃ r p', Ev (fun k => spec_l1List.f k b p) (r, p') ∧ r.length ≤ 4 ∧ (∀ x ∈ r, x.size ≤ 20) ∧ p ≤ p' ∧ p' ≤ p + 5 := by
  obtain ⟨n, hn, hm⟩ := num_some b hb hl p [2, 3, 1, 0, 4] hp0 (by omega) (by decide) (by decide)
  have hr : 0 ≤ n ∧ n ≤ 4 := by
    simp only [List.mem_cons, List.mem_nil_iff, or_false] at hm
    omega
  obtain ⟨r, h1, h2, h3⟩ := l1List_l0 b hb hl n.toNat n [] (p + 1) (by omega) (by omega) (by simp; omega) (by omega) (by omega) (by simp)
  refine ⟨r, p + 1 + (n.toNat : Int), ?_, by rw [h2]; simp; omega, h3, ?_, ?_⟩
  · unfold spec_l1List.f
    exact ev_bind hn h1
  · omega
  · omega
theorem joinW_size (ws : List (List Int)) : (strOfNums (joinW ws)).size ≤ 200 := by
  rw [S_size]
  exact ((textOk_iff _).1 (joinW_text ws)).1
theorem DrawSplitWords_some (l : List Int) (hw : ∀ x ∈ l, (Lit.int .u8 x).wf = true) : ∃ s, Ev (fun k => spec_DrawSplitWords.f k l) s ∧ s.size ≤ 1000 := by
  obtain ⟨b, ho, hb, hl⟩ := open_some l hw
  obtain ⟨q, p, hq, q1, q2, p1, p2⟩ := l1List_some b hb hl 0 (by omega) (by omega)
  have hj := joinW_size (q.map bytesOf)
  obtain ⟨r, p', hr, r1, _, _⟩ := l1Bend_some b hb hl p (strOfNums (joinW (q.map bytesOf))) [(⟨#[]⟩ : ByteArray), (⟨#[32]⟩ : ByteArray), (⟨#[34]⟩ : ByteArray), (⟨#[92]⟩ : ByteArray), (⟨#[44]⟩ : ByteArray), (⟨#[120]⟩ : ByteArray)] (by omega) (by omega) (by omega) (by decide) (by decide) (by decide)
  refine ⟨r, ?_, by omega⟩
  unfold spec_DrawSplitWords.f
  exact ev_bind1 ho (ev_bind hq (ev_bind (spec_JoinWords_ev q (by omega) (fun x hx => by have := q2 x hx; omega)) (ev_bind hr (Ev.now _))))

end Go.Proofs.Ytcnkakaipajloaa.Q
