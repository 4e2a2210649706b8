/- What the printed draws of words come to; no condition. -/
import Derived.Test.YteibhbhlmnnfjaaD1t
import Derived.Test.YteibhbhlmnnfjaaK1j
import Derived.Test.YteibhbhlmnnfjaaQ6
import Derived.Test.YteibhbhlmnnfjaaQ7
set_option linter.unusedVariables false
set_option linter.unusedSimpArgs false
namespace Go.Proofs.Yteibhbhlmnnfjaa.Q
open Go.RowKit Go.Proofs.YteibhbhlmnnfjaaW.PrintWords Go.Proofs.YteibhbhlmnnfjaaW.PrintLast Go.Proofs.YteibhbhlmnnfjaaW.PrintMore
/-! ## Draws of words -/
theorem DrawQuoteWord_some (l : List Int) (hw : ∀ x ∈ l, (Lit.int .u8 x).wf = true) : ∃ s, Ev (fun k => spec_DrawQuoteWord.f k l) s ∧ s.size ≤ 100 := by
  obtain ⟨s, hs, h⟩ := DrawTextValid_some l hw
  refine ⟨s, ?_, h⟩
  unfold spec_DrawQuoteWord.f
  exact ev_bind hs (Ev.now _)
theorem DrawUnquoteWord_some (l : List Int) (hw : ∀ x ∈ l, (Lit.int .u8 x).wf = true) : ∃ s, Ev (fun k => spec_DrawUnquoteWord.f k l) s ∧ s.size ≤ 1000 := by
  obtain ⟨b, ho, hb, hl⟩ := open_some l hw
  obtain ⟨s, hs, s1⟩ := l1Draw_some b hb hl 0 (by omega) (by omega)
  have hq := qB_size s
  obtain ⟨r, p', hr, r1, _, _⟩ := l1Bend_some b hb hl (0 + 1) (qB s) [(⟨#[]⟩ : ByteArray), (⟨#[34]⟩ : ByteArray), (⟨#[92]⟩ : ByteArray), (⟨#[32]⟩ : ByteArray), (⟨#[113]⟩ : ByteArray)] (by omega) (by omega) (by omega) (by decide) (by decide) (by decide)
  refine ⟨r, ?_, by omega⟩
  unfold spec_DrawUnquoteWord.f
  exact ev_bind1 ho (ev_bind hs (ev_bind (spec_QuoteWord_ev s (by omega)) (ev_bind hr (Ev.now _))))
theorem num_some (b : List Int) (hb : IsB b) (hl : b.length ≤ 2000) (p : Int) (l : List Int) (hp0 : 0 ≤ p) (hp1 : p ≤ 1000000) (hn : l.length ≤ 1000000) (h0 : 0 < l.length) :
    ∃ v, Ev (fun k => spec_l13Rd_num.f k b p l) (v, p + 1) ∧ v ∈ l := by
  obtain ⟨v, hv, v0, v1⟩ := pick_some b hb hl p l.length hp0 hp1 (by omega)
  have v1 := v1 (by omega)
  have hlt : v.toNat < l.length := by omega
  refine ⟨l[v.toNat], ?_, List.getElem_mem hlt⟩
  unfold spec_l13Rd_num.f
  refine ev_bind hv ?_
  refine ev_pos v0 (ev_pos v1 (ev_of ?_))
  rw [rd, List.getD_eq_getElem?_getD, List.getElem?_eq_getElem hlt]
  rfl
theorem l1List_l0 (b : List Int) (hb : IsB b) (hl : b.length ≤ 2000) : ∀ (d : Nat) (n : Int) (acc : List ByteArray) (p : Int), n = d → d ≤ 100 → acc.length + d ≤ 100000 → 0 ≤ p → p + d ≤ 900000 → (∀ x ∈ acc, x.size ≤ 20) →
    ∃ r, Ev (fun k => spec_l1List.l0 k acc n b p) (r, p + d) ∧ r.length = acc.length + d ∧ ∀ x ∈ r, x.size ≤ 20 := by
  intro d
  induction d with
  | zero =>
    intro n acc p hn hd ha h0 h1 hx
    refine ⟨acc, ev_succ ?_, rfl, hx⟩
    simp only [spec_l1List.l0]
    rw [show p + ((0 : Nat) : Int) = p by omega]
    exact ev_neg (by omega) (Ev.now _)
  | succ d ih =>
    intro n acc p hn hd ha h0 h1 hx
    obtain ⟨s, hs, hz⟩ := l1Draw_some b hb hl p h0 (by omega)
    obtain ⟨r, hr, hrl, hrx⟩ := ih (n - 1) (acc ++ [s]) (p + 1) (by omega) (by omega) (by simp; omega) (by omega) (by omega) (fun x hxm => by
      rcases List.mem_append.1 hxm with h | h
      · exact hx x h
      · have : x = s := by simpa using h
        rw [this]; exact hz)
    refine ⟨r, ev_succ ?_, by rw [hrl]; simp; omega, hrx⟩
    simp only [spec_l1List.l0]
    rw [wrap_id (x := n - 1) (by omega) (by omega)]
    refine ev_pos (by omega) (ev_bind hs (ev_pos (by omega) (ev_cast hr ?_)))
    rw [show p + ((d + 1 : Nat) : Int) = p + 1 + (d : Int) by omega]
theorem l1List_some (b : List Int) (hb : IsB b) (hl : b.length ≤ 2000) (p : Int) (hp0 : 0 ≤ p) (hp1 : p ≤ 800000) : ∃ r p', Ev (fun k => spec_l1List.f k b p) (r, p') ∧ r.length ≤ 4 ∧ (∀ x ∈ r, x.size ≤ 20) ∧ p ≤ p' ∧ p' ≤ p + 5 := by
  obtain ⟨n, hn, hm⟩ := num_some b hb hl p [2, 3, 1, 0, 4] hp0 (by omega) (by decide) (by decide)
  have hr : 0 ≤ n ∧ n ≤ 4 := by
    simp only [List.mem_cons, List.mem_nil_iff, or_false] at hm
    omega
  obtain ⟨r, h1, h2, h3⟩ := l1List_l0 b hb hl n.toNat n [] (p + 1) (by omega) (by omega) (by simp; omega) (by omega) (by omega) (by simp)
  refine ⟨r, p + 1 + (n.toNat : Int), ?_, by rw [h2]; simp; omega, h3, ?_, ?_⟩
  · unfold spec_l1List.f
    exact ev_bind hn h1
  · omega
  · omega
theorem joinW_size (ws : List (List Int)) : (strOfNums (joinW ws)).size ≤ 200 := by
  rw [S_size]
  exact ((textOk_iff _).1 (joinW_text ws)).1
theorem DrawSplitWords_some (l : List Int) (hw : ∀ x ∈ l, (Lit.int .u8 x).wf = true) : ∃ s, Ev (fun k => spec_DrawSplitWords.f k l) s ∧ s.size ≤ 1000 := by
  obtain ⟨b, ho, hb, hl⟩ := open_some l hw
  obtain ⟨q, p, hq, q1, q2, p1, p2⟩ := l1List_some b hb hl 0 (by omega) (by omega)
  have hj := joinW_size (q.map bytesOf)
  obtain ⟨r, p', hr, r1, _, _⟩ := l1Bend_some b hb hl p (strOfNums (joinW (q.map bytesOf))) [(⟨#[]⟩ : ByteArray), (⟨#[32]⟩ : ByteArray), (⟨#[34]⟩ : ByteArray), (⟨#[92]⟩ : ByteArray), (⟨#[44]⟩ : ByteArray), (⟨#[120]⟩ : ByteArray)] (by omega) (by omega) (by omega) (by decide) (by decide) (by decide)
  refine ⟨r, ?_, by omega⟩
  unfold spec_DrawSplitWords.f
  exact ev_bind1 ho (ev_bind hq (ev_bind (spec_JoinWords_ev q (by omega) (fun x hx => by have := q2 x hx; omega)) (ev_bind hr (Ev.now _))))
theorem DrawJoinWords_some (l : List Int) (hw : ∀ x ∈ l, (Lit.int .u8 x).wf = true) : ∃ s, Ev (fun k => spec_DrawJoinWords.f k l) s ∧ s.length ≤ 5 ∧ ∀ x ∈ s, x.size ≤ 20 := by
  obtain ⟨b, ho, hb, hl⟩ := open_some l hw
  obtain ⟨q, p, hq, q1, q2, p1, p2⟩ := l1List_some b hb hl 0 (by omega) (by omega)
  obtain ⟨v, hv, v0, v1⟩ := pick_some b hb hl p 16 (by omega) (by omega) (by omega)
  unfold spec_DrawJoinWords.f
  by_cases e0 : v = 0
  · refine ⟨q ++ [(⟨#[10]⟩ : ByteArray)], ev_bind1 ho (ev_bind hq (ev_bind hv (ev_pos e0 (ev_pos (by dsimp only; omega) (Ev.now _))))), by simp; omega, fun x hx => ?_⟩
    rcases List.mem_append.1 hx with h | h
    · exact q2 x h
    · have : x = (⟨#[10]⟩ : ByteArray) := by simpa using h
      rw [this]; decide
  · exact ⟨q, ev_bind1 ho (ev_bind hq (ev_bind hv (ev_neg e0 (Ev.now _)))), by omega, q2⟩

end Go.Proofs.Yteibhbhlmnnfjaa.Q
