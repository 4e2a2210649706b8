/- What the printed draws of texts come to; no condition. -/
import Derived.Test.YtcnkakaipajloaaDoorC1
import Derived.Test.YtcnkakaipajloaaDoorQ5
set_option linter.unusedVariables false
set_option linter.unusedSimpArgs false
namespace Go.Proofs.YtcnkakaipajloaaDoor.Q
open Go.RowKit Go.Proofs.YtcnkakaipajloaaDoorV.PrintWords Go.Proofs.YtcnkakaipajloaaDoorV.PrintLast Go.Proofs.YtcnkakaipajloaaDoorV.PrintMore
/-! ## Draws: each comes to something small -/
theorem ev_k1 {α : Type} {g : Nat → Option α} {r : α} (h : ∀ k, g (k + 1) = some r) : Ev g r := by
  refine ⟨1, fun k hk => ?_⟩
  obtain ⟨m, rfl⟩ : ∃ m, k = m + 1 := ⟨k - 1, by omega⟩
  exact h m
theorem rd_range (b : List Int) (hb : IsB b) (i : Int) : 0 ≤ rd b i ∧ rd b i ≤ 255 := by
  unfold rd
  rw [List.getD_eq_getElem?_getD]
  cases h : b[i.toNat]? with
  | none => exact ⟨by decide, by decide⟩
  | some x => exact hb x (List.mem_of_getElem? h)
theorem pick_some (b : List Int) (hb : IsB b) (hl : b.length ≤ 2000) (p n : Int) (hp0 : 0 ≤ p) (hp1 : p ≤ 1000000) (hn : n ≤ 1000000) :
    ∃ v, Ev (fun k => spec_l13Rd_pick.f k b p n) (v, p + 1) ∧ 0 ≤ v ∧ (1 ≤ n → v < n) := by
  have e1 : wrap64 (p + 1) = p + 1 := wrap_id (by omega) (by omega)
  have e2 : wrap64 (p + 1 - 1) = p := by rw [wrap_id (by omega) (by omega)]; omega
  by_cases hn1 : n < 1
  · refine ⟨0, ev_k1 fun k => ?_, by omega, fun h => by omega⟩
    unfold spec_l13Rd_pick.f
    rw [if_pos hn1, e1]
    simp only [spec_l13Rd_pick.j0, if_true]
  · by_cases hz : b.length = 0
    · refine ⟨0, ev_k1 fun k => ?_, by omega, fun h => by omega⟩
      unfold spec_l13Rd_pick.f
      rw [if_neg hn1, e1, show ((b.length : Int) == 0) = true from beq_iff_eq.2 (by omega)]
      simp only [spec_l13Rd_pick.j0, if_true]
    · have hz' : ((b.length : Int) == 0) = false := beq_eq_false_iff_ne.2 (by omega)
      by_cases hlt : p < (b.length : Int)
      · have hr := rd_range b hb p
        refine ⟨Int.tmod (rd b p) n, ev_k1 fun k => ?_, Int.tmod_nonneg _ hr.1, fun _ => Int.tmod_lt_of_pos _ (by omega)⟩
        unfold spec_l13Rd_pick.f
        rw [if_neg hn1, e1, hz']
        simp only [spec_l13Rd_pick.j0, Bool.false_eq_true, if_false]
        rw [e2, if_pos hlt, if_pos hp0, if_neg (by omega), wrap_id (x := rd b p) (by omega) (by omega)]
      · have h1 : 0 ≤ Int.tmod p b.length := Int.tmod_nonneg _ hp0
        have h2 : Int.tmod p b.length < b.length := Int.tmod_lt_of_pos _ (by omega)
        have e3 : wrap64 (wrap64 (p * 7) + 3) = p * 7 + 3 := by rw [wrap_id (x := p * 7) (by omega) (by omega), wrap_id (by omega) (by omega)]
        have h3 : 0 ≤ Int.tmod (p * 7 + 3) b.length := Int.tmod_nonneg _ (by omega)
        have h4 : Int.tmod (p * 7 + 3) b.length < b.length := Int.tmod_lt_of_pos _ (by omega)
        have r1 := rd_range b hb (Int.tmod p b.length)
        have r2 := rd_range b hb (Int.tmod (p * 7 + 3) b.length)
        have q1 : 0 ≤ Int.tdiv p b.length := Int.tdiv_nonneg hp0 (by omega)
        have q2 : Int.tdiv p b.length ≤ p := by
          rw [Int.tdiv_eq_ediv_of_nonneg hp0]
          exact Int.ediv_le_self _ hp0
        obtain ⟨x, hx, x0, x1⟩ : ∃ x, wrap64 (wrap64 (wrap64 (wrap64 (wrap64 (rd b (Int.tmod p b.length)) * 131) + wrap64 (wrap64 (rd b (Int.tmod (p * 7 + 3) b.length)) * 1117)) + wrap64 (p * 29)) + wrap64 (wrap64 (Int.tdiv p b.length) * 53)) = x ∧ 0 ≤ x ∧ x < 4611686018427387904 := by
          generalize rd b (Int.tmod p b.length) = a1 at r1
          generalize rd b (Int.tmod (p * 7 + 3) b.length) = a2 at r2
          generalize Int.tdiv p b.length = a3 at q1 q2
          refine ⟨a1 * 131 + a2 * 1117 + p * 29 + a3 * 53, ?_, by omega, by omega⟩
          rw [wrap_id (x := a1) (by omega) (by omega), wrap_id (x := a2) (by omega) (by omega), wrap_id (x := a3) (by omega) (by omega), wrap_id (x := a1 * 131) (by omega) (by omega), wrap_id (x := a2 * 1117) (by omega) (by omega), wrap_id (x := p * 29) (by omega) (by omega), wrap_id (x := a3 * 53) (by omega) (by omega), wrap_id (x := a1 * 131 + a2 * 1117) (by omega) (by omega), wrap_id (x := a1 * 131 + a2 * 1117 + p * 29) (by omega) (by omega), wrap_id (by omega) (by omega)]
        refine ⟨Int.tmod (bits .xor .i64 x (wrap64 (Int.tdiv x 64))) n, ev_k1 fun k => ?_, Int.tmod_nonneg _ (xor_nonneg x x0 x1), fun _ => Int.tmod_lt_of_pos _ (by omega)⟩
        unfold spec_l13Rd_pick.f
        rw [if_neg hn1, e1, hz']
        simp only [spec_l13Rd_pick.j0, Bool.false_eq_true, if_false]
        rw [e2, if_neg hlt, if_neg (by omega), if_pos h1, if_pos h2, e3, if_pos h3, if_pos h4, if_neg (by omega), hx]
theorem of_some (b : List Int) (hb : IsB b) (hl : b.length ≤ 2000) (p : Int) (l : List ByteArray) (hp0 : 0 ≤ p) (hp1 : p ≤ 1000000) (hn : l.length ≤ 1000000) (h0 : 0 < l.length) :
    ∃ v, Ev (fun k => spec_l13Rd_of.f k b p l) (v, p + 1) ∧ v ∈ l := by
  obtain ⟨v, hv, v0, v1⟩ := pick_some b hb hl p l.length hp0 hp1 (by omega)
  have v1 := v1 (by omega)
  have hlt : v.toNat < l.length := by omega
  refine ⟨l[v.toNat], ?_, List.getElem_mem hlt⟩
  unfold spec_l13Rd_of.f
  refine ev_bind hv ?_
  refine ev_pos v0 (ev_pos v1 (ev_of ?_))
  rw [rdOf, List.getD_eq_getElem?_getD, List.getElem?_eq_getElem hlt]
  rfl
theorem open_some (l : List Int) (hw : ∀ x ∈ l, (Lit.int .u8 x).wf = true) : ∃ b, spec_l13Open.f l = some (b, 0) ∧ IsB b ∧ b.length ≤ 2000 := by
  have hB : IsB l := by
    intro x hx
    have := hw x hx
    simp only [Lit.wf, IntKind.min, IntKind.max, IntKind.signed, IntKind.bits, Bool.and_eq_true, decide_eq_true_eq] at this
    simp at this
    omega
  unfold spec_l13Open.f
  by_cases h : (l.length : Int) > 2000
  · rw [if_pos h, if_pos (by omega)]
    exact ⟨_, rfl, hB.take 2000, by rw [List.length_take]; omega⟩
  · rw [if_neg h]
    exact ⟨_, rfl, hB, by omega⟩

end Go.Proofs.YtcnkakaipajloaaDoor.Q
