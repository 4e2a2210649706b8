/- Plain lemmas that open a row's structs and lists of structs and of strings; no condition. -/
import Derived.Test.YtmehlmhpgbjddaaDoorQH
import Derived.Lib.SmallJoins
import Derived.SliceStrings
import Derived.Deep.Slices
import Derived.Deep.Fields
set_option linter.unusedVariables false
set_option linter.unusedSimpArgs false
namespace Go.Proofs.YtmehlmhpgbjddaaDoor.Q
open Go.RowKit Go.Proofs.YtmehlmhpgbjddaaDoorV.PrintWords Go.Proofs.YtmehlmhpgbjddaaDoorV.PrintLast Go.Proofs.YtmehlmhpgbjddaaDoorV.PrintMore
theorem ro_add (x : Addr) (m n : Nat) : (x.add m).add n = x.add (m + n) := by
  unfold Addr.add
  by_cases hm : m = 0
  · subst hm; simp
  · by_cases hn : n = 0
    · subst hn; simp [hm]
    · simp [hm, hn, Nat.add_assoc]
open Go.ChangeShapes Go.WideShapes Go.Deep in
section
variable {H : Type} {enc : TypeId × Value → H} {P : Program} {w : World} {base : Nat} {held : Bool}
theorem ro_str {t : TypeId} {n : Nat} {spare : Nat → Bool} {v : Value} {y : DataW H × List MemPlace} (hu : P.underlying t = some .string) (h : DataW.trod enc P w base spare held n t [v] = some y) : ∃ s : ByteArray, v = .string s ∧ s.size ≤ 9223372036854775807 := by
  obtain ⟨s, e, _, hs⟩ := DataW.trod_string hu h
  exact ⟨s, by simpa using e, by simpa [maxLen] using hs⟩
theorem ro_agg2 {r : Reach} {b0 : Nat} {t : TypeId} {f0 f1 : Field} {v : Value} {d : DataW H} {spare : Nat → Bool} {p : List MemPlace} (hs : P.underlying t = some (.struct #[f0, f1])) (hone : oneCellFields P #[f0, f1] = true) (hC : P.cellsOf t = 2)
    (h0 : P.underlying f0.type = some .string) (h1 : P.underlying f1.type = some .string) (hv : Value.okWide P w r b0 t v) (h : DataW.Trod enc P w base spare held t v d p) :
    ∃ s0 s1 : ByteArray, v = .agg #[.string s0, .string s1] ∧ s0.size ≤ 9223372036854775807 ∧ s1.size ≤ 9223372036854775807 := by
  obtain ⟨v0, v1, y0, y1, n, rfl, _, _, g0, g1⟩ := Go.Joins.open_agg2 hs hone hC hv h
  obtain ⟨s0, rfl, z0⟩ := ro_str h0 g0
  obtain ⟨s1, rfl, z1⟩ := ro_str h1 g1
  exact ⟨s0, s1, rfl, z0, z1⟩
theorem ro_agg3 {r : Reach} {b0 : Nat} {t : TypeId} {f0 f1 f2 : Field} {v : Value} {d : DataW H} {spare : Nat → Bool} {p : List MemPlace} (hs : P.underlying t = some (.struct #[f0, f1, f2])) (hone : oneCellFields P #[f0, f1, f2] = true) (hC : P.cellsOf t = 3)
    (h0 : P.underlying f0.type = some .string) (h1 : P.underlying f1.type = some .string) (h2 : P.underlying f2.type = some .string) (hv : Value.okWide P w r b0 t v) (h : DataW.Trod enc P w base spare held t v d p) :
    ∃ s0 s1 s2 : ByteArray, v = .agg #[.string s0, .string s1, .string s2] ∧ s0.size ≤ 9223372036854775807 ∧ s1.size ≤ 9223372036854775807 ∧ s2.size ≤ 9223372036854775807 := by
  obtain ⟨v0, v1, v2, y0, y1, y2, n, rfl, _, _, g0, g1, g2⟩ := Go.Joins.open_agg3 hs hone hC hv h
  obtain ⟨s0, rfl, z0⟩ := ro_str h0 g0
  obtain ⟨s1, rfl, z1⟩ := ro_str h1 g1
  obtain ⟨s2, rfl, z2⟩ := ro_str h2 g2
  exact ⟨s0, s1, s2, rfl, z0, z1, z2⟩
theorem ro_strings {t e : TypeId} {a : Option Addr} {len cap : Nat} {d : DataW H} {p : List MemPlace} (ht : P.underlying t = some (.slice e)) (he : P.underlying e = some .string) (hc : P.cellsOf e = 1)
    (h : DataW.Trod enc P w base (fun _ => true) held t (.slice a len cap) d p) :
    ∃ l : List ByteArray, l.length = len ∧ len ≤ cap ∧ l.length ≤ 9223372036854775807 ∧ (∀ x ∈ l, x.size ≤ 9223372036854775807) ∧ Kd.C Kd.string w a l.length l := by
  obtain ⟨fuel, hf⟩ := h
  rcases open_strings ht he hc hf with ⟨hcs, _⟩ | ⟨x, l, c, ss, hcs, _, hl, hm, hz, _, hcell, hw⟩
  · simp [Value.cells] at hcs
    obtain ⟨rfl, rfl, rfl⟩ := hcs
    exact ⟨[], rfl, Nat.le_refl 0, by simp, by simp, rfl, by simp, fun hn => absurd hn (by simp)⟩
  · simp [Value.cells] at hcs
    obtain ⟨rfl, rfl, rfl⟩ := hcs
    simp only [if_true] at hz
    have hcm : cap ≤ 9223372036854775807 := by simpa [maxLen] using hm
    have hlen : (ss.take len).length = len := by rw [List.length_take]; omega
    refine ⟨ss.take len, hlen, hl, by omega, fun y hy => by simpa [maxLen] using hw y (List.mem_of_mem_take hy), rfl, by omega, fun hn => ⟨x, rfl, fun j q hj => ⟨[.string q], rfl, rfl, fun i u hu => ?_⟩⟩⟩
    cases i with
    | succ i => simp at hu
    | zero =>
      simp only [List.getElem?_cons_zero, Option.some.injEq] at hu
      subst hu
      obtain ⟨hj1, hj2⟩ := List.getElem?_eq_some_iff.1 hj
      have := hcell j (by rw [hlen] at hj1; omega)
      rw [List.getElem_take] at hj2
      rw [List.getD_eq_getElem?_getD, List.getElem?_eq_getElem (by rw [hlen] at hj1; omega), hj2] at this
      show w.cell? (x.add (j * 1 + 0)) = _
      rw [Nat.mul_one, Nat.add_zero]
      exact this
theorem ro_slice2 {t e : TypeId} {f0 f1 : Field} {a : Option Addr} {len cap : Nat} {d : DataW H} {p : List MemPlace} (ht : P.underlying t = some (.slice e)) (hs : P.underlying e = some (.struct #[f0, f1])) (hone : oneCellFields P #[f0, f1] = true) (hC : P.cellsOf e = 2)
    (h0 : P.underlying f0.type = some .string) (h1 : P.underlying f1.type = some .string) (h : DataW.Trod enc P w base (fun _ => true) held t (.slice a len cap) d p) :
    ∃ L : List (ByteArray × ByteArray), L.length = len ∧ len ≤ cap ∧ len ≤ 9223372036854775807 ∧ (∀ x ∈ L, x.1.size ≤ 9223372036854775807 ∧ x.2.size ≤ 9223372036854775807) ∧
      (0 < len → ∃ ad, a = some ad ∧ ∀ j q, L[j]? = some q → w.cell? (ad.add (j * 2 + 0)) = some (.string q.1) ∧ w.cell? (ad.add (j * 2 + 1)) = some (.string q.2)) := by
  obtain ⟨fuel, hf⟩ := h
  rcases open_slice ht hf with ⟨hcs, _⟩ | ⟨x, l, c, m, n, D, Pl, hcs, _, hl, hm, hmm, _, hx⟩
  · simp [Value.cells] at hcs
    obtain ⟨rfl, rfl, rfl⟩ := hcs
    exact ⟨[], rfl, Nat.le_refl 0, by simp, by simp, fun hn => absurd hn (by simp)⟩
  · simp [Value.cells] at hcs
    obtain ⟨rfl, rfl, rfl⟩ := hcs
    simp only [if_true] at hmm
    have hcm : cap ≤ 9223372036854775807 := by simpa [maxLen] using hm
    have o0 := hone_of hone 0 f0 rfl
    have o1 := hone_of hone 1 f1 rfl
    obtain ⟨V, hV⟩ := choose_lt (α := ByteArray × ByteArray) (n := len) (p := fun i q => (q.1.size ≤ 9223372036854775807 ∧ q.2.size ≤ 9223372036854775807) ∧ w.cell? (x.add (i * 2 + 0)) = some (.string q.1) ∧ w.cell? (x.add (i * 2 + 1)) = some (.string q.2)) (fun i hi => by
      obtain ⟨cs', c1, c2⟩ := hx i (by omega)
      obtain ⟨xs, n', _, _, hl', hlen, hfs⟩ := DataW.trod_struct hs c2
      rw [hC] at c1 hl'
      obtain ⟨_, _, hcell⟩ := World.cells?_some c1
      match cs', hl' with
      | [v0, v1], _ =>
        have g0 := hfs 0 f0 rfl
        have g1 := hfs 1 f1 rfl
        rw [o0.1, o0.2] at g0
        rw [o1.1, o1.2] at g1
        simp only [List.drop_zero, List.drop_succ_cons, List.take_succ_cons, List.take_zero] at g0 g1
        rw [List.getElem?_eq_getElem (by rw [hlen]; simp)] at g0 g1
        obtain ⟨s0, rfl, z0⟩ := ro_str h0 g0
        obtain ⟨s1, rfl, z1⟩ := ro_str h1 g1
        exact ⟨(s0, s1), ⟨z0, z1⟩, by have := hcell 0 (by decide); rw [ro_add] at this; exact this, by have := hcell 1 (by decide); rw [ro_add] at this; exact this⟩)
    refine ⟨(List.range len).map V, by simp, hl, by omega, fun y hy => ?_, fun _ => ⟨x, rfl, fun j q hj => ?_⟩⟩
    · obtain ⟨i, hi, rfl⟩ := List.mem_map.1 hy
      exact (hV i (List.mem_range.1 hi)).1
    · have hj1 : j < len := by simpa using (List.getElem?_eq_some_iff.1 hj).1
      have hj2 : V j = q := by simpa using (List.getElem?_eq_some_iff.1 hj).2
      subst hj2
      exact (hV j hj1).2
theorem ro_slice3 {t e : TypeId} {f0 f1 f2 : Field} {a : Option Addr} {len cap : Nat} {d : DataW H} {p : List MemPlace} (ht : P.underlying t = some (.slice e)) (hs : P.underlying e = some (.struct #[f0, f1, f2])) (hone : oneCellFields P #[f0, f1, f2] = true) (hC : P.cellsOf e = 3)
    (h0 : P.underlying f0.type = some .string) (h1 : P.underlying f1.type = some .string) (h2 : P.underlying f2.type = some .string) (h : DataW.Trod enc P w base (fun _ => true) held t (.slice a len cap) d p) :
    ∃ L : List (ByteArray × ByteArray × ByteArray), L.length = len ∧ len ≤ cap ∧ len ≤ 9223372036854775807 ∧ (∀ x ∈ L, x.1.size ≤ 9223372036854775807 ∧ x.2.1.size ≤ 9223372036854775807 ∧ x.2.2.size ≤ 9223372036854775807) ∧
      (0 < len → ∃ ad, a = some ad ∧ ∀ j q, L[j]? = some q → w.cell? (ad.add (j * 3 + 0)) = some (.string q.1) ∧ w.cell? (ad.add (j * 3 + 1)) = some (.string q.2.1) ∧ w.cell? (ad.add (j * 3 + 2)) = some (.string q.2.2)) := by
  obtain ⟨fuel, hf⟩ := h
  rcases open_slice ht hf with ⟨hcs, _⟩ | ⟨x, l, c, m, n, D, Pl, hcs, _, hl, hm, hmm, _, hx⟩
  · simp [Value.cells] at hcs
    obtain ⟨rfl, rfl, rfl⟩ := hcs
    exact ⟨[], rfl, Nat.le_refl 0, by simp, by simp, fun hn => absurd hn (by simp)⟩
  · simp [Value.cells] at hcs
    obtain ⟨rfl, rfl, rfl⟩ := hcs
    simp only [if_true] at hmm
    have hcm : cap ≤ 9223372036854775807 := by simpa [maxLen] using hm
    have o0 := hone_of hone 0 f0 rfl
    have o1 := hone_of hone 1 f1 rfl
    have o2 := hone_of hone 2 f2 rfl
    obtain ⟨V, hV⟩ := choose_lt (α := ByteArray × ByteArray × ByteArray) (n := len) (p := fun i q => (q.1.size ≤ 9223372036854775807 ∧ q.2.1.size ≤ 9223372036854775807 ∧ q.2.2.size ≤ 9223372036854775807) ∧ w.cell? (x.add (i * 3 + 0)) = some (.string q.1) ∧ w.cell? (x.add (i * 3 + 1)) = some (.string q.2.1) ∧ w.cell? (x.add (i * 3 + 2)) = some (.string q.2.2)) (fun i hi => by
      obtain ⟨cs', c1, c2⟩ := hx i (by omega)
      obtain ⟨xs, n', _, _, hl', hlen, hfs⟩ := DataW.trod_struct hs c2
      rw [hC] at c1 hl'
      obtain ⟨_, _, hcell⟩ := World.cells?_some c1
      match cs', hl' with
      | [v0, v1, v2], _ =>
        have g0 := hfs 0 f0 rfl
        have g1 := hfs 1 f1 rfl
        have g2 := hfs 2 f2 rfl
        rw [o0.1, o0.2] at g0
        rw [o1.1, o1.2] at g1
        rw [o2.1, o2.2] at g2
        simp only [List.drop_zero, List.drop_succ_cons, List.take_succ_cons, List.take_zero] at g0 g1 g2
        rw [List.getElem?_eq_getElem (by rw [hlen]; simp)] at g0 g1 g2
        obtain ⟨s0, rfl, z0⟩ := ro_str h0 g0
        obtain ⟨s1, rfl, z1⟩ := ro_str h1 g1
        obtain ⟨s2, rfl, z2⟩ := ro_str h2 g2
        exact ⟨(s0, s1, s2), ⟨z0, z1, z2⟩, by have := hcell 0 (by decide); rw [ro_add] at this; exact this, by have := hcell 1 (by decide); rw [ro_add] at this; exact this, by have := hcell 2 (by decide); rw [ro_add] at this; exact this⟩)
    refine ⟨(List.range len).map V, by simp, hl, by omega, fun y hy => ?_, fun _ => ⟨x, rfl, fun j q hj => ?_⟩⟩
    · obtain ⟨i, hi, rfl⟩ := List.mem_map.1 hy
      exact (hV i (List.mem_range.1 hi)).1
    · have hj1 : j < len := by simpa using (List.getElem?_eq_some_iff.1 hj).1
      have hj2 : V j = q := by simpa using (List.getElem?_eq_some_iff.1 hj).2
      subst hj2
      exact (hV j hj1).2
end

end Go.Proofs.YtmehlmhpgbjddaaDoor.Q
