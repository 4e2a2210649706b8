/- An address alone is a list of one; no condition. -/
import Derived.Test.YtmehlmhpgbjddaaDoorXFnListOne
import Derived.Test.YtmehlmhpgbjddaaDoorQ0
import Derived.Test.YtmehlmhpgbjddaaDoorQ25
set_option linter.unusedVariables false
set_option linter.unusedSimpArgs false
namespace Go.Proofs.YtmehlmhpgbjddaaDoor.Pure
open Go.RowKit Go.Proofs.YtmehlmhpgbjddaaDoor.Q Go.Proofs.YtmehlmhpgbjddaaDoorV.PrintWords Go.Proofs.YtmehlmhpgbjddaaDoorV.PrintLast Go.Proofs.YtmehlmhpgbjddaaDoorV.PrintMore
theorem fmtL_one {a : Adr} (h : a.ok = true) : fmtL [a] = a.fmt := by
  have f2 := (fmt_facts (n := a.n) (lo := a.lo) (d := a.d) h).2.1
  unfold fmtL
  rw [if_pos ⟨by simp, by simp [h], by simp only [List.map_cons, List.map_nil, joinC, tailC, List.append_nil]; show (fmtA a.n a.lo a.d).length ≤ 200; omega⟩]
  simp only [List.map_cons, List.map_nil, joinC, tailC, List.append_nil]
theorem FnListOne : laws_FnListOne.Pure := by
  intro l _ _ hw
  refine Ev.rounds (g := fun k => laws_FnListOne.f k l) ?_
  obtain ⟨s, hs, h1⟩ := DrawParseAddress_some l hw
  unfold laws_FnListOne.f
  by_cases h : (l.length : Int) > 1048576
  · exact ev_pos h (Ev.now _)
  refine ev_neg h (ev_bind hs (ev_bind (impl_ParseAddress_ev s (by omega)) (ev_bind (spec_ParseAddress_ev s (by omega)) (ev_neg (by simp) (ev_neg (by simp) (ev_succ ?_))))))
  simp only [laws_FnListOne.j0]
  cases hp : parseA (bytesOf s) with
  | none =>
    simp only [outA]
    refine ev_pos (by decide) (ev_pos (by simp) (ev_of ?_))
    simp
  | some a =>
    have hok := parseA_ok hp
    have hB := ok_B hok
    obtain ⟨b1, b2, b3⟩ := hB
    have hok' : addrOk a.n a.lo a.d = true := hok
    obtain ⟨f1, f2, f3, f4, f5⟩ := fmt_facts hok'
    obtain ⟨x1, x2, x3, x4⟩ := addrOk_iff.1 hok'
    have y3 := (local_mem x3).2.1
    have y4 := (dom_mem x4).2.1
    simp only [outA]
    have hf := impl_FormatAddress_ev (strOfNums a.n) (strOfNums a.lo) (strOfNums a.d) (by rw [S_size]; omega) (by rw [S_size]; omega) (by rw [S_size]; omega)
    have hL := L_fmtS (strOfNums a.n) (strOfNums a.lo) (strOfNums a.d)
    rw [L_S b1, L_S b2, L_S b3] at hL
    have hz := fmtS_size (strOfNums a.n) (strOfNums a.lo) (strOfNums a.d)
    have hone := fmtL_one hok
    have hne : fmtL [a] ≠ [] := by
      rw [hone]
      intro e
      have : (fmtA a.n a.lo a.d) = [] := e
      rw [this] at f1
      simp at f1
    have hpl : plB (fmtS (strOfNums a.n) (strOfNums a.lo) (strOfNums a.d)) = ([unA a], true) := by
      have := parseL_fmt [a] hne
      unfold plB
      rw [hL, show fmtA a.n a.lo a.d = fmtL [a] from hone.symm, this]
      rfl
    have hp2 := impl_ParseList_ev (fmtS (strOfNums a.n) (strOfNums a.lo) (strOfNums a.d)) (by omega)
    rw [hpl] at hp2
    have hsm : smAd [unA a] := by
      intro x hx
      have e : x = unA a := by simpa using hx
      rw [e]
      refine ⟨?_, ?_, ?_⟩
      · show (strOfNums a.n).size ≤ _; rw [S_size]; omega
      · show (strOfNums a.lo).size ≤ _; rw [S_size]; omega
      · show (strOfNums a.d).size ≤ _; rw [S_size]; omega
    have hfl := impl_FormatList_ev [unA a] hsm (by simp)
    have hr : rd_T31 [unA a] 0 = unA a := rdA [unA a] 0 (by simp)
    refine ev_neg (by decide) (ev_bind hf (ev_bind hp2 (ev_pos rfl (ev_pos rfl (ev_pos (by simp) (ev_pos ?_ (ev_bind hfl (ev_bind hf (ev_of ?_)))))))))
    · rw [hr]
      simp [unA]
    · rw [toList_beq]
      refine congrArg some (decide_eq_true ?_)
      unfold fmtLS fmtS
      rw [List.map_cons, List.map_nil, adr_unA ⟨b1, b2, b3⟩, hone, L_S b1, L_S b2, L_S b3]
      rfl
end Go.Proofs.YtmehlmhpgbjddaaDoor.Pure
