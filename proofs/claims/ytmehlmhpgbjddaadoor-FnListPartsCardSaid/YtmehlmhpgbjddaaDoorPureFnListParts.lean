/- The text of a list is that of its parts with commas; no condition. -/
import Derived.Test.YtmehlmhpgbjddaaDoorXFnListParts
import Derived.Test.YtmehlmhpgbjddaaDoorQ0
import Derived.Test.YtmehlmhpgbjddaaDoorQ14
set_option linter.unusedVariables false
set_option linter.unusedSimpArgs false
namespace Go.Proofs.YtmehlmhpgbjddaaDoor.Pure
open Go.RowKit Go.Proofs.YtmehlmhpgbjddaaDoor.Q Go.Proofs.YtmehlmhpgbjddaaDoorV.PrintWords Go.Proofs.YtmehlmhpgbjddaaDoorV.PrintLast Go.Proofs.YtmehlmhpgbjddaaDoorV.PrintMore
theorem ListParts_l0 (r : List S31) (hl : r.length ≤ 10) (hx : smAd r) (s : ByteArray) (hs : bytesOf s = joinC (r.map fun x => (adr x).fmt)) (ht : textOk (bytesOf s) = true) : ∀ (d i : Nat) (acc : List Int), i + d = r.length → acc.length ≤ 200 * i → (i = 0 → acc = []) → (acc ++ (if i = 0 then joinC ((r.drop i).map fun x => (adr x).fmt) else tailC ((r.drop i).map fun x => (adr x).fmt))) = bytesOf s → Ev (fun k => laws_FnListParts.l0 k r s (strOfNums acc) (i : Int)) true := by
  intro d
  induction d with
  | zero =>
    intro i acc hi ha h0 hT
    refine ev_succ ?_
    simp only [laws_FnListParts.l0]
    rw [List.drop_eq_nil_of_le (by omega)] at hT
    have e : acc = bytesOf s := by
      rw [← hT]
      split <;> simp [joinC, tailC]
    have htz := text_size ht
    have hv := impl_TextValid_ev s (by omega)
    rw [ht] at hv
    exact ev_neg (by omega) (ev_pos (by rw [e, S_L]) (ev_pos (by omega) (ev_bind hv (Ev.now _))))
  | succ d ih =>
    intro i acc hi ha h0 hT
    have hlt : i < r.length := by omega
    obtain ⟨z1, z2, z3⟩ := hx _ (List.getElem_mem hlt)
    have hfz := fmtS_size r[i].f0 r[i].f1 r[i].f2
    have hfl : (adr r[i]).fmt.length ≤ 156 := by rw [← L_fmtX, L_len]; exact hfz
    have hq : fmtS r[i].f0 r[i].f1 r[i].f2 = strOfNums ((adr r[i]).fmt) := rfl
    have hf := impl_FormatAddress_ev r[i].f0 r[i].f1 r[i].f2 z1 z2 z3
    refine ev_succ ?_
    simp only [laws_FnListParts.l0]
    rw [rdA r i hlt, wrap_succ i (by omega)]
    rw [List.drop_eq_getElem_cons hlt, List.map_cons] at hT
    refine ev_pos (by omega) ?_
    by_cases hi0 : i = 0
    · have hacc := h0 hi0
      rw [if_pos hi0, joinC] at hT
      subst hacc
      have hl0 : ([] : List Int).length = 0 := rfl
      refine ev_neg (by omega) (ev_pos (by omega) (ev_bind hf ?_))
      rw [hq, S_size, S_size, S_append, List.nil_append]
      refine ev_pos (by rw [hl0]; omega) (ih (i + 1) _ (by omega) (by omega) (by omega) ?_)
      rw [if_neg (by omega), ← hT, List.nil_append]
    · rw [if_neg hi0, tailC] at hT
      refine ev_pos (by omega) (ev_pos (by rw [S_size]; omega) (ev_pos (by omega) (ev_bind hf ?_)))
      rw [show (⟨#[44, 32]⟩ : ByteArray) = strOfNums [44, 32] from rfl, hq, S_append, S_append, S_size, S_size]
      refine ev_pos (by simp only [List.length_append, List.length_cons, List.length_nil]; omega) (ih (i + 1) _ (by omega) (by simp only [List.length_append, List.length_cons, List.length_nil]; omega) (by omega) ?_)
      rw [if_neg (by omega), ← hT]
      simp only [List.append_assoc, List.cons_append, List.nil_append]
theorem FnListParts : laws_FnListParts.Pure := by
  intro l _ _ hw
  refine Ev.rounds (g := fun k => laws_FnListParts.f k l) ?_
  obtain ⟨r, hs, h1, h2⟩ := DrawFormatList_some l hw
  unfold laws_FnListParts.f
  by_cases h : (l.length : Int) > 1048576
  · exact ev_pos h (Ev.now _)
  have hx : smAd r := fun x hx => by obtain ⟨y1, y2, y3⟩ := h2 x hx; exact ⟨by omega, by omega, by omega⟩
  have hsp := spec_FormatList_ev r hx (by omega)
  refine ev_neg h (ev_bind hs (ev_bind (impl_FormatList_ev r hx (by omega)) (ev_bind hsp (ev_pos rfl (ev_succ ?_)))))
  simp only [laws_FnListParts.j0]
  by_cases hn : fmtL (r.map adr) = []
  · refine ev_pos (by rw [beq_iff_eq, nilB, L_fmtLS]; exact hn) (ev_bind hsp (ev_of ?_))
    simp
  · refine ev_neg (by rw [beq_iff_eq, nilB, L_fmtLS]; exact hn) ?_
    obtain ⟨g1, g2, g3, g4, g5⟩ := fmtL_cases _ hn
    rw [List.map_map] at g4
    have e : bytesOf (fmtLS r) = joinC (r.map fun x => (adr x).fmt) := by rw [L_fmtLS, g4]; rfl
    refine ListParts_l0 r (by omega) hx (fmtLS r) e (by rw [L_fmtLS]; exact fmtL_text _) r.length 0 [] (by omega) (by simp) (fun _ => rfl) ?_
    rw [if_pos rfl, List.drop_zero, List.nil_append, e]
end Go.Proofs.YtmehlmhpgbjddaaDoor.Pure
