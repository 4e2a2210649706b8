/- What functions of the program come to, written by a program of this session (mwprint.py); no condition. -/
import Derived.Test.YtogmkfenplihoaaQ0
namespace Go.Proofs.Ytogmkfenplihoaa.Q
open Go.RowKit Go.Proofs.YtogmkfenplihoaaV.PrintWords Go.Proofs.YtogmkfenplihoaaV.PrintLast Go.Proofs.YtogmkfenplihoaaV.PrintMore
attribute [local go_sem] max2_int min2_int max_two min_two max_three min_three max_four min_four   -- for this text's walks alone
set_option linter.unusedVariables false
set_option linter.unusedSimpArgs false

/-! ### impl_LowerText: function 20 -/
def impl_LowerText.f (a0 : ByteArray) : Option ByteArray := if a0.size < 140737488355328 then some (lowT a0) else none
set_option maxHeartbeats 4000000 in
theorem impl_LowerText.calls (a0 : ByteArray) (r : ByteArray) (w : World) (h : impl_LowerText.f a0 = some r) :
    Calls Try.prog 20 #[.string a0] w fun e w' => e = .returned (.string r) ∧ Below w.heap.size w w' := by
  have hsz : a0.size < 140737488355328 := by
    by_cases c : a0.size < 140737488355328
    · exact c
    · rw [impl_LowerText.f, if_neg c] at h; cases h
  rw [impl_LowerText.f, if_pos hsz] at h
  obtain rfl := Option.some.inj h
  clear h
  have kb := fun W => print_bytes (P := Try.prog) 9 22 5 Try.underlying9 Try.underlying22 Try.underlying5 a0 W
  generalize hcap : grownCap w a0.size 0 5 = cap at kb
  have hst := LowRow.start w 5 a0
  go_enter Try.func20, Try.ntmps20
  go_wp2
  go_loopg [10] a0.size (fun gg v wr => ∃ i : Nat, i ≤ a0.size ∧ a0.size - i ≤ gg ∧ v = .int .i64 i ∧ Aside0 (LowRow w wr a0 i))
  case atStart => exact ⟨0, Nat.zero_le _, by omega, rfl, ⟨hst⟩⟩
  case round =>
    clear hst
    obtain ⟨i, hi, hg, rfl, HL⟩ := hrel
    by_cases c2 : i < a0.size
    · have hlt : (i : Int) < (a0.size : Int) := by omega
      have hget := HL.out.get c2
      have hfz := HL.out.2.2.2 i c2
      have hb := bt_range a0 i
      by_cases c3 : 65 ≤ bt a0 i ∧ bt a0 i ≤ 90
      · have c4 : (65 : Int) ≤ bt a0 i := c3.1
        have c5 : bt a0 i ≤ (90 : Int) := c3.2
        have hp := HL.out.put c2 (x := bt a0 i + 32) (by unfold low8; rw [if_pos c3])
        have HP := Aside0.mk hp
        clear hp HL c3
        go_wp2
        go_roundg (a0.size - (i + 1))
        case measure => omega
        case rel => exact ⟨i + 1, by omega, by omega, by go_num, HP⟩
      · have hk := HL.out.keep c2 (by unfold low8; rw [if_neg c3])
        have HP := Aside0.mk hk
        clear hk HL
        by_cases c4 : (65 : Int) ≤ bt a0 i
        · have c5 : ¬ bt a0 i ≤ (90 : Int) := fun h => c3 ⟨c4, h⟩
          clear c3
          go_wp2
          go_roundg (a0.size - (i + 1))
          case measure => omega
          case rel => exact ⟨i + 1, by omega, by omega, by go_num, HP⟩
        · clear c3
          go_wp2
          go_roundg (a0.size - (i + 1))
          case measure => omega
          case rel => exact ⟨i + 1, by omega, by omega, by go_num, HP⟩
    · have hlt : ¬ (i : Int) < (a0.size : Int) := by omega
      obtain rfl : i = a0.size := by omega
      have hbk := HL.out.back (P := Try.prog) 22 5 9 cap Try.underlying22 Try.underlying5 Try.underlying9
      have hbel := Aside0.mk HL.out.1
      clear HL
      go_wp2
      go_ret
      exact ⟨rfl, hbel.out⟩

/-! ### impl_SameText: function 10 -/
def impl_SameText.f (a0 : ByteArray) (a1 : ByteArray) : Option (Bool) := (impl_LowerText.f a0).bind fun t101 => ((impl_LowerText.f a1).bind fun t102 => (some (t101.toList == t102.toList)))
set_option maxHeartbeats 8000000 in
set_option maxRecDepth 100000 in
theorem impl_SameText.calls (a0 : ByteArray) (a1 : ByteArray) (r : Bool) (w : World) (h : impl_SameText.f a0 a1 = some r) :
    Calls Try.prog 10 #[.string a0, .string a1] w fun e w' => e = .returned (.bool r) ∧ Below w.heap.size w w' := by
  have HB := Aside0.mk (Below.refl w.heap.size w)
  have H : ((impl_LowerText.f a0).bind fun t101 => ((impl_LowerText.f a1).bind fun t102 => (some (t101.toList == t102.toList)))) = some r := h
  clear h
  replace H := Option.bind_eq_some_iff.mp H
  obtain ⟨t101, A30, H⟩ := H
  replace H : ((impl_LowerText.f a1).bind fun t102 => (some (t101.toList == t102.toList))) = some r := H
  have A3 := Aside0.mk A30
  clear A30
  replace H := Option.bind_eq_some_iff.mp H
  obtain ⟨t102, A40, H⟩ := H
  replace H : (some (t101.toList == t102.toList)) = some r := H
  have A4 := Aside0.mk A40
  clear A40
  obtain rfl := Option.some.inj H
  go_enter Try.func10, Try.ntmps10
  go_wp2_with (first | ((with_reducible refine gate_callee (f := 20) rfl ?_); refine goesL_ (some 6) rfl rfl Try.func20 (by kernel_rfl) rfl #[.string a0] rfl (by (try simp only [List.map_toArray, List.map_cons, List.map_nil]); first | done | rfl | (simp only [List.length_drop, List.length_take]; rfl)) ?_; (with_reducible refine (impl_LowerText.calls a0 t101 _ A3.out).mono ?_); rintro e w5 ⟨rfl, hb⟩; refine ⟨_, rfl, ?_⟩; have n0_ := Aside0.mk (below_step (by repeat (first | (with_reducible first | exact HB.out | apply below_alloc | apply pw_below_drewN | apply below_drew1) | exact HB.out)) hb); clear HB; have HB := n0_; clear n0_; (try clear hb); (try clear hb2); (try clear hk); (try clear hi)) | ((with_reducible refine gate_callee (f := 20) rfl ?_); refine goesL_ (some 8) rfl rfl Try.func20 (by kernel_rfl) rfl #[.string a1] rfl (by (try simp only [List.map_toArray, List.map_cons, List.map_nil]); first | done | rfl | (simp only [List.length_drop, List.length_take]; rfl)) ?_; (with_reducible refine (impl_LowerText.calls a1 t102 _ A4.out).mono ?_); rintro e w6 ⟨rfl, hb⟩; refine ⟨_, rfl, ?_⟩; have n0_ := Aside0.mk (below_step (by repeat (first | (with_reducible first | exact HB.out | apply below_alloc | apply pw_below_drewN | apply below_drew1) | exact HB.out)) hb); clear HB; have HB := n0_; clear n0_; (try clear hb); (try clear hb2); (try clear hk); (try clear hi)))
  go_ret
  exact ⟨by first | rfl | (simp [errW_none, errW_some] <;> rfl) | (simp [*, errW_none, errW_some] <;> rfl), by repeat (first | (with_reducible first | exact HB.out | apply below_alloc | apply pw_below_drewN | apply below_drew1) | exact HB.out)⟩

end Go.Proofs.Ytogmkfenplihoaa.Q
