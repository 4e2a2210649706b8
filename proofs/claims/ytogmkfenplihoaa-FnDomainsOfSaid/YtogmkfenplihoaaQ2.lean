/- What functions of the program come to, written by a program of this session (mwprint.py); no condition. -/
import Derived.Test.YtogmkfenplihoaaQ0
namespace Go.Proofs.Ytogmkfenplihoaa.Q
open Go.RowKit Go.Proofs.YtogmkfenplihoaaV.PrintWords Go.Proofs.YtogmkfenplihoaaV.PrintLast Go.Proofs.YtogmkfenplihoaaV.PrintMore
attribute [local go_sem] max2_int min2_int max_two min_two max_three min_three max_four min_four   -- for this text's walks alone
set_option linter.unusedVariables false
set_option linter.unusedSimpArgs false

/-! ### spec_LowerText: function 23 -/
def spec_LowerText.f (a0 : ByteArray) : Option ByteArray := if a0.size < 140737488355328 then some (lowT a0) else none
set_option maxHeartbeats 4000000 in
theorem spec_LowerText.calls (a0 : ByteArray) (r : ByteArray) (w : World) (h : spec_LowerText.f a0 = some r) :
    Calls Try.prog 23 #[.string a0] w fun e w' => e = .returned (.string r) ∧ Below w.heap.size w w' := by
  have hsz : a0.size < 140737488355328 := by
    by_cases c : a0.size < 140737488355328
    · exact c
    · rw [spec_LowerText.f, if_neg c] at h; cases h
  rw [spec_LowerText.f, if_pos hsz] at h
  obtain rfl := Option.some.inj h
  clear h
  have kb := fun W => print_bytes (P := Try.prog) 9 22 5 Try.underlying9 Try.underlying22 Try.underlying5 a0 W
  generalize hcap : grownCap w a0.size 0 5 = cap at kb
  have hst := LowRow.start w 5 a0
  go_enter Try.func23, Try.ntmps23
  go_wp2
  go_loopg [4] a0.size (fun gg v wr => ∃ i : Nat, i ≤ a0.size ∧ a0.size - i ≤ gg ∧ v = .int .i64 i ∧ Aside0 (LowRow w wr a0 i))
  case atStart => exact ⟨0, Nat.zero_le _, by omega, rfl, ⟨hst⟩⟩
  case round =>
    clear hst
    obtain ⟨i, hi, hg, rfl, HL⟩ := hrel
    by_cases c2 : i < a0.size
    · have hlt : (i : Int) < (a0.size : Int) := by omega
      have hget := HL.out.get c2
      have hfz := HL.out.2.2.2 i c2
      have hb := bt_range a0 i
      by_cases c3 : 65 ≤ bt a0 i ∧ bt a0 i ≤ 90
      · have c4 : (65 : Int) ≤ bt a0 i := c3.1
        have c5 : bt a0 i ≤ (90 : Int) := c3.2
        have hp := HL.out.put c2 (x := bt a0 i + 32) (by unfold low8; rw [if_pos c3])
        have HP := Aside0.mk hp
        clear hp HL c3
        go_wp2
        go_roundg (a0.size - (i + 1))
        case measure => omega
        case rel => exact ⟨i + 1, by omega, by omega, by go_num, HP⟩
      · have hk := HL.out.keep c2 (by unfold low8; rw [if_neg c3])
        have HP := Aside0.mk hk
        clear hk HL
        by_cases c4 : (65 : Int) ≤ bt a0 i
        · have c5 : ¬ bt a0 i ≤ (90 : Int) := fun h => c3 ⟨c4, h⟩
          clear c3
          go_wp2
          go_roundg (a0.size - (i + 1))
          case measure => omega
          case rel => exact ⟨i + 1, by omega, by omega, by go_num, HP⟩
        · clear c3
          go_wp2
          go_roundg (a0.size - (i + 1))
          case measure => omega
          case rel => exact ⟨i + 1, by omega, by omega, by go_num, HP⟩
    · have hlt : ¬ (i : Int) < (a0.size : Int) := by omega
      obtain rfl : i = a0.size := by omega
      have hbk := HL.out.back (P := Try.prog) 22 5 9 cap Try.underlying22 Try.underlying5 Try.underlying9
      have hbel := Aside0.mk HL.out.1
      clear HL
      go_wp2
      go_ret
      exact ⟨rfl, hbel.out⟩

end Go.Proofs.Ytogmkfenplihoaa.Q
