/- What the printed functions on small letters come to; no condition. -/
import Derived.Test.YtcnkakaipajloaaDoorC1
import Derived.Test.YtcnkakaipajloaaDoorQ3
import Derived.Test.YtcnkakaipajloaaDoorQ4
set_option linter.unusedVariables false
set_option linter.unusedSimpArgs false
namespace Go.Proofs.YtcnkakaipajloaaDoor.Q
open Go.RowKit Go.Proofs.YtcnkakaipajloaaDoorV.PrintWords Go.Proofs.YtcnkakaipajloaaDoorV.PrintLast Go.Proofs.YtcnkakaipajloaaDoorV.PrintMore
/-! ## Small letters -/
theorem low8_range {x : Int} (h : 0 ≤ x ∧ x ≤ 255) : 0 ≤ low8 x ∧ low8 x ≤ 255 := by
  unfold low8; split <;> omega
theorem low8_low8 (x : Int) : low8 (low8 x) = low8 x := by
  by_cases h : 65 ≤ x ∧ x ≤ 90
  · rw [show low8 x = x + 32 from if_pos h]
    exact if_neg (by omega)
  · rw [show low8 x = x from if_neg h]
    exact if_neg h
theorem L_lowT (s : ByteArray) : bytesOf (lowT s) = (bytesOf s).map low8 := by
  unfold lowT
  refine L_S fun x hx => ?_
  obtain ⟨y, hy, rfl⟩ := List.mem_map.1 hx
  exact low8_range (L_IsB s y hy)
theorem lowT_size (s : ByteArray) : (lowT s).size = s.size := by rw [← L_len, L_lowT, List.length_map, L_len]
theorem lowT_lowT (s : ByteArray) : lowT (lowT s) = lowT s := by
  apply L_inj
  rw [L_lowT, L_lowT, List.map_map]
  exact List.map_congr_left fun x _ => low8_low8 x
theorem bt_lowT (s : ByteArray) (i : Nat) (hi : i < s.size) : bt (lowT s) i = low8 (bt s i) := by
  have h1 := bt_get (lowT s) i (by rw [lowT_size]; exact hi)
  rw [L_lowT, List.getElem?_map, bt_get s i hi] at h1
  exact (Option.some.inj h1).symm
theorem impl_LowerText_eq (s : ByteArray) (hs : s.size < 140737488355328) : impl_LowerText.f s = some (lowT s) := by rw [impl_LowerText.f, if_pos hs]
theorem spec_LowerText_eq (s : ByteArray) (hs : s.size < 140737488355328) : spec_LowerText.f s = some (lowT s) := by rw [spec_LowerText.f, if_pos hs]
theorem impl_SameText_eq (s t : ByteArray) (hs : s.size < 140737488355328) (ht : t.size < 140737488355328) : impl_SameText.f s t = some (decide (lowT s = lowT t)) := by
  rw [impl_SameText.f, impl_LowerText_eq s hs, Option.bind_some, impl_LowerText_eq t ht, Option.bind_some, toList_beq]
theorem spec_SameText_eq (s t : ByteArray) (hs : s.size < 140737488355328) (ht : t.size < 140737488355328) : spec_SameText.f s t = some (decide (lowT s = lowT t)) := by
  rw [spec_SameText.f, spec_LowerText_eq s hs, Option.bind_some, spec_LowerText_eq t ht, Option.bind_some, toList_beq]

end Go.Proofs.YtcnkakaipajloaaDoor.Q
