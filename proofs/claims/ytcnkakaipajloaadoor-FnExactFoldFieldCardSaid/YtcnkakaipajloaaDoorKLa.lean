/- What the printed helpers of the laws on addresses and fields come to; no condition. -/
import Derived.Test.YtcnkakaipajloaaDoorC1
import Derived.Test.YtcnkakaipajloaaDoorQ15
set_option linter.unusedVariables false
set_option linter.unusedSimpArgs false
namespace Go.Proofs.YtcnkakaipajloaaDoor.Q
open Go.RowKit Go.Proofs.YtcnkakaipajloaaDoorV.PrintWords Go.Proofs.YtcnkakaipajloaaDoorV.PrintLast Go.Proofs.YtcnkakaipajloaaDoorV.PrintMore
theorem szAddress_eq (a b c : ByteArray) (n : Int) (hn : n ≤ 1048576) (h0 : 0 ≤ n) (ha : a.size ≤ 9223372036854775807) (hb : b.size ≤ 9223372036854775807) (hc : c.size ≤ 9223372036854775807) : ∃ r, laws_szAddress.f a b c n = some r ∧ r ≤ n ∧ (0 ≤ r → (a.size : Int) ≤ n ∧ (b.size : Int) ≤ n ∧ (c.size : Int) ≤ n) := by
  unfold laws_szAddress.f
  rw [wrap_id (x := n - (a.size : Int)) (by omega) (by omega)]
  by_cases h1 : n - (a.size : Int) < 0
  · rw [if_pos h1]; exact ⟨_, rfl, by omega, fun h => by omega⟩
  rw [if_neg h1, wrap_id (x := n - (a.size : Int) - (b.size : Int)) (by omega) (by omega)]
  by_cases h2 : n - (a.size : Int) - (b.size : Int) < 0
  · rw [if_pos h2]; exact ⟨_, rfl, by omega, fun h => by omega⟩
  rw [if_neg h2, wrap_id (x := n - (a.size : Int) - (b.size : Int) - (c.size : Int)) (by omega) (by omega)]
  by_cases h3 : n - (a.size : Int) - (b.size : Int) - (c.size : Int) < 0
  · rw [if_pos h3]; exact ⟨_, rfl, by omega, fun h => by omega⟩
  rw [if_neg h3]
  exact ⟨_, rfl, by omega, fun _ => by omega⟩
theorem szField_eq (a b : ByteArray) (n : Int) (hn : n ≤ 1048576) (h0 : 0 ≤ n) (ha : a.size ≤ 9223372036854775807) (hb : b.size ≤ 9223372036854775807) : ∃ r, laws_szField.f a b n = some r ∧ r ≤ n ∧ (0 ≤ r → (a.size : Int) ≤ n ∧ (b.size : Int) ≤ n) := by
  unfold laws_szField.f
  rw [wrap_id (x := n - (a.size : Int)) (by omega) (by omega)]
  by_cases h1 : n - (a.size : Int) < 0
  · rw [if_pos h1]; exact ⟨_, rfl, by omega, fun h => by omega⟩
  rw [if_neg h1, wrap_id (x := n - (a.size : Int) - (b.size : Int)) (by omega) (by omega)]
  by_cases h2 : n - (a.size : Int) - (b.size : Int) < 0
  · rw [if_pos h2]; exact ⟨_, rfl, by omega, fun h => by omega⟩
  rw [if_neg h2]
  exact ⟨_, rfl, by omega, fun _ => by omega⟩

end Go.Proofs.YtcnkakaipajloaaDoor.Q
