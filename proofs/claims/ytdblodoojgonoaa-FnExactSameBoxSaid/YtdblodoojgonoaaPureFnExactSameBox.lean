/- The program's SameBox gives what the reference's gives, for any two addresses; no condition. -/
import Derived.Test.YtdblodoojgonoaaK2s
import Derived.Test.YtdblodoojgonoaaKLa
import Derived.Test.YtdblodoojgonoaaRO
import Derived.Test.YtdblodoojgonoaaQ13
import Derived.Test.YtdblodoojgonoaaQ8
set_option linter.unusedVariables false
set_option linter.unusedSimpArgs false
namespace Go.Proofs.Ytdblodoojgonoaa.Pure
open Go.RowKit Go.Proofs.Ytdblodoojgonoaa.Q Go.Proofs.YtdblodoojgonoaaW.PrintWords Go.Proofs.YtdblodoojgonoaaW.PrintLast Go.Proofs.YtdblodoojgonoaaW.PrintMore
theorem FnExactSameBox (a b c d e f : ByteArray) (ha : a.size ≤ 9223372036854775807) (hb : b.size ≤ 9223372036854775807) (hc : c.size ≤ 9223372036854775807) (hd : d.size ≤ 9223372036854775807) (he : e.size ≤ 9223372036854775807) (hf : f.size ≤ 9223372036854775807) :
    laws_FnExactSameBox.f a b c d e f = some true := by
  unfold laws_FnExactSameBox.f
  obtain ⟨r, e1, h1, h2⟩ := szAddress_eq a b c 1048576 (by omega) (by omega) ha hb hc
  rw [e1, Option.bind_some]
  by_cases h3 : r < 0
  · rw [if_pos h3]
  rw [if_neg h3]
  obtain ⟨r', e2, h4, h5⟩ := szAddress_eq d e f r (by omega) (by omega) hd he hf
  rw [e2, Option.bind_some]
  by_cases h6 : r' < 0
  · rw [if_pos h6]
  rw [if_neg h6]
  have g1 := h2 (by omega)
  have g2 := h5 (by omega)
  simp only [laws_toAddress.f, Option.bind_some]
  rw [spec_SameBox_eq a b c d e f (by omega) (by omega), impl_SameBox_eq a b c d e f (by omega) (by omega)]
  simp only [Option.bind_some, bne_self_eq_false, Bool.false_eq_true, if_false]
end Go.Proofs.Ytdblodoojgonoaa.Pure
