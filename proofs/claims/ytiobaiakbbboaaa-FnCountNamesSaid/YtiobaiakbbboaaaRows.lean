/-
  No cell of these rows narrows 'for every input' (looked for: loops, veiled, ifaces, maps, wideKeys, modest, calm, conditions, laid).
  DERIVED. THE GIVEN ROWS OF THIS SEAT. 12 by the template 'for every input the law returns true; each argument reads behind the call as it read before'; 0 by the template 'total and deterministic' (their statements: YtiobaiakbbboaaaTotals.lean).
  GIVEN WITH THE SEED: the statements are not yours to turn. If you find one false, say at which input.
  Laid BY PROGRAM, IN A SANDBOX (cutbox-rows.mjs): the forced cells as the released guide's own fill.sh prints them over the translation fe4b3a223dd80473… (all of the seat's roots in one cut). By AI agents, Wed Nov 11 2026. No macro, syntax, notation, axiom, sorry.
-/
import Derived.Test.YtiobaiakbbboaaaChecked
import GoSem.Claim
import GoSem.ClaimJoined
import GoSem.ClaimMapViews
import Derived.JoinedTies
import Derived.KernelRfl
namespace Go.Proofs.Ytiobaiakbbboaaa
/- THE CELL 'sum', in the pinned program and in every row, IS THE sha256 OF THE DUMP (.gsa) THAT YtiobaiakbbboaaaProg.lean LOADS. Nothing in Lean hashes anything: it is a label: what it is worth is what the hold of that sum in a sandbox is worth. -/
noncomputable def Try.pinned : Pinned := { name := "ytiobaiakbbboaaa", sum := "fe4b3a223dd8047324279ff91bbe22d53cf0a3b5c8f8312542772bafab9cd34d", checked := Try.checked }
namespace Rows
def none {H : Type} : Left H := { results := [], args := [] }

/-- 'laws.FnFieldsSame': WHATEVER THE INPUT: true; the input reads as it did. -/
def fnFieldsSameSpec : ChangeSpec := { name := "fnFieldsSame", fn := fun _ => fun
  | [d] => { results := [.lit (.bool true)], args := [d] }
  | _ => none }
def fnFieldsSameRow : OpenClaim := { program := "ytiobaiakbbboaaa", sum := "fe4b3a223dd8047324279ff91bbe22d53cf0a3b5c8f8312542772bafab9cd34d", func := "loop.example/mailwire/laws.FnFieldsSame", spec := "fnFieldsSame", apart := false }
def FnFieldsSameSaid : Prop := fnFieldsSameRow.holds Try.pinned (OpenSpec.ofChange fnFieldsSameSpec)

/-- ITS FALSE NEIGHBOUR: 'it returns false'. Refute it at one input. -/
def fnFieldsSameWrong : ChangeSpec := { name := "fnFieldsSame", fn := fun _ => fun
  | [d] => { results := [.lit (.bool false)], args := [d] }
  | _ => none }
def FnFieldsSameWrongFalsely : Prop := fnFieldsSameRow.holds Try.pinned (OpenSpec.ofChange fnFieldsSameWrong)

/-- 'laws.FnExactFieldsSame': WHATEVER THE INPUT: true; the input reads as it did. -/
def fnExactFieldsSameSpec : ChangeSpec := { name := "fnExactFieldsSame", fn := fun _ => fun
  | [d1, d2] => { results := [.lit (.bool true)], args := [d1, d2] }
  | _ => none }
def fnExactFieldsSameRow : OpenClaim := { program := "ytiobaiakbbboaaa", sum := "fe4b3a223dd8047324279ff91bbe22d53cf0a3b5c8f8312542772bafab9cd34d", func := "loop.example/mailwire/laws.FnExactFieldsSame", spec := "fnExactFieldsSame", apart := false }
def FnExactFieldsSameSaid : Prop := fnExactFieldsSameRow.holds Try.pinned (OpenSpec.ofChange fnExactFieldsSameSpec)

/-- ITS FALSE NEIGHBOUR: 'it returns false'. Refute it at one input. -/
def fnExactFieldsSameWrong : ChangeSpec := { name := "fnExactFieldsSame", fn := fun _ => fun
  | [d1, d2] => { results := [.lit (.bool false)], args := [d1, d2] }
  | _ => none }
def FnExactFieldsSameWrongFalsely : Prop := fnExactFieldsSameRow.holds Try.pinned (OpenSpec.ofChange fnExactFieldsSameWrong)

/-- 'laws.FnExactGetField': WHATEVER THE INPUT: true; the input reads as it did. -/
def fnExactGetFieldSpec : ChangeSpec := { name := "fnExactGetField", fn := fun _ => fun
  | [d1, d2] => { results := [.lit (.bool true)], args := [d1, d2] }
  | _ => none }
def fnExactGetFieldRow : OpenClaim := { program := "ytiobaiakbbboaaa", sum := "fe4b3a223dd8047324279ff91bbe22d53cf0a3b5c8f8312542772bafab9cd34d", func := "loop.example/mailwire/laws.FnExactGetField", spec := "fnExactGetField", unfollowed := true, recurses := true, apart := false }
def FnExactGetFieldSaid : Prop := fnExactGetFieldRow.holds Try.pinned (OpenSpec.ofChange fnExactGetFieldSpec)

/-- ITS FALSE NEIGHBOUR: 'it returns false'. Refute it at one input. -/
def fnExactGetFieldWrong : ChangeSpec := { name := "fnExactGetField", fn := fun _ => fun
  | [d1, d2] => { results := [.lit (.bool false)], args := [d1, d2] }
  | _ => none }
def FnExactGetFieldWrongFalsely : Prop := fnExactGetFieldRow.holds Try.pinned (OpenSpec.ofChange fnExactGetFieldWrong)

/-- 'laws.FnGetFirst': WHATEVER THE INPUT: true; the input reads as it did. -/
def fnGetFirstSpec : ChangeSpec := { name := "fnGetFirst", fn := fun _ => fun
  | [d] => { results := [.lit (.bool true)], args := [d] }
  | _ => none }
def fnGetFirstRow : OpenClaim := { program := "ytiobaiakbbboaaa", sum := "fe4b3a223dd8047324279ff91bbe22d53cf0a3b5c8f8312542772bafab9cd34d", func := "loop.example/mailwire/laws.FnGetFirst", spec := "fnGetFirst", unfollowed := true, recurses := true, apart := false }
def FnGetFirstSaid : Prop := fnGetFirstRow.holds Try.pinned (OpenSpec.ofChange fnGetFirstSpec)

/-- ITS FALSE NEIGHBOUR: 'it returns false'. Refute it at one input. -/
def fnGetFirstWrong : ChangeSpec := { name := "fnGetFirst", fn := fun _ => fun
  | [d] => { results := [.lit (.bool false)], args := [d] }
  | _ => none }
def FnGetFirstWrongFalsely : Prop := fnGetFirstRow.holds Try.pinned (OpenSpec.ofChange fnGetFirstWrong)

/-- 'laws.FnExactCountField': WHATEVER THE INPUT: true; the input reads as it did. -/
def fnExactCountFieldSpec : ChangeSpec := { name := "fnExactCountField", fn := fun _ => fun
  | [d1, d2] => { results := [.lit (.bool true)], args := [d1, d2] }
  | _ => none }
def fnExactCountFieldRow : OpenClaim := { program := "ytiobaiakbbboaaa", sum := "fe4b3a223dd8047324279ff91bbe22d53cf0a3b5c8f8312542772bafab9cd34d", func := "loop.example/mailwire/laws.FnExactCountField", spec := "fnExactCountField", unfollowed := true, recurses := true, apart := false }
def FnExactCountFieldSaid : Prop := fnExactCountFieldRow.holds Try.pinned (OpenSpec.ofChange fnExactCountFieldSpec)

/-- ITS FALSE NEIGHBOUR: 'it returns false'. Refute it at one input. -/
def fnExactCountFieldWrong : ChangeSpec := { name := "fnExactCountField", fn := fun _ => fun
  | [d1, d2] => { results := [.lit (.bool false)], args := [d1, d2] }
  | _ => none }
def FnExactCountFieldWrongFalsely : Prop := fnExactCountFieldRow.holds Try.pinned (OpenSpec.ofChange fnExactCountFieldWrong)

/-- 'laws.FnCountNames': WHATEVER THE INPUT: true; the input reads as it did. -/
def fnCountNamesSpec : ChangeSpec := { name := "fnCountNames", fn := fun _ => fun
  | [d] => { results := [.lit (.bool true)], args := [d] }
  | _ => none }
def fnCountNamesRow : OpenClaim := { program := "ytiobaiakbbboaaa", sum := "fe4b3a223dd8047324279ff91bbe22d53cf0a3b5c8f8312542772bafab9cd34d", func := "loop.example/mailwire/laws.FnCountNames", spec := "fnCountNames", unfollowed := true, recurses := true, apart := false }
def FnCountNamesSaid : Prop := fnCountNamesRow.holds Try.pinned (OpenSpec.ofChange fnCountNamesSpec)

/-- ITS FALSE NEIGHBOUR: 'it returns false'. Refute it at one input. -/
def fnCountNamesWrong : ChangeSpec := { name := "fnCountNames", fn := fun _ => fun
  | [d] => { results := [.lit (.bool false)], args := [d] }
  | _ => none }
def FnCountNamesWrongFalsely : Prop := fnCountNamesRow.holds Try.pinned (OpenSpec.ofChange fnCountNamesWrong)

/-- 'laws.FnGetField': WHATEVER THE INPUT: true; the input reads as it did. -/
def fnGetFieldSpec : ChangeSpec := { name := "fnGetField", fn := fun _ => fun
  | [d] => { results := [.lit (.bool true)], args := [d] }
  | _ => none }
def fnGetFieldRow : OpenClaim := { program := "ytiobaiakbbboaaa", sum := "fe4b3a223dd8047324279ff91bbe22d53cf0a3b5c8f8312542772bafab9cd34d", func := "loop.example/mailwire/laws.FnGetField", spec := "fnGetField", unfollowed := true, recurses := true, apart := false }
def FnGetFieldSaid : Prop := fnGetFieldRow.holds Try.pinned (OpenSpec.ofChange fnGetFieldSpec)

/-- ITS FALSE NEIGHBOUR: 'it returns false'. Refute it at one input. -/
def fnGetFieldWrong : ChangeSpec := { name := "fnGetField", fn := fun _ => fun
  | [d] => { results := [.lit (.bool false)], args := [d] }
  | _ => none }
def FnGetFieldWrongFalsely : Prop := fnGetFieldRow.holds Try.pinned (OpenSpec.ofChange fnGetFieldWrong)

/-- 'laws.FnDropField': WHATEVER THE INPUT: true; the input reads as it did. -/
def fnDropFieldSpec : ChangeSpec := { name := "fnDropField", fn := fun _ => fun
  | [d] => { results := [.lit (.bool true)], args := [d] }
  | _ => none }
def fnDropFieldRow : OpenClaim := { program := "ytiobaiakbbboaaa", sum := "fe4b3a223dd8047324279ff91bbe22d53cf0a3b5c8f8312542772bafab9cd34d", func := "loop.example/mailwire/laws.FnDropField", spec := "fnDropField", unfollowed := true, recurses := true, apart := false }
def FnDropFieldSaid : Prop := fnDropFieldRow.holds Try.pinned (OpenSpec.ofChange fnDropFieldSpec)

/-- ITS FALSE NEIGHBOUR: 'it returns false'. Refute it at one input. -/
def fnDropFieldWrong : ChangeSpec := { name := "fnDropField", fn := fun _ => fun
  | [d] => { results := [.lit (.bool false)], args := [d] }
  | _ => none }
def FnDropFieldWrongFalsely : Prop := fnDropFieldRow.holds Try.pinned (OpenSpec.ofChange fnDropFieldWrong)

/-- 'laws.FnExactDropField': WHATEVER THE INPUT: true; the input reads as it did. -/
def fnExactDropFieldSpec : ChangeSpec := { name := "fnExactDropField", fn := fun _ => fun
  | [d1, d2] => { results := [.lit (.bool true)], args := [d1, d2] }
  | _ => none }
def fnExactDropFieldRow : OpenClaim := { program := "ytiobaiakbbboaaa", sum := "fe4b3a223dd8047324279ff91bbe22d53cf0a3b5c8f8312542772bafab9cd34d", func := "loop.example/mailwire/laws.FnExactDropField", spec := "fnExactDropField", unfollowed := true, recurses := true, apart := false }
def FnExactDropFieldSaid : Prop := fnExactDropFieldRow.holds Try.pinned (OpenSpec.ofChange fnExactDropFieldSpec)

/-- ITS FALSE NEIGHBOUR: 'it returns false'. Refute it at one input. -/
def fnExactDropFieldWrong : ChangeSpec := { name := "fnExactDropField", fn := fun _ => fun
  | [d1, d2] => { results := [.lit (.bool false)], args := [d1, d2] }
  | _ => none }
def FnExactDropFieldWrongFalsely : Prop := fnExactDropFieldRow.holds Try.pinned (OpenSpec.ofChange fnExactDropFieldWrong)

/-- 'laws.FnDropRepeated': WHATEVER THE INPUT: true; the input reads as it did. -/
def fnDropRepeatedSpec : ChangeSpec := { name := "fnDropRepeated", fn := fun _ => fun
  | [d] => { results := [.lit (.bool true)], args := [d] }
  | _ => none }
def fnDropRepeatedRow : OpenClaim := { program := "ytiobaiakbbboaaa", sum := "fe4b3a223dd8047324279ff91bbe22d53cf0a3b5c8f8312542772bafab9cd34d", func := "loop.example/mailwire/laws.FnDropRepeated", spec := "fnDropRepeated", unfollowed := true, recurses := true, apart := false }
def FnDropRepeatedSaid : Prop := fnDropRepeatedRow.holds Try.pinned (OpenSpec.ofChange fnDropRepeatedSpec)

/-- ITS FALSE NEIGHBOUR: 'it returns false'. Refute it at one input. -/
def fnDropRepeatedWrong : ChangeSpec := { name := "fnDropRepeated", fn := fun _ => fun
  | [d] => { results := [.lit (.bool false)], args := [d] }
  | _ => none }
def FnDropRepeatedWrongFalsely : Prop := fnDropRepeatedRow.holds Try.pinned (OpenSpec.ofChange fnDropRepeatedWrong)

/-- 'laws.FnRepeatTwice': WHATEVER THE INPUT: true; the input reads as it did. -/
def fnRepeatTwiceSpec : ChangeSpec := { name := "fnRepeatTwice", fn := fun _ => fun
  | [d] => { results := [.lit (.bool true)], args := [d] }
  | _ => none }
def fnRepeatTwiceRow : OpenClaim := { program := "ytiobaiakbbboaaa", sum := "fe4b3a223dd8047324279ff91bbe22d53cf0a3b5c8f8312542772bafab9cd34d", func := "loop.example/mailwire/laws.FnRepeatTwice", spec := "fnRepeatTwice", unfollowed := true, recurses := true, apart := false }
def FnRepeatTwiceSaid : Prop := fnRepeatTwiceRow.holds Try.pinned (OpenSpec.ofChange fnRepeatTwiceSpec)

/-- ITS FALSE NEIGHBOUR: 'it returns false'. Refute it at one input. -/
def fnRepeatTwiceWrong : ChangeSpec := { name := "fnRepeatTwice", fn := fun _ => fun
  | [d] => { results := [.lit (.bool false)], args := [d] }
  | _ => none }
def FnRepeatTwiceWrongFalsely : Prop := fnRepeatTwiceRow.holds Try.pinned (OpenSpec.ofChange fnRepeatTwiceWrong)

/-- 'laws.FnExactDropRepeated': WHATEVER THE INPUT: true; the input reads as it did. -/
def fnExactDropRepeatedSpec : ChangeSpec := { name := "fnExactDropRepeated", fn := fun _ => fun
  | [d] => { results := [.lit (.bool true)], args := [d] }
  | _ => none }
def fnExactDropRepeatedRow : OpenClaim := { program := "ytiobaiakbbboaaa", sum := "fe4b3a223dd8047324279ff91bbe22d53cf0a3b5c8f8312542772bafab9cd34d", func := "loop.example/mailwire/laws.FnExactDropRepeated", spec := "fnExactDropRepeated", unfollowed := true, recurses := true, apart := false }
def FnExactDropRepeatedSaid : Prop := fnExactDropRepeatedRow.holds Try.pinned (OpenSpec.ofChange fnExactDropRepeatedSpec)

/-- ITS FALSE NEIGHBOUR: 'it returns false'. Refute it at one input. -/
def fnExactDropRepeatedWrong : ChangeSpec := { name := "fnExactDropRepeated", fn := fun _ => fun
  | [d] => { results := [.lit (.bool false)], args := [d] }
  | _ => none }
def FnExactDropRepeatedWrongFalsely : Prop := fnExactDropRepeatedRow.holds Try.pinned (OpenSpec.ofChange fnExactDropRepeatedWrong)

/- THE SECOND FORM. 'bulk': how many values and letters a reading holds, each counted each time it is reached (what is shared counts as often as it is met; a slice's spare places count too). A statement '..UptoSaid' is the law's where the arguments, and the package variables that the reading takes, are together of bulk at most 1048576: NARROWER than '..Said'. Prove '..Said' where nothing that the law and all that it calls make is longer than what came in: it says more and counts as full. Else prove '..UptoSaid'. A law counts once. -/
mutual
def uptoBulk {H : Type} : DataW H → Nat
  | .lit (.string bytes) => bytes.length + 1
  | .lit _ => 1
  | .nil => 1
  | .ptr d => uptoBulk d + 1
  | .slice elems spare => uptoBulkAll elems + uptoBulkAll spare + 1
  | .agg parts => uptoBulkAll parts + 1
  | .iface _ d => uptoBulk d + 1
  | .map entries => uptoBulkEntries entries + 1
  | .held _ => 1
def uptoBulkAll {H : Type} : List (DataW H) → Nat
  | [] => 0
  | d :: r => uptoBulk d + uptoBulkAll r
def uptoBulkEntries {H : Type} : List (Lit × DataW H) → Nat
  | [] => 0
  | x :: r => uptoBulkEntry x + uptoBulkEntries r
def uptoBulkEntry {H : Type} : Lit × DataW H → Nat
  | (.string bytes, d) => bytes.length + uptoBulk d + 1
  | (_, d) => uptoBulk d + 1
 end
def uptoSmall : (H : Type) → List (DataW H) → Bool := fun _ ds => decide (uptoBulkAll ds ≤ 1048576)
def OpenSpec.upto (s : _root_.Go.ChangeSpec) : _root_.Go.OpenSpec := { _root_.Go.OpenSpec.ofChange s with cond := some uptoSmall }

/-- 'laws.FnFieldsSame', WHERE WHAT IT READS IS OF BULK AT MOST 1048576: true; the input reads as it did. -/
def fnFieldsSameUptoRow : OpenClaim := { program := "ytiobaiakbbboaaa", sum := "fe4b3a223dd8047324279ff91bbe22d53cf0a3b5c8f8312542772bafab9cd34d", func := "loop.example/mailwire/laws.FnFieldsSame", spec := "fnFieldsSame", apart := false, narrowed := true }
def FnFieldsSameUptoSaid : Prop := fnFieldsSameUptoRow.holds Try.pinned (OpenSpec.upto fnFieldsSameSpec)

/-- 'laws.FnExactFieldsSame', WHERE WHAT IT READS IS OF BULK AT MOST 1048576: true; the input reads as it did. -/
def fnExactFieldsSameUptoRow : OpenClaim := { program := "ytiobaiakbbboaaa", sum := "fe4b3a223dd8047324279ff91bbe22d53cf0a3b5c8f8312542772bafab9cd34d", func := "loop.example/mailwire/laws.FnExactFieldsSame", spec := "fnExactFieldsSame", apart := false, narrowed := true }
def FnExactFieldsSameUptoSaid : Prop := fnExactFieldsSameUptoRow.holds Try.pinned (OpenSpec.upto fnExactFieldsSameSpec)

/-- 'laws.FnExactGetField', WHERE WHAT IT READS IS OF BULK AT MOST 1048576: true; the input reads as it did. -/
def fnExactGetFieldUptoRow : OpenClaim := { program := "ytiobaiakbbboaaa", sum := "fe4b3a223dd8047324279ff91bbe22d53cf0a3b5c8f8312542772bafab9cd34d", func := "loop.example/mailwire/laws.FnExactGetField", spec := "fnExactGetField", unfollowed := true, recurses := true, apart := false, narrowed := true }
def FnExactGetFieldUptoSaid : Prop := fnExactGetFieldUptoRow.holds Try.pinned (OpenSpec.upto fnExactGetFieldSpec)

/-- 'laws.FnGetFirst', WHERE WHAT IT READS IS OF BULK AT MOST 1048576: true; the input reads as it did. -/
def fnGetFirstUptoRow : OpenClaim := { program := "ytiobaiakbbboaaa", sum := "fe4b3a223dd8047324279ff91bbe22d53cf0a3b5c8f8312542772bafab9cd34d", func := "loop.example/mailwire/laws.FnGetFirst", spec := "fnGetFirst", unfollowed := true, recurses := true, apart := false, narrowed := true }
def FnGetFirstUptoSaid : Prop := fnGetFirstUptoRow.holds Try.pinned (OpenSpec.upto fnGetFirstSpec)

/-- 'laws.FnExactCountField', WHERE WHAT IT READS IS OF BULK AT MOST 1048576: true; the input reads as it did. -/
def fnExactCountFieldUptoRow : OpenClaim := { program := "ytiobaiakbbboaaa", sum := "fe4b3a223dd8047324279ff91bbe22d53cf0a3b5c8f8312542772bafab9cd34d", func := "loop.example/mailwire/laws.FnExactCountField", spec := "fnExactCountField", unfollowed := true, recurses := true, apart := false, narrowed := true }
def FnExactCountFieldUptoSaid : Prop := fnExactCountFieldUptoRow.holds Try.pinned (OpenSpec.upto fnExactCountFieldSpec)

/-- 'laws.FnCountNames', WHERE WHAT IT READS IS OF BULK AT MOST 1048576: true; the input reads as it did. -/
def fnCountNamesUptoRow : OpenClaim := { program := "ytiobaiakbbboaaa", sum := "fe4b3a223dd8047324279ff91bbe22d53cf0a3b5c8f8312542772bafab9cd34d", func := "loop.example/mailwire/laws.FnCountNames", spec := "fnCountNames", unfollowed := true, recurses := true, apart := false, narrowed := true }
def FnCountNamesUptoSaid : Prop := fnCountNamesUptoRow.holds Try.pinned (OpenSpec.upto fnCountNamesSpec)

/-- 'laws.FnGetField', WHERE WHAT IT READS IS OF BULK AT MOST 1048576: true; the input reads as it did. -/
def fnGetFieldUptoRow : OpenClaim := { program := "ytiobaiakbbboaaa", sum := "fe4b3a223dd8047324279ff91bbe22d53cf0a3b5c8f8312542772bafab9cd34d", func := "loop.example/mailwire/laws.FnGetField", spec := "fnGetField", unfollowed := true, recurses := true, apart := false, narrowed := true }
def FnGetFieldUptoSaid : Prop := fnGetFieldUptoRow.holds Try.pinned (OpenSpec.upto fnGetFieldSpec)

/-- 'laws.FnDropField', WHERE WHAT IT READS IS OF BULK AT MOST 1048576: true; the input reads as it did. -/
def fnDropFieldUptoRow : OpenClaim := { program := "ytiobaiakbbboaaa", sum := "fe4b3a223dd8047324279ff91bbe22d53cf0a3b5c8f8312542772bafab9cd34d", func := "loop.example/mailwire/laws.FnDropField", spec := "fnDropField", unfollowed := true, recurses := true, apart := false, narrowed := true }
def FnDropFieldUptoSaid : Prop := fnDropFieldUptoRow.holds Try.pinned (OpenSpec.upto fnDropFieldSpec)

/-- 'laws.FnExactDropField', WHERE WHAT IT READS IS OF BULK AT MOST 1048576: true; the input reads as it did. -/
def fnExactDropFieldUptoRow : OpenClaim := { program := "ytiobaiakbbboaaa", sum := "fe4b3a223dd8047324279ff91bbe22d53cf0a3b5c8f8312542772bafab9cd34d", func := "loop.example/mailwire/laws.FnExactDropField", spec := "fnExactDropField", unfollowed := true, recurses := true, apart := false, narrowed := true }
def FnExactDropFieldUptoSaid : Prop := fnExactDropFieldUptoRow.holds Try.pinned (OpenSpec.upto fnExactDropFieldSpec)

/-- 'laws.FnDropRepeated', WHERE WHAT IT READS IS OF BULK AT MOST 1048576: true; the input reads as it did. -/
def fnDropRepeatedUptoRow : OpenClaim := { program := "ytiobaiakbbboaaa", sum := "fe4b3a223dd8047324279ff91bbe22d53cf0a3b5c8f8312542772bafab9cd34d", func := "loop.example/mailwire/laws.FnDropRepeated", spec := "fnDropRepeated", unfollowed := true, recurses := true, apart := false, narrowed := true }
def FnDropRepeatedUptoSaid : Prop := fnDropRepeatedUptoRow.holds Try.pinned (OpenSpec.upto fnDropRepeatedSpec)

/-- 'laws.FnRepeatTwice', WHERE WHAT IT READS IS OF BULK AT MOST 1048576: true; the input reads as it did. -/
def fnRepeatTwiceUptoRow : OpenClaim := { program := "ytiobaiakbbboaaa", sum := "fe4b3a223dd8047324279ff91bbe22d53cf0a3b5c8f8312542772bafab9cd34d", func := "loop.example/mailwire/laws.FnRepeatTwice", spec := "fnRepeatTwice", unfollowed := true, recurses := true, apart := false, narrowed := true }
def FnRepeatTwiceUptoSaid : Prop := fnRepeatTwiceUptoRow.holds Try.pinned (OpenSpec.upto fnRepeatTwiceSpec)

/-- 'laws.FnExactDropRepeated', WHERE WHAT IT READS IS OF BULK AT MOST 1048576: true; the input reads as it did. -/
def fnExactDropRepeatedUptoRow : OpenClaim := { program := "ytiobaiakbbboaaa", sum := "fe4b3a223dd8047324279ff91bbe22d53cf0a3b5c8f8312542772bafab9cd34d", func := "loop.example/mailwire/laws.FnExactDropRepeated", spec := "fnExactDropRepeated", unfollowed := true, recurses := true, apart := false, narrowed := true }
def FnExactDropRepeatedUptoSaid : Prop := fnExactDropRepeatedUptoRow.holds Try.pinned (OpenSpec.upto fnExactDropRepeatedSpec)

end Rows
end Go.Proofs.Ytiobaiakbbboaaa
