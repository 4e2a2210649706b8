/-
  No cell of these rows narrows 'for every input' (looked for: loops, veiled, ifaces, maps, wideKeys, modest, calm, conditions, laid).
  DERIVED. THE GIVEN ROWS OF THIS SEAT. 12 by the template 'for every input the law returns true; each argument reads behind the call as it read before'; 0 by the template 'total and deterministic' (their statements: YtdblodoojgonoaaTotals.lean).
  GIVEN WITH THE SEED: the statements are not yours to turn. If you find one false, say at which input.
  Laid BY PROGRAM, IN A SANDBOX (cutbox-rows.mjs): the forced cells as the released guide's own fill.sh prints them over the translation c0a83c9e13d1db08… (all of the seat's roots in one cut). By AI agents, Wed Nov 11 2026. No macro, syntax, notation, axiom, sorry.
-/
import Derived.Test.YtdblodoojgonoaaChecked
import GoSem.Claim
import GoSem.ClaimJoined
import GoSem.ClaimMapViews
import Derived.JoinedTies
import Derived.KernelRfl
namespace Go.Proofs.Ytdblodoojgonoaa
/- THE CELL 'sum', in the pinned program and in every row, IS THE sha256 OF THE DUMP (.gsa) THAT YtdblodoojgonoaaProg.lean LOADS. Nothing in Lean hashes anything: it is a label: what it is worth is what the hold of that sum in a sandbox is worth. -/
noncomputable def Try.pinned : Pinned := { name := "ytdblodoojgonoaa", sum := "c0a83c9e13d1db08b0953d3e9a44773247d81df99f7162face762a5152d014ab", checked := Try.checked }
namespace Rows
def none {H : Type} : Left H := { results := [], args := [] }

/-- 'laws.FnExactConstants': WHATEVER THE INPUT: true; the input reads as it did. -/
def fnExactConstantsSpec : ChangeSpec := { name := "fnExactConstants", fn := fun _ => fun
  | [] => { results := [.lit (.bool true)], args := [] }
  | _ => none }
def fnExactConstantsRow : OpenClaim := { program := "ytdblodoojgonoaa", sum := "c0a83c9e13d1db08b0953d3e9a44773247d81df99f7162face762a5152d014ab", func := "loop.example/mailwire/laws.FnExactConstants", spec := "fnExactConstants", apart := false }
def FnExactConstantsSaid : Prop := fnExactConstantsRow.holds Try.pinned (OpenSpec.ofChange fnExactConstantsSpec)

/-- ITS FALSE NEIGHBOUR: 'it returns false'. Refute it at one input. -/
def fnExactConstantsWrong : ChangeSpec := { name := "fnExactConstants", fn := fun _ => fun
  | [] => { results := [.lit (.bool false)], args := [] }
  | _ => none }
def FnExactConstantsWrongFalsely : Prop := fnExactConstantsRow.holds Try.pinned (OpenSpec.ofChange fnExactConstantsWrong)

/-- 'laws.FnExactTextValid': WHATEVER THE INPUT: true; the input reads as it did. -/
def fnExactTextValidSpec : ChangeSpec := { name := "fnExactTextValid", fn := fun _ => fun
  | [d] => { results := [.lit (.bool true)], args := [d] }
  | _ => none }
def fnExactTextValidRow : OpenClaim := { program := "ytdblodoojgonoaa", sum := "c0a83c9e13d1db08b0953d3e9a44773247d81df99f7162face762a5152d014ab", func := "loop.example/mailwire/laws.FnExactTextValid", spec := "fnExactTextValid", apart := false }
def FnExactTextValidSaid : Prop := fnExactTextValidRow.holds Try.pinned (OpenSpec.ofChange fnExactTextValidSpec)

/-- ITS FALSE NEIGHBOUR: 'it returns false'. Refute it at one input. -/
def fnExactTextValidWrong : ChangeSpec := { name := "fnExactTextValid", fn := fun _ => fun
  | [d] => { results := [.lit (.bool false)], args := [d] }
  | _ => none }
def FnExactTextValidWrongFalsely : Prop := fnExactTextValidRow.holds Try.pinned (OpenSpec.ofChange fnExactTextValidWrong)

/-- 'laws.FnExactLowerText': WHATEVER THE INPUT: true; the input reads as it did. -/
def fnExactLowerTextSpec : ChangeSpec := { name := "fnExactLowerText", fn := fun _ => fun
  | [d] => { results := [.lit (.bool true)], args := [d] }
  | _ => none }
def fnExactLowerTextRow : OpenClaim := { program := "ytdblodoojgonoaa", sum := "c0a83c9e13d1db08b0953d3e9a44773247d81df99f7162face762a5152d014ab", func := "loop.example/mailwire/laws.FnExactLowerText", spec := "fnExactLowerText", apart := false }
def FnExactLowerTextSaid : Prop := fnExactLowerTextRow.holds Try.pinned (OpenSpec.ofChange fnExactLowerTextSpec)

/-- ITS FALSE NEIGHBOUR: 'it returns false'. Refute it at one input. -/
def fnExactLowerTextWrong : ChangeSpec := { name := "fnExactLowerText", fn := fun _ => fun
  | [d] => { results := [.lit (.bool false)], args := [d] }
  | _ => none }
def FnExactLowerTextWrongFalsely : Prop := fnExactLowerTextRow.holds Try.pinned (OpenSpec.ofChange fnExactLowerTextWrong)

/-- 'laws.FnExactSameText': WHATEVER THE INPUT: true; the input reads as it did. -/
def fnExactSameTextSpec : ChangeSpec := { name := "fnExactSameText", fn := fun _ => fun
  | [d1, d2] => { results := [.lit (.bool true)], args := [d1, d2] }
  | _ => none }
def fnExactSameTextRow : OpenClaim := { program := "ytdblodoojgonoaa", sum := "c0a83c9e13d1db08b0953d3e9a44773247d81df99f7162face762a5152d014ab", func := "loop.example/mailwire/laws.FnExactSameText", spec := "fnExactSameText", apart := false }
def FnExactSameTextSaid : Prop := fnExactSameTextRow.holds Try.pinned (OpenSpec.ofChange fnExactSameTextSpec)

/-- ITS FALSE NEIGHBOUR: 'it returns false'. Refute it at one input. -/
def fnExactSameTextWrong : ChangeSpec := { name := "fnExactSameText", fn := fun _ => fun
  | [d1, d2] => { results := [.lit (.bool false)], args := [d1, d2] }
  | _ => none }
def FnExactSameTextWrongFalsely : Prop := fnExactSameTextRow.holds Try.pinned (OpenSpec.ofChange fnExactSameTextWrong)

/-- 'laws.FnExactAtomValid': WHATEVER THE INPUT: true; the input reads as it did. -/
def fnExactAtomValidSpec : ChangeSpec := { name := "fnExactAtomValid", fn := fun _ => fun
  | [d] => { results := [.lit (.bool true)], args := [d] }
  | _ => none }
def fnExactAtomValidRow : OpenClaim := { program := "ytdblodoojgonoaa", sum := "c0a83c9e13d1db08b0953d3e9a44773247d81df99f7162face762a5152d014ab", func := "loop.example/mailwire/laws.FnExactAtomValid", spec := "fnExactAtomValid", unfollowed := true, recurses := true, apart := false }
def FnExactAtomValidSaid : Prop := fnExactAtomValidRow.holds Try.pinned (OpenSpec.ofChange fnExactAtomValidSpec)

/-- ITS FALSE NEIGHBOUR: 'it returns false'. Refute it at one input. -/
def fnExactAtomValidWrong : ChangeSpec := { name := "fnExactAtomValid", fn := fun _ => fun
  | [d] => { results := [.lit (.bool false)], args := [d] }
  | _ => none }
def FnExactAtomValidWrongFalsely : Prop := fnExactAtomValidRow.holds Try.pinned (OpenSpec.ofChange fnExactAtomValidWrong)

/-- 'laws.FnExactSameBox': WHATEVER THE INPUT: true; the input reads as it did. -/
def fnExactSameBoxSpec : ChangeSpec := { name := "fnExactSameBox", fn := fun _ => fun
  | [d1, d2] => { results := [.lit (.bool true)], args := [d1, d2] }
  | _ => none }
def fnExactSameBoxRow : OpenClaim := { program := "ytdblodoojgonoaa", sum := "c0a83c9e13d1db08b0953d3e9a44773247d81df99f7162face762a5152d014ab", func := "loop.example/mailwire/laws.FnExactSameBox", spec := "fnExactSameBox", apart := false }
def FnExactSameBoxSaid : Prop := fnExactSameBoxRow.holds Try.pinned (OpenSpec.ofChange fnExactSameBoxSpec)

/-- ITS FALSE NEIGHBOUR: 'it returns false'. Refute it at one input. -/
def fnExactSameBoxWrong : ChangeSpec := { name := "fnExactSameBox", fn := fun _ => fun
  | [d1, d2] => { results := [.lit (.bool false)], args := [d1, d2] }
  | _ => none }
def FnExactSameBoxWrongFalsely : Prop := fnExactSameBoxRow.holds Try.pinned (OpenSpec.ofChange fnExactSameBoxWrong)

/-- 'laws.FnTextPart': WHATEVER THE INPUT: true; the input reads as it did. -/
def fnTextPartSpec : ChangeSpec := { name := "fnTextPart", fn := fun _ => fun
  | [d] => { results := [.lit (.bool true)], args := [d] }
  | _ => none }
def fnTextPartRow : OpenClaim := { program := "ytdblodoojgonoaa", sum := "c0a83c9e13d1db08b0953d3e9a44773247d81df99f7162face762a5152d014ab", func := "loop.example/mailwire/laws.FnTextPart", spec := "fnTextPart", apart := false }
def FnTextPartSaid : Prop := fnTextPartRow.holds Try.pinned (OpenSpec.ofChange fnTextPartSpec)

/-- ITS FALSE NEIGHBOUR: 'it returns false'. Refute it at one input. -/
def fnTextPartWrong : ChangeSpec := { name := "fnTextPart", fn := fun _ => fun
  | [d] => { results := [.lit (.bool false)], args := [d] }
  | _ => none }
def FnTextPartWrongFalsely : Prop := fnTextPartRow.holds Try.pinned (OpenSpec.ofChange fnTextPartWrong)

/-- 'laws.FnLowerBytes': WHATEVER THE INPUT: true; the input reads as it did. -/
def fnLowerBytesSpec : ChangeSpec := { name := "fnLowerBytes", fn := fun _ => fun
  | [d] => { results := [.lit (.bool true)], args := [d] }
  | _ => none }
def fnLowerBytesRow : OpenClaim := { program := "ytdblodoojgonoaa", sum := "c0a83c9e13d1db08b0953d3e9a44773247d81df99f7162face762a5152d014ab", func := "loop.example/mailwire/laws.FnLowerBytes", spec := "fnLowerBytes", apart := false }
def FnLowerBytesSaid : Prop := fnLowerBytesRow.holds Try.pinned (OpenSpec.ofChange fnLowerBytesSpec)

/-- ITS FALSE NEIGHBOUR: 'it returns false'. Refute it at one input. -/
def fnLowerBytesWrong : ChangeSpec := { name := "fnLowerBytes", fn := fun _ => fun
  | [d] => { results := [.lit (.bool false)], args := [d] }
  | _ => none }
def FnLowerBytesWrongFalsely : Prop := fnLowerBytesRow.holds Try.pinned (OpenSpec.ofChange fnLowerBytesWrong)

/-- 'laws.FnLowerText': WHATEVER THE INPUT: true; the input reads as it did. -/
def fnLowerTextSpec : ChangeSpec := { name := "fnLowerText", fn := fun _ => fun
  | [d] => { results := [.lit (.bool true)], args := [d] }
  | _ => none }
def fnLowerTextRow : OpenClaim := { program := "ytdblodoojgonoaa", sum := "c0a83c9e13d1db08b0953d3e9a44773247d81df99f7162face762a5152d014ab", func := "loop.example/mailwire/laws.FnLowerText", spec := "fnLowerText", apart := false }
def FnLowerTextSaid : Prop := fnLowerTextRow.holds Try.pinned (OpenSpec.ofChange fnLowerTextSpec)

/-- ITS FALSE NEIGHBOUR: 'it returns false'. Refute it at one input. -/
def fnLowerTextWrong : ChangeSpec := { name := "fnLowerText", fn := fun _ => fun
  | [d] => { results := [.lit (.bool false)], args := [d] }
  | _ => none }
def FnLowerTextWrongFalsely : Prop := fnLowerTextRow.holds Try.pinned (OpenSpec.ofChange fnLowerTextWrong)

/-- 'laws.FnSameBox': WHATEVER THE INPUT: true; the input reads as it did. -/
def fnSameBoxSpec : ChangeSpec := { name := "fnSameBox", fn := fun _ => fun
  | [d] => { results := [.lit (.bool true)], args := [d] }
  | _ => none }
def fnSameBoxRow : OpenClaim := { program := "ytdblodoojgonoaa", sum := "c0a83c9e13d1db08b0953d3e9a44773247d81df99f7162face762a5152d014ab", func := "loop.example/mailwire/laws.FnSameBox", spec := "fnSameBox", apart := false }
def FnSameBoxSaid : Prop := fnSameBoxRow.holds Try.pinned (OpenSpec.ofChange fnSameBoxSpec)

/-- ITS FALSE NEIGHBOUR: 'it returns false'. Refute it at one input. -/
def fnSameBoxWrong : ChangeSpec := { name := "fnSameBox", fn := fun _ => fun
  | [d] => { results := [.lit (.bool false)], args := [d] }
  | _ => none }
def FnSameBoxWrongFalsely : Prop := fnSameBoxRow.holds Try.pinned (OpenSpec.ofChange fnSameBoxWrong)

/-- 'laws.FnSameText': WHATEVER THE INPUT: true; the input reads as it did. -/
def fnSameTextSpec : ChangeSpec := { name := "fnSameText", fn := fun _ => fun
  | [d] => { results := [.lit (.bool true)], args := [d] }
  | _ => none }
def fnSameTextRow : OpenClaim := { program := "ytdblodoojgonoaa", sum := "c0a83c9e13d1db08b0953d3e9a44773247d81df99f7162face762a5152d014ab", func := "loop.example/mailwire/laws.FnSameText", spec := "fnSameText", apart := false }
def FnSameTextSaid : Prop := fnSameTextRow.holds Try.pinned (OpenSpec.ofChange fnSameTextSpec)

/-- ITS FALSE NEIGHBOUR: 'it returns false'. Refute it at one input. -/
def fnSameTextWrong : ChangeSpec := { name := "fnSameText", fn := fun _ => fun
  | [d] => { results := [.lit (.bool false)], args := [d] }
  | _ => none }
def FnSameTextWrongFalsely : Prop := fnSameTextRow.holds Try.pinned (OpenSpec.ofChange fnSameTextWrong)

/-- 'laws.FnAtomPart': WHATEVER THE INPUT: true; the input reads as it did. -/
def fnAtomPartSpec : ChangeSpec := { name := "fnAtomPart", fn := fun _ => fun
  | [d] => { results := [.lit (.bool true)], args := [d] }
  | _ => none }
def fnAtomPartRow : OpenClaim := { program := "ytdblodoojgonoaa", sum := "c0a83c9e13d1db08b0953d3e9a44773247d81df99f7162face762a5152d014ab", func := "loop.example/mailwire/laws.FnAtomPart", spec := "fnAtomPart", unfollowed := true, recurses := true, apart := false }
def FnAtomPartSaid : Prop := fnAtomPartRow.holds Try.pinned (OpenSpec.ofChange fnAtomPartSpec)

/-- ITS FALSE NEIGHBOUR: 'it returns false'. Refute it at one input. -/
def fnAtomPartWrong : ChangeSpec := { name := "fnAtomPart", fn := fun _ => fun
  | [d] => { results := [.lit (.bool false)], args := [d] }
  | _ => none }
def FnAtomPartWrongFalsely : Prop := fnAtomPartRow.holds Try.pinned (OpenSpec.ofChange fnAtomPartWrong)

/- THE SECOND FORM. 'bulk': how many values and letters a reading holds, each counted each time it is reached (what is shared counts as often as it is met; a slice's spare places count too). A statement '..UptoSaid' is the law's where the arguments, and the package variables that the reading takes, are together of bulk at most 1048576: NARROWER than '..Said'. Prove '..Said' where nothing that the law and all that it calls make is longer than what came in: it says more and counts as full. Else prove '..UptoSaid'. A law counts once. -/
mutual
def uptoBulk {H : Type} : DataW H → Nat
  | .lit (.string bytes) => bytes.length + 1
  | .lit _ => 1
  | .nil => 1
  | .ptr d => uptoBulk d + 1
  | .slice elems spare => uptoBulkAll elems + uptoBulkAll spare + 1
  | .agg parts => uptoBulkAll parts + 1
  | .iface _ d => uptoBulk d + 1
  | .map entries => uptoBulkEntries entries + 1
  | .held _ => 1
def uptoBulkAll {H : Type} : List (DataW H) → Nat
  | [] => 0
  | d :: r => uptoBulk d + uptoBulkAll r
def uptoBulkEntries {H : Type} : List (Lit × DataW H) → Nat
  | [] => 0
  | x :: r => uptoBulkEntry x + uptoBulkEntries r
def uptoBulkEntry {H : Type} : Lit × DataW H → Nat
  | (.string bytes, d) => bytes.length + uptoBulk d + 1
  | (_, d) => uptoBulk d + 1
 end
def uptoSmall : (H : Type) → List (DataW H) → Bool := fun _ ds => decide (uptoBulkAll ds ≤ 1048576)
def OpenSpec.upto (s : _root_.Go.ChangeSpec) : _root_.Go.OpenSpec := { _root_.Go.OpenSpec.ofChange s with cond := some uptoSmall }

/-- 'laws.FnExactConstants', WHERE WHAT IT READS IS OF BULK AT MOST 1048576: true; the input reads as it did. -/
def fnExactConstantsUptoRow : OpenClaim := { program := "ytdblodoojgonoaa", sum := "c0a83c9e13d1db08b0953d3e9a44773247d81df99f7162face762a5152d014ab", func := "loop.example/mailwire/laws.FnExactConstants", spec := "fnExactConstants", apart := false, narrowed := true }
def FnExactConstantsUptoSaid : Prop := fnExactConstantsUptoRow.holds Try.pinned (OpenSpec.upto fnExactConstantsSpec)

/-- 'laws.FnExactTextValid', WHERE WHAT IT READS IS OF BULK AT MOST 1048576: true; the input reads as it did. -/
def fnExactTextValidUptoRow : OpenClaim := { program := "ytdblodoojgonoaa", sum := "c0a83c9e13d1db08b0953d3e9a44773247d81df99f7162face762a5152d014ab", func := "loop.example/mailwire/laws.FnExactTextValid", spec := "fnExactTextValid", apart := false, narrowed := true }
def FnExactTextValidUptoSaid : Prop := fnExactTextValidUptoRow.holds Try.pinned (OpenSpec.upto fnExactTextValidSpec)

/-- 'laws.FnExactLowerText', WHERE WHAT IT READS IS OF BULK AT MOST 1048576: true; the input reads as it did. -/
def fnExactLowerTextUptoRow : OpenClaim := { program := "ytdblodoojgonoaa", sum := "c0a83c9e13d1db08b0953d3e9a44773247d81df99f7162face762a5152d014ab", func := "loop.example/mailwire/laws.FnExactLowerText", spec := "fnExactLowerText", apart := false, narrowed := true }
def FnExactLowerTextUptoSaid : Prop := fnExactLowerTextUptoRow.holds Try.pinned (OpenSpec.upto fnExactLowerTextSpec)

/-- 'laws.FnExactSameText', WHERE WHAT IT READS IS OF BULK AT MOST 1048576: true; the input reads as it did. -/
def fnExactSameTextUptoRow : OpenClaim := { program := "ytdblodoojgonoaa", sum := "c0a83c9e13d1db08b0953d3e9a44773247d81df99f7162face762a5152d014ab", func := "loop.example/mailwire/laws.FnExactSameText", spec := "fnExactSameText", apart := false, narrowed := true }
def FnExactSameTextUptoSaid : Prop := fnExactSameTextUptoRow.holds Try.pinned (OpenSpec.upto fnExactSameTextSpec)

/-- 'laws.FnExactAtomValid', WHERE WHAT IT READS IS OF BULK AT MOST 1048576: true; the input reads as it did. -/
def fnExactAtomValidUptoRow : OpenClaim := { program := "ytdblodoojgonoaa", sum := "c0a83c9e13d1db08b0953d3e9a44773247d81df99f7162face762a5152d014ab", func := "loop.example/mailwire/laws.FnExactAtomValid", spec := "fnExactAtomValid", unfollowed := true, recurses := true, apart := false, narrowed := true }
def FnExactAtomValidUptoSaid : Prop := fnExactAtomValidUptoRow.holds Try.pinned (OpenSpec.upto fnExactAtomValidSpec)

/-- 'laws.FnExactSameBox', WHERE WHAT IT READS IS OF BULK AT MOST 1048576: true; the input reads as it did. -/
def fnExactSameBoxUptoRow : OpenClaim := { program := "ytdblodoojgonoaa", sum := "c0a83c9e13d1db08b0953d3e9a44773247d81df99f7162face762a5152d014ab", func := "loop.example/mailwire/laws.FnExactSameBox", spec := "fnExactSameBox", apart := false, narrowed := true }
def FnExactSameBoxUptoSaid : Prop := fnExactSameBoxUptoRow.holds Try.pinned (OpenSpec.upto fnExactSameBoxSpec)

/-- 'laws.FnTextPart', WHERE WHAT IT READS IS OF BULK AT MOST 1048576: true; the input reads as it did. -/
def fnTextPartUptoRow : OpenClaim := { program := "ytdblodoojgonoaa", sum := "c0a83c9e13d1db08b0953d3e9a44773247d81df99f7162face762a5152d014ab", func := "loop.example/mailwire/laws.FnTextPart", spec := "fnTextPart", apart := false, narrowed := true }
def FnTextPartUptoSaid : Prop := fnTextPartUptoRow.holds Try.pinned (OpenSpec.upto fnTextPartSpec)

/-- 'laws.FnLowerBytes', WHERE WHAT IT READS IS OF BULK AT MOST 1048576: true; the input reads as it did. -/
def fnLowerBytesUptoRow : OpenClaim := { program := "ytdblodoojgonoaa", sum := "c0a83c9e13d1db08b0953d3e9a44773247d81df99f7162face762a5152d014ab", func := "loop.example/mailwire/laws.FnLowerBytes", spec := "fnLowerBytes", apart := false, narrowed := true }
def FnLowerBytesUptoSaid : Prop := fnLowerBytesUptoRow.holds Try.pinned (OpenSpec.upto fnLowerBytesSpec)

/-- 'laws.FnLowerText', WHERE WHAT IT READS IS OF BULK AT MOST 1048576: true; the input reads as it did. -/
def fnLowerTextUptoRow : OpenClaim := { program := "ytdblodoojgonoaa", sum := "c0a83c9e13d1db08b0953d3e9a44773247d81df99f7162face762a5152d014ab", func := "loop.example/mailwire/laws.FnLowerText", spec := "fnLowerText", apart := false, narrowed := true }
def FnLowerTextUptoSaid : Prop := fnLowerTextUptoRow.holds Try.pinned (OpenSpec.upto fnLowerTextSpec)

/-- 'laws.FnSameBox', WHERE WHAT IT READS IS OF BULK AT MOST 1048576: true; the input reads as it did. -/
def fnSameBoxUptoRow : OpenClaim := { program := "ytdblodoojgonoaa", sum := "c0a83c9e13d1db08b0953d3e9a44773247d81df99f7162face762a5152d014ab", func := "loop.example/mailwire/laws.FnSameBox", spec := "fnSameBox", apart := false, narrowed := true }
def FnSameBoxUptoSaid : Prop := fnSameBoxUptoRow.holds Try.pinned (OpenSpec.upto fnSameBoxSpec)

/-- 'laws.FnSameText', WHERE WHAT IT READS IS OF BULK AT MOST 1048576: true; the input reads as it did. -/
def fnSameTextUptoRow : OpenClaim := { program := "ytdblodoojgonoaa", sum := "c0a83c9e13d1db08b0953d3e9a44773247d81df99f7162face762a5152d014ab", func := "loop.example/mailwire/laws.FnSameText", spec := "fnSameText", apart := false, narrowed := true }
def FnSameTextUptoSaid : Prop := fnSameTextUptoRow.holds Try.pinned (OpenSpec.upto fnSameTextSpec)

/-- 'laws.FnAtomPart', WHERE WHAT IT READS IS OF BULK AT MOST 1048576: true; the input reads as it did. -/
def fnAtomPartUptoRow : OpenClaim := { program := "ytdblodoojgonoaa", sum := "c0a83c9e13d1db08b0953d3e9a44773247d81df99f7162face762a5152d014ab", func := "loop.example/mailwire/laws.FnAtomPart", spec := "fnAtomPart", unfollowed := true, recurses := true, apart := false, narrowed := true }
def FnAtomPartUptoSaid : Prop := fnAtomPartUptoRow.holds Try.pinned (OpenSpec.upto fnAtomPartSpec)

end Rows
end Go.Proofs.Ytdblodoojgonoaa
