/-
  NARROWER THAN 'FOR EVERY INPUT', by the rows' own cells (each row's printed sentence says how): FnExactParseList: laid · FnListOne: laid · FnAddressText: laid · FnExactParseAddress: laid · FnAddressCapital: laid · FnParseAddress: laid · FnListParts: laid · FnExactFormatList: laid.
  DERIVED. THE GIVEN ROWS OF THIS SEAT. 8 by the template 'for every input the law returns true; each argument reads behind the call as it read before'; 0 by the template 'total and deterministic' (their statements: YtmehlmhpgbjddaaDoorTotals.lean).
  GIVEN WITH THE SEED: the statements are not yours to turn. If you find one false, say at which input.
  Laid BY PROGRAM, IN A SANDBOX (cutbox-rows.mjs): the forced cells as the released guide's own fill.sh prints them over the translation a6efd76e21a8b1fb… (all of the seat's roots in one cut). By AI agents, Wed Nov 11 2026. No macro, syntax, notation, axiom, sorry.
-/
import Derived.Test.YtmehlmhpgbjddaaDoorChecked
import GoSem.PinnedTables
import GoSem.Claim
import GoSem.ClaimJoined
import GoSem.ClaimMapViews
import Derived.JoinedTies
import Derived.KernelRfl
namespace Go.Proofs.YtmehlmhpgbjddaaDoor
/- THE CELL 'sum', in the pinned program and in every row, IS THE sha256 OF THE DUMP (.gsa) THAT YtmehlmhpgbjddaaDoorProg.lean LOADS. Nothing in Lean hashes anything: it is a label: what it is worth is what the hold of that sum in a sandbox is worth. -/
noncomputable def Tryd.pinned : Pinned := { name := "ytmehlmhpgbjddaadoor", sum := "a6efd76e21a8b1fb20713e04feb33bbf51cb17024a2d274963cd3215de9e4438", checked := Tryd.checked }
namespace Rows
def none {H : Type} : Left H := { results := [], args := [] }

/- WHAT THE LISTED PACKAGE-LEVEL VARIABLES READ AS WHEN THE CALL BEGINS. Each datum BY PROGRAM (the guide's laid-datum.mjs) off the statement by which the dump's own 'gosem.cut.vars' lays the variable. In a bare row this is a premise. The card (YtmehlmhpgbjddaaDoorCards.lean) ties it to the program's text. -/
def laid_unicode_utf8_acceptRanges {H : Type} : DataW H := .agg [.agg [.lit (.int .u8 128), .lit (.int .u8 191)], .agg [.lit (.int .u8 160), .lit (.int .u8 191)], .agg [.lit (.int .u8 128), .lit (.int .u8 159)], .agg [.lit (.int .u8 144), .lit (.int .u8 191)], .agg [.lit (.int .u8 128), .lit (.int .u8 143)], .agg [.lit (.int .u8 0), .lit (.int .u8 0)], .agg [.lit (.int .u8 0), .lit (.int .u8 0)], .agg [.lit (.int .u8 0), .lit (.int .u8 0)], .agg [.lit (.int .u8 0), .lit (.int .u8 0)], .agg [.lit (.int .u8 0), .lit (.int .u8 0)], .agg [.lit (.int .u8 0), .lit (.int .u8 0)], .agg [.lit (.int .u8 0), .lit (.int .u8 0)], .agg [.lit (.int .u8 0), .lit (.int .u8 0)], .agg [.lit (.int .u8 0), .lit (.int .u8 0)], .agg [.lit (.int .u8 0), .lit (.int .u8 0)], .agg [.lit (.int .u8 0), .lit (.int .u8 0)]]
/-- One of Go's own tables, pinned by name: the form's constant. -/
def laid_unicode_utf8_first : DataW Unit := Go.Pinned.utf8First

/-- 'laws.FnExactParseList': WHATEVER THE INPUT: true; the input reads as it did. -/
def fnExactParseListSpec : ChangeSpec := { name := "fnExactParseList", fn := fun _ => fun
  | [d] => { results := [.lit (.bool true)], args := [d] }
  | _ => none }
def fnExactParseListRow : OpenClaim := { program := "ytmehlmhpgbjddaadoor", sum := "a6efd76e21a8b1fb20713e04feb33bbf51cb17024a2d274963cd3215de9e4438", func := "loop.example/mailwire/laws.FnExactParseList", spec := "fnExactParseList", inPlace := ["internal/bytealg.IndexByteString", "internal/bytealg.IndexString", "internal/bytealg.CountString", "internal/abi.NoEscape", "internal/bytealg.MakeNoZero"], unfollowed := true, recurses := true, named := ["unicode/utf8.first", "unicode/utf8.acceptRanges", "internal/bytealg.MaxLen"], apart := false, laid := [("unicode/utf8.acceptRanges", laid_unicode_utf8_acceptRanges), ("unicode/utf8.first", laid_unicode_utf8_first)] }
def FnExactParseListSaid : Prop := fnExactParseListRow.holds Tryd.pinned (OpenSpec.ofChange fnExactParseListSpec)

/-- ITS FALSE NEIGHBOUR: 'it returns false'. Refute it at one input. -/
def fnExactParseListWrong : ChangeSpec := { name := "fnExactParseList", fn := fun _ => fun
  | [d] => { results := [.lit (.bool false)], args := [d] }
  | _ => none }
def FnExactParseListWrongFalsely : Prop := fnExactParseListRow.holds Tryd.pinned (OpenSpec.ofChange fnExactParseListWrong)

/-- 'laws.FnListOne': WHATEVER THE INPUT: true; the input reads as it did. -/
def fnListOneSpec : ChangeSpec := { name := "fnListOne", fn := fun _ => fun
  | [d] => { results := [.lit (.bool true)], args := [d] }
  | _ => none }
def fnListOneRow : OpenClaim := { program := "ytmehlmhpgbjddaadoor", sum := "a6efd76e21a8b1fb20713e04feb33bbf51cb17024a2d274963cd3215de9e4438", func := "loop.example/mailwire/laws.FnListOne", spec := "fnListOne", inPlace := ["internal/bytealg.IndexByteString", "internal/bytealg.IndexString", "internal/bytealg.CountString", "internal/abi.NoEscape", "internal/bytealg.MakeNoZero"], unfollowed := true, recurses := true, named := ["unicode/utf8.first", "unicode/utf8.acceptRanges", "internal/bytealg.MaxLen"], apart := false, laid := [("unicode/utf8.acceptRanges", laid_unicode_utf8_acceptRanges), ("unicode/utf8.first", laid_unicode_utf8_first)] }
def FnListOneSaid : Prop := fnListOneRow.holds Tryd.pinned (OpenSpec.ofChange fnListOneSpec)

/-- ITS FALSE NEIGHBOUR: 'it returns false'. Refute it at one input. -/
def fnListOneWrong : ChangeSpec := { name := "fnListOne", fn := fun _ => fun
  | [d] => { results := [.lit (.bool false)], args := [d] }
  | _ => none }
def FnListOneWrongFalsely : Prop := fnListOneRow.holds Tryd.pinned (OpenSpec.ofChange fnListOneWrong)

/-- 'laws.FnAddressText': WHATEVER THE INPUT: true; the input reads as it did. -/
def fnAddressTextSpec : ChangeSpec := { name := "fnAddressText", fn := fun _ => fun
  | [d] => { results := [.lit (.bool true)], args := [d] }
  | _ => none }
def fnAddressTextRow : OpenClaim := { program := "ytmehlmhpgbjddaadoor", sum := "a6efd76e21a8b1fb20713e04feb33bbf51cb17024a2d274963cd3215de9e4438", func := "loop.example/mailwire/laws.FnAddressText", spec := "fnAddressText", inPlace := ["internal/bytealg.CountString", "internal/bytealg.IndexByteString", "internal/bytealg.IndexString", "internal/abi.NoEscape", "internal/bytealg.MakeNoZero"], unfollowed := true, recurses := true, named := ["unicode/utf8.first", "unicode/utf8.acceptRanges", "internal/bytealg.MaxLen"], apart := false, laid := [("unicode/utf8.acceptRanges", laid_unicode_utf8_acceptRanges), ("unicode/utf8.first", laid_unicode_utf8_first)] }
def FnAddressTextSaid : Prop := fnAddressTextRow.holds Tryd.pinned (OpenSpec.ofChange fnAddressTextSpec)

/-- ITS FALSE NEIGHBOUR: 'it returns false'. Refute it at one input. -/
def fnAddressTextWrong : ChangeSpec := { name := "fnAddressText", fn := fun _ => fun
  | [d] => { results := [.lit (.bool false)], args := [d] }
  | _ => none }
def FnAddressTextWrongFalsely : Prop := fnAddressTextRow.holds Tryd.pinned (OpenSpec.ofChange fnAddressTextWrong)

/-- 'laws.FnExactParseAddress': WHATEVER THE INPUT: true; the input reads as it did. -/
def fnExactParseAddressSpec : ChangeSpec := { name := "fnExactParseAddress", fn := fun _ => fun
  | [d] => { results := [.lit (.bool true)], args := [d] }
  | _ => none }
def fnExactParseAddressRow : OpenClaim := { program := "ytmehlmhpgbjddaadoor", sum := "a6efd76e21a8b1fb20713e04feb33bbf51cb17024a2d274963cd3215de9e4438", func := "loop.example/mailwire/laws.FnExactParseAddress", spec := "fnExactParseAddress", inPlace := ["internal/bytealg.IndexByteString", "internal/bytealg.IndexString", "internal/bytealg.CountString", "internal/abi.NoEscape", "internal/bytealg.MakeNoZero"], unfollowed := true, recurses := true, named := ["unicode/utf8.first", "unicode/utf8.acceptRanges", "internal/bytealg.MaxLen"], apart := false, laid := [("unicode/utf8.acceptRanges", laid_unicode_utf8_acceptRanges), ("unicode/utf8.first", laid_unicode_utf8_first)] }
def FnExactParseAddressSaid : Prop := fnExactParseAddressRow.holds Tryd.pinned (OpenSpec.ofChange fnExactParseAddressSpec)

/-- ITS FALSE NEIGHBOUR: 'it returns false'. Refute it at one input. -/
def fnExactParseAddressWrong : ChangeSpec := { name := "fnExactParseAddress", fn := fun _ => fun
  | [d] => { results := [.lit (.bool false)], args := [d] }
  | _ => none }
def FnExactParseAddressWrongFalsely : Prop := fnExactParseAddressRow.holds Tryd.pinned (OpenSpec.ofChange fnExactParseAddressWrong)

/-- 'laws.FnAddressCapital': WHATEVER THE INPUT: true; the input reads as it did. -/
def fnAddressCapitalSpec : ChangeSpec := { name := "fnAddressCapital", fn := fun _ => fun
  | [d] => { results := [.lit (.bool true)], args := [d] }
  | _ => none }
def fnAddressCapitalRow : OpenClaim := { program := "ytmehlmhpgbjddaadoor", sum := "a6efd76e21a8b1fb20713e04feb33bbf51cb17024a2d274963cd3215de9e4438", func := "loop.example/mailwire/laws.FnAddressCapital", spec := "fnAddressCapital", inPlace := ["internal/bytealg.IndexByteString", "internal/bytealg.IndexString", "internal/bytealg.CountString", "internal/abi.NoEscape", "internal/bytealg.MakeNoZero"], unfollowed := true, recurses := true, named := ["unicode/utf8.first", "unicode/utf8.acceptRanges", "internal/bytealg.MaxLen"], apart := false, laid := [("unicode/utf8.acceptRanges", laid_unicode_utf8_acceptRanges), ("unicode/utf8.first", laid_unicode_utf8_first)] }
def FnAddressCapitalSaid : Prop := fnAddressCapitalRow.holds Tryd.pinned (OpenSpec.ofChange fnAddressCapitalSpec)

/-- ITS FALSE NEIGHBOUR: 'it returns false'. Refute it at one input. -/
def fnAddressCapitalWrong : ChangeSpec := { name := "fnAddressCapital", fn := fun _ => fun
  | [d] => { results := [.lit (.bool false)], args := [d] }
  | _ => none }
def FnAddressCapitalWrongFalsely : Prop := fnAddressCapitalRow.holds Tryd.pinned (OpenSpec.ofChange fnAddressCapitalWrong)

/-- 'laws.FnParseAddress': WHATEVER THE INPUT: true; the input reads as it did. -/
def fnParseAddressSpec : ChangeSpec := { name := "fnParseAddress", fn := fun _ => fun
  | [d] => { results := [.lit (.bool true)], args := [d] }
  | _ => none }
def fnParseAddressRow : OpenClaim := { program := "ytmehlmhpgbjddaadoor", sum := "a6efd76e21a8b1fb20713e04feb33bbf51cb17024a2d274963cd3215de9e4438", func := "loop.example/mailwire/laws.FnParseAddress", spec := "fnParseAddress", inPlace := ["internal/bytealg.IndexByteString", "internal/bytealg.IndexString", "internal/bytealg.CountString", "internal/abi.NoEscape", "internal/bytealg.MakeNoZero"], unfollowed := true, recurses := true, named := ["unicode/utf8.first", "unicode/utf8.acceptRanges", "internal/bytealg.MaxLen"], apart := false, laid := [("unicode/utf8.acceptRanges", laid_unicode_utf8_acceptRanges), ("unicode/utf8.first", laid_unicode_utf8_first)] }
def FnParseAddressSaid : Prop := fnParseAddressRow.holds Tryd.pinned (OpenSpec.ofChange fnParseAddressSpec)

/-- ITS FALSE NEIGHBOUR: 'it returns false'. Refute it at one input. -/
def fnParseAddressWrong : ChangeSpec := { name := "fnParseAddress", fn := fun _ => fun
  | [d] => { results := [.lit (.bool false)], args := [d] }
  | _ => none }
def FnParseAddressWrongFalsely : Prop := fnParseAddressRow.holds Tryd.pinned (OpenSpec.ofChange fnParseAddressWrong)

/-- 'laws.FnListParts': WHATEVER THE INPUT: true; the input reads as it did. -/
def fnListPartsSpec : ChangeSpec := { name := "fnListParts", fn := fun _ => fun
  | [d] => { results := [.lit (.bool true)], args := [d] }
  | _ => none }
def fnListPartsRow : OpenClaim := { program := "ytmehlmhpgbjddaadoor", sum := "a6efd76e21a8b1fb20713e04feb33bbf51cb17024a2d274963cd3215de9e4438", func := "loop.example/mailwire/laws.FnListParts", spec := "fnListParts", inPlace := ["internal/bytealg.CountString", "internal/bytealg.IndexByteString", "internal/bytealg.IndexString", "internal/abi.NoEscape", "internal/bytealg.MakeNoZero"], unfollowed := true, recurses := true, named := ["unicode/utf8.first", "unicode/utf8.acceptRanges", "internal/bytealg.MaxLen"], apart := false, laid := [("unicode/utf8.acceptRanges", laid_unicode_utf8_acceptRanges), ("unicode/utf8.first", laid_unicode_utf8_first)] }
def FnListPartsSaid : Prop := fnListPartsRow.holds Tryd.pinned (OpenSpec.ofChange fnListPartsSpec)

/-- ITS FALSE NEIGHBOUR: 'it returns false'. Refute it at one input. -/
def fnListPartsWrong : ChangeSpec := { name := "fnListParts", fn := fun _ => fun
  | [d] => { results := [.lit (.bool false)], args := [d] }
  | _ => none }
def FnListPartsWrongFalsely : Prop := fnListPartsRow.holds Tryd.pinned (OpenSpec.ofChange fnListPartsWrong)

/-- 'laws.FnExactFormatList': WHATEVER THE INPUT: true; the input reads as it did. -/
def fnExactFormatListSpec : ChangeSpec := { name := "fnExactFormatList", fn := fun _ => fun
  | [d] => { results := [.lit (.bool true)], args := [d] }
  | _ => none }
def fnExactFormatListRow : OpenClaim := { program := "ytmehlmhpgbjddaadoor", sum := "a6efd76e21a8b1fb20713e04feb33bbf51cb17024a2d274963cd3215de9e4438", func := "loop.example/mailwire/laws.FnExactFormatList", spec := "fnExactFormatList", inPlace := ["internal/bytealg.CountString", "internal/bytealg.IndexByteString", "internal/bytealg.IndexString", "internal/abi.NoEscape", "internal/bytealg.MakeNoZero"], unfollowed := true, recurses := true, named := ["unicode/utf8.first", "unicode/utf8.acceptRanges", "internal/bytealg.MaxLen"], apart := false, laid := [("unicode/utf8.acceptRanges", laid_unicode_utf8_acceptRanges), ("unicode/utf8.first", laid_unicode_utf8_first)] }
def FnExactFormatListSaid : Prop := fnExactFormatListRow.holds Tryd.pinned (OpenSpec.ofChange fnExactFormatListSpec)

/-- ITS FALSE NEIGHBOUR: 'it returns false'. Refute it at one input. -/
def fnExactFormatListWrong : ChangeSpec := { name := "fnExactFormatList", fn := fun _ => fun
  | [d] => { results := [.lit (.bool false)], args := [d] }
  | _ => none }
def FnExactFormatListWrongFalsely : Prop := fnExactFormatListRow.holds Tryd.pinned (OpenSpec.ofChange fnExactFormatListWrong)

/- THE SECOND FORM. 'bulk': how many values and letters a reading holds, each counted each time it is reached (what is shared counts as often as it is met; a slice's spare places count too). A statement '..UptoSaid' is the law's where the arguments, and the package variables that the reading takes, are together of bulk at most 1048576: NARROWER than '..Said'. Prove '..Said' where nothing that the law and all that it calls make is longer than what came in: it says more and counts as full. Else prove '..UptoSaid'. A law counts once. -/
mutual
def uptoBulk {H : Type} : DataW H → Nat
  | .lit (.string bytes) => bytes.length + 1
  | .lit _ => 1
  | .nil => 1
  | .ptr d => uptoBulk d + 1
  | .slice elems spare => uptoBulkAll elems + uptoBulkAll spare + 1
  | .agg parts => uptoBulkAll parts + 1
  | .iface _ d => uptoBulk d + 1
  | .map entries => uptoBulkEntries entries + 1
  | .held _ => 1
def uptoBulkAll {H : Type} : List (DataW H) → Nat
  | [] => 0
  | d :: r => uptoBulk d + uptoBulkAll r
def uptoBulkEntries {H : Type} : List (Lit × DataW H) → Nat
  | [] => 0
  | x :: r => uptoBulkEntry x + uptoBulkEntries r
def uptoBulkEntry {H : Type} : Lit × DataW H → Nat
  | (.string bytes, d) => bytes.length + uptoBulk d + 1
  | (_, d) => uptoBulk d + 1
 end
def uptoSmall : (H : Type) → List (DataW H) → Bool := fun _ ds => decide (uptoBulkAll ds ≤ 1048576)
def OpenSpec.upto (s : _root_.Go.ChangeSpec) : _root_.Go.OpenSpec := { _root_.Go.OpenSpec.ofChange s with cond := some uptoSmall }

/-- 'laws.FnExactParseList', WHERE WHAT IT READS IS OF BULK AT MOST 1048576: true; the input reads as it did. -/
def fnExactParseListUptoRow : OpenClaim := { program := "ytmehlmhpgbjddaadoor", sum := "a6efd76e21a8b1fb20713e04feb33bbf51cb17024a2d274963cd3215de9e4438", func := "loop.example/mailwire/laws.FnExactParseList", spec := "fnExactParseList", inPlace := ["internal/bytealg.IndexByteString", "internal/bytealg.IndexString", "internal/bytealg.CountString", "internal/abi.NoEscape", "internal/bytealg.MakeNoZero"], unfollowed := true, recurses := true, named := ["unicode/utf8.first", "unicode/utf8.acceptRanges", "internal/bytealg.MaxLen"], apart := false, laid := [("unicode/utf8.acceptRanges", laid_unicode_utf8_acceptRanges), ("unicode/utf8.first", laid_unicode_utf8_first)], narrowed := true }
def FnExactParseListUptoSaid : Prop := fnExactParseListUptoRow.holds Tryd.pinned (OpenSpec.upto fnExactParseListSpec)

/-- 'laws.FnListOne', WHERE WHAT IT READS IS OF BULK AT MOST 1048576: true; the input reads as it did. -/
def fnListOneUptoRow : OpenClaim := { program := "ytmehlmhpgbjddaadoor", sum := "a6efd76e21a8b1fb20713e04feb33bbf51cb17024a2d274963cd3215de9e4438", func := "loop.example/mailwire/laws.FnListOne", spec := "fnListOne", inPlace := ["internal/bytealg.IndexByteString", "internal/bytealg.IndexString", "internal/bytealg.CountString", "internal/abi.NoEscape", "internal/bytealg.MakeNoZero"], unfollowed := true, recurses := true, named := ["unicode/utf8.first", "unicode/utf8.acceptRanges", "internal/bytealg.MaxLen"], apart := false, laid := [("unicode/utf8.acceptRanges", laid_unicode_utf8_acceptRanges), ("unicode/utf8.first", laid_unicode_utf8_first)], narrowed := true }
def FnListOneUptoSaid : Prop := fnListOneUptoRow.holds Tryd.pinned (OpenSpec.upto fnListOneSpec)

/-- 'laws.FnAddressText', WHERE WHAT IT READS IS OF BULK AT MOST 1048576: true; the input reads as it did. -/
def fnAddressTextUptoRow : OpenClaim := { program := "ytmehlmhpgbjddaadoor", sum := "a6efd76e21a8b1fb20713e04feb33bbf51cb17024a2d274963cd3215de9e4438", func := "loop.example/mailwire/laws.FnAddressText", spec := "fnAddressText", inPlace := ["internal/bytealg.CountString", "internal/bytealg.IndexByteString", "internal/bytealg.IndexString", "internal/abi.NoEscape", "internal/bytealg.MakeNoZero"], unfollowed := true, recurses := true, named := ["unicode/utf8.first", "unicode/utf8.acceptRanges", "internal/bytealg.MaxLen"], apart := false, laid := [("unicode/utf8.acceptRanges", laid_unicode_utf8_acceptRanges), ("unicode/utf8.first", laid_unicode_utf8_first)], narrowed := true }
def FnAddressTextUptoSaid : Prop := fnAddressTextUptoRow.holds Tryd.pinned (OpenSpec.upto fnAddressTextSpec)

/-- 'laws.FnExactParseAddress', WHERE WHAT IT READS IS OF BULK AT MOST 1048576: true; the input reads as it did. -/
def fnExactParseAddressUptoRow : OpenClaim := { program := "ytmehlmhpgbjddaadoor", sum := "a6efd76e21a8b1fb20713e04feb33bbf51cb17024a2d274963cd3215de9e4438", func := "loop.example/mailwire/laws.FnExactParseAddress", spec := "fnExactParseAddress", inPlace := ["internal/bytealg.IndexByteString", "internal/bytealg.IndexString", "internal/bytealg.CountString", "internal/abi.NoEscape", "internal/bytealg.MakeNoZero"], unfollowed := true, recurses := true, named := ["unicode/utf8.first", "unicode/utf8.acceptRanges", "internal/bytealg.MaxLen"], apart := false, laid := [("unicode/utf8.acceptRanges", laid_unicode_utf8_acceptRanges), ("unicode/utf8.first", laid_unicode_utf8_first)], narrowed := true }
def FnExactParseAddressUptoSaid : Prop := fnExactParseAddressUptoRow.holds Tryd.pinned (OpenSpec.upto fnExactParseAddressSpec)

/-- 'laws.FnAddressCapital', WHERE WHAT IT READS IS OF BULK AT MOST 1048576: true; the input reads as it did. -/
def fnAddressCapitalUptoRow : OpenClaim := { program := "ytmehlmhpgbjddaadoor", sum := "a6efd76e21a8b1fb20713e04feb33bbf51cb17024a2d274963cd3215de9e4438", func := "loop.example/mailwire/laws.FnAddressCapital", spec := "fnAddressCapital", inPlace := ["internal/bytealg.IndexByteString", "internal/bytealg.IndexString", "internal/bytealg.CountString", "internal/abi.NoEscape", "internal/bytealg.MakeNoZero"], unfollowed := true, recurses := true, named := ["unicode/utf8.first", "unicode/utf8.acceptRanges", "internal/bytealg.MaxLen"], apart := false, laid := [("unicode/utf8.acceptRanges", laid_unicode_utf8_acceptRanges), ("unicode/utf8.first", laid_unicode_utf8_first)], narrowed := true }
def FnAddressCapitalUptoSaid : Prop := fnAddressCapitalUptoRow.holds Tryd.pinned (OpenSpec.upto fnAddressCapitalSpec)

/-- 'laws.FnParseAddress', WHERE WHAT IT READS IS OF BULK AT MOST 1048576: true; the input reads as it did. -/
def fnParseAddressUptoRow : OpenClaim := { program := "ytmehlmhpgbjddaadoor", sum := "a6efd76e21a8b1fb20713e04feb33bbf51cb17024a2d274963cd3215de9e4438", func := "loop.example/mailwire/laws.FnParseAddress", spec := "fnParseAddress", inPlace := ["internal/bytealg.IndexByteString", "internal/bytealg.IndexString", "internal/bytealg.CountString", "internal/abi.NoEscape", "internal/bytealg.MakeNoZero"], unfollowed := true, recurses := true, named := ["unicode/utf8.first", "unicode/utf8.acceptRanges", "internal/bytealg.MaxLen"], apart := false, laid := [("unicode/utf8.acceptRanges", laid_unicode_utf8_acceptRanges), ("unicode/utf8.first", laid_unicode_utf8_first)], narrowed := true }
def FnParseAddressUptoSaid : Prop := fnParseAddressUptoRow.holds Tryd.pinned (OpenSpec.upto fnParseAddressSpec)

/-- 'laws.FnListParts', WHERE WHAT IT READS IS OF BULK AT MOST 1048576: true; the input reads as it did. -/
def fnListPartsUptoRow : OpenClaim := { program := "ytmehlmhpgbjddaadoor", sum := "a6efd76e21a8b1fb20713e04feb33bbf51cb17024a2d274963cd3215de9e4438", func := "loop.example/mailwire/laws.FnListParts", spec := "fnListParts", inPlace := ["internal/bytealg.CountString", "internal/bytealg.IndexByteString", "internal/bytealg.IndexString", "internal/abi.NoEscape", "internal/bytealg.MakeNoZero"], unfollowed := true, recurses := true, named := ["unicode/utf8.first", "unicode/utf8.acceptRanges", "internal/bytealg.MaxLen"], apart := false, laid := [("unicode/utf8.acceptRanges", laid_unicode_utf8_acceptRanges), ("unicode/utf8.first", laid_unicode_utf8_first)], narrowed := true }
def FnListPartsUptoSaid : Prop := fnListPartsUptoRow.holds Tryd.pinned (OpenSpec.upto fnListPartsSpec)

/-- 'laws.FnExactFormatList', WHERE WHAT IT READS IS OF BULK AT MOST 1048576: true; the input reads as it did. -/
def fnExactFormatListUptoRow : OpenClaim := { program := "ytmehlmhpgbjddaadoor", sum := "a6efd76e21a8b1fb20713e04feb33bbf51cb17024a2d274963cd3215de9e4438", func := "loop.example/mailwire/laws.FnExactFormatList", spec := "fnExactFormatList", inPlace := ["internal/bytealg.CountString", "internal/bytealg.IndexByteString", "internal/bytealg.IndexString", "internal/abi.NoEscape", "internal/bytealg.MakeNoZero"], unfollowed := true, recurses := true, named := ["unicode/utf8.first", "unicode/utf8.acceptRanges", "internal/bytealg.MaxLen"], apart := false, laid := [("unicode/utf8.acceptRanges", laid_unicode_utf8_acceptRanges), ("unicode/utf8.first", laid_unicode_utf8_first)], narrowed := true }
def FnExactFormatListUptoSaid : Prop := fnExactFormatListUptoRow.holds Tryd.pinned (OpenSpec.upto fnExactFormatListSpec)

end Rows
end Go.Proofs.YtmehlmhpgbjddaaDoor
