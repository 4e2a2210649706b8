/-
  NARROWER THAN 'FOR EVERY INPUT', by the rows' own cells (each row's printed sentence says how): FnExactFieldValid: laid · FnFieldValid: laid · FnExactAddressValid: laid · FnAddressValid: laid · FnExactFormatAddress: laid · FnAddressName: laid · FnExactFoldField: laid · FnFoldWidth: laid · FnDropPut: laid.
  DERIVED. THE GIVEN ROWS OF THIS SEAT. 9 by the template 'for every input the law returns true; each argument reads behind the call as it read before'; 0 by the template 'total and deterministic' (their statements: YtcnkakaipajloaaDoorTotals.lean).
  GIVEN WITH THE SEED: the statements are not yours to turn. If you find one false, say at which input.
  Laid BY PROGRAM, IN A SANDBOX (cutbox-rows.mjs): the forced cells as the released guide's own fill.sh prints them over the translation d20d88eae045bd05… (all of the seat's roots in one cut). By AI agents, Wed Nov 11 2026. No macro, syntax, notation, axiom, sorry.
-/
import Derived.Test.YtcnkakaipajloaaDoorChecked
import GoSem.PinnedTables
import GoSem.Claim
import GoSem.ClaimJoined
import GoSem.ClaimMapViews
import Derived.JoinedTies
import Derived.KernelRfl
namespace Go.Proofs.YtcnkakaipajloaaDoor
/- THE CELL 'sum', in the pinned program and in every row, IS THE sha256 OF THE DUMP (.gsa) THAT YtcnkakaipajloaaDoorProg.lean LOADS. Nothing in Lean hashes anything: it is a label: what it is worth is what the hold of that sum in a sandbox is worth. -/
noncomputable def Tryd.pinned : Pinned := { name := "ytcnkakaipajloaadoor", sum := "d20d88eae045bd054776b32c5f39dbf8a0e9233bcc4abc1820df269dc06f6dfb", checked := Tryd.checked }
namespace Rows
def none {H : Type} : Left H := { results := [], args := [] }

/- WHAT THE LISTED PACKAGE-LEVEL VARIABLES READ AS WHEN THE CALL BEGINS. Each datum BY PROGRAM (the guide's laid-datum.mjs) off the statement by which the dump's own 'gosem.cut.vars' lays the variable. In a bare row this is a premise. The card (YtcnkakaipajloaaDoorCards.lean) ties it to the program's text. -/
def laid_unicode_utf8_acceptRanges {H : Type} : DataW H := .agg [.agg [.lit (.int .u8 128), .lit (.int .u8 191)], .agg [.lit (.int .u8 160), .lit (.int .u8 191)], .agg [.lit (.int .u8 128), .lit (.int .u8 159)], .agg [.lit (.int .u8 144), .lit (.int .u8 191)], .agg [.lit (.int .u8 128), .lit (.int .u8 143)], .agg [.lit (.int .u8 0), .lit (.int .u8 0)], .agg [.lit (.int .u8 0), .lit (.int .u8 0)], .agg [.lit (.int .u8 0), .lit (.int .u8 0)], .agg [.lit (.int .u8 0), .lit (.int .u8 0)], .agg [.lit (.int .u8 0), .lit (.int .u8 0)], .agg [.lit (.int .u8 0), .lit (.int .u8 0)], .agg [.lit (.int .u8 0), .lit (.int .u8 0)], .agg [.lit (.int .u8 0), .lit (.int .u8 0)], .agg [.lit (.int .u8 0), .lit (.int .u8 0)], .agg [.lit (.int .u8 0), .lit (.int .u8 0)], .agg [.lit (.int .u8 0), .lit (.int .u8 0)]]
/-- One of Go's own tables, pinned by name: the form's constant. -/
def laid_unicode_utf8_first : DataW Unit := Go.Pinned.utf8First

/-- 'laws.FnExactFieldValid': WHATEVER THE INPUT: true; the input reads as it did. -/
def fnExactFieldValidSpec : ChangeSpec := { name := "fnExactFieldValid", fn := fun _ => fun
  | [d] => { results := [.lit (.bool true)], args := [d] }
  | _ => none }
def fnExactFieldValidRow : OpenClaim := { program := "ytcnkakaipajloaadoor", sum := "d20d88eae045bd054776b32c5f39dbf8a0e9233bcc4abc1820df269dc06f6dfb", func := "loop.example/mailwire/laws.FnExactFieldValid", spec := "fnExactFieldValid", inPlace := ["internal/bytealg.IndexByteString", "internal/bytealg.IndexString"], unfollowed := true, recurses := true, named := ["unicode/utf8.first", "unicode/utf8.acceptRanges", "internal/bytealg.MaxLen"], apart := false, laid := [("unicode/utf8.acceptRanges", laid_unicode_utf8_acceptRanges), ("unicode/utf8.first", laid_unicode_utf8_first)] }
def FnExactFieldValidSaid : Prop := fnExactFieldValidRow.holds Tryd.pinned (OpenSpec.ofChange fnExactFieldValidSpec)

/-- ITS FALSE NEIGHBOUR: 'it returns false'. Refute it at one input. -/
def fnExactFieldValidWrong : ChangeSpec := { name := "fnExactFieldValid", fn := fun _ => fun
  | [d] => { results := [.lit (.bool false)], args := [d] }
  | _ => none }
def FnExactFieldValidWrongFalsely : Prop := fnExactFieldValidRow.holds Tryd.pinned (OpenSpec.ofChange fnExactFieldValidWrong)

/-- 'laws.FnFieldValid': WHATEVER THE INPUT: true; the input reads as it did. -/
def fnFieldValidSpec : ChangeSpec := { name := "fnFieldValid", fn := fun _ => fun
  | [d] => { results := [.lit (.bool true)], args := [d] }
  | _ => none }
def fnFieldValidRow : OpenClaim := { program := "ytcnkakaipajloaadoor", sum := "d20d88eae045bd054776b32c5f39dbf8a0e9233bcc4abc1820df269dc06f6dfb", func := "loop.example/mailwire/laws.FnFieldValid", spec := "fnFieldValid", inPlace := ["internal/bytealg.IndexByteString", "internal/bytealg.IndexString"], unfollowed := true, recurses := true, named := ["unicode/utf8.first", "unicode/utf8.acceptRanges", "internal/bytealg.MaxLen"], apart := false, laid := [("unicode/utf8.acceptRanges", laid_unicode_utf8_acceptRanges), ("unicode/utf8.first", laid_unicode_utf8_first)] }
def FnFieldValidSaid : Prop := fnFieldValidRow.holds Tryd.pinned (OpenSpec.ofChange fnFieldValidSpec)

/-- ITS FALSE NEIGHBOUR: 'it returns false'. Refute it at one input. -/
def fnFieldValidWrong : ChangeSpec := { name := "fnFieldValid", fn := fun _ => fun
  | [d] => { results := [.lit (.bool false)], args := [d] }
  | _ => none }
def FnFieldValidWrongFalsely : Prop := fnFieldValidRow.holds Tryd.pinned (OpenSpec.ofChange fnFieldValidWrong)

/-- 'laws.FnExactAddressValid': WHATEVER THE INPUT: true; the input reads as it did. -/
def fnExactAddressValidSpec : ChangeSpec := { name := "fnExactAddressValid", fn := fun _ => fun
  | [d] => { results := [.lit (.bool true)], args := [d] }
  | _ => none }
def fnExactAddressValidRow : OpenClaim := { program := "ytcnkakaipajloaadoor", sum := "d20d88eae045bd054776b32c5f39dbf8a0e9233bcc4abc1820df269dc06f6dfb", func := "loop.example/mailwire/laws.FnExactAddressValid", spec := "fnExactAddressValid", inPlace := ["internal/bytealg.CountString", "internal/bytealg.IndexByteString", "internal/bytealg.IndexString"], unfollowed := true, recurses := true, named := ["unicode/utf8.first", "unicode/utf8.acceptRanges", "internal/bytealg.MaxLen"], apart := false, laid := [("unicode/utf8.acceptRanges", laid_unicode_utf8_acceptRanges), ("unicode/utf8.first", laid_unicode_utf8_first)] }
def FnExactAddressValidSaid : Prop := fnExactAddressValidRow.holds Tryd.pinned (OpenSpec.ofChange fnExactAddressValidSpec)

/-- ITS FALSE NEIGHBOUR: 'it returns false'. Refute it at one input. -/
def fnExactAddressValidWrong : ChangeSpec := { name := "fnExactAddressValid", fn := fun _ => fun
  | [d] => { results := [.lit (.bool false)], args := [d] }
  | _ => none }
def FnExactAddressValidWrongFalsely : Prop := fnExactAddressValidRow.holds Tryd.pinned (OpenSpec.ofChange fnExactAddressValidWrong)

/-- 'laws.FnAddressValid': WHATEVER THE INPUT: true; the input reads as it did. -/
def fnAddressValidSpec : ChangeSpec := { name := "fnAddressValid", fn := fun _ => fun
  | [d] => { results := [.lit (.bool true)], args := [d] }
  | _ => none }
def fnAddressValidRow : OpenClaim := { program := "ytcnkakaipajloaadoor", sum := "d20d88eae045bd054776b32c5f39dbf8a0e9233bcc4abc1820df269dc06f6dfb", func := "loop.example/mailwire/laws.FnAddressValid", spec := "fnAddressValid", inPlace := ["internal/bytealg.CountString", "internal/bytealg.IndexByteString", "internal/bytealg.IndexString"], unfollowed := true, recurses := true, named := ["unicode/utf8.first", "unicode/utf8.acceptRanges", "internal/bytealg.MaxLen"], apart := false, laid := [("unicode/utf8.acceptRanges", laid_unicode_utf8_acceptRanges), ("unicode/utf8.first", laid_unicode_utf8_first)] }
def FnAddressValidSaid : Prop := fnAddressValidRow.holds Tryd.pinned (OpenSpec.ofChange fnAddressValidSpec)

/-- ITS FALSE NEIGHBOUR: 'it returns false'. Refute it at one input. -/
def fnAddressValidWrong : ChangeSpec := { name := "fnAddressValid", fn := fun _ => fun
  | [d] => { results := [.lit (.bool false)], args := [d] }
  | _ => none }
def FnAddressValidWrongFalsely : Prop := fnAddressValidRow.holds Tryd.pinned (OpenSpec.ofChange fnAddressValidWrong)

/-- 'laws.FnExactFormatAddress': WHATEVER THE INPUT: true; the input reads as it did. -/
def fnExactFormatAddressSpec : ChangeSpec := { name := "fnExactFormatAddress", fn := fun _ => fun
  | [d] => { results := [.lit (.bool true)], args := [d] }
  | _ => none }
def fnExactFormatAddressRow : OpenClaim := { program := "ytcnkakaipajloaadoor", sum := "d20d88eae045bd054776b32c5f39dbf8a0e9233bcc4abc1820df269dc06f6dfb", func := "loop.example/mailwire/laws.FnExactFormatAddress", spec := "fnExactFormatAddress", inPlace := ["internal/bytealg.CountString", "internal/bytealg.IndexByteString", "internal/bytealg.IndexString"], unfollowed := true, recurses := true, named := ["unicode/utf8.first", "unicode/utf8.acceptRanges", "internal/bytealg.MaxLen"], apart := false, laid := [("unicode/utf8.acceptRanges", laid_unicode_utf8_acceptRanges), ("unicode/utf8.first", laid_unicode_utf8_first)] }
def FnExactFormatAddressSaid : Prop := fnExactFormatAddressRow.holds Tryd.pinned (OpenSpec.ofChange fnExactFormatAddressSpec)

/-- ITS FALSE NEIGHBOUR: 'it returns false'. Refute it at one input. -/
def fnExactFormatAddressWrong : ChangeSpec := { name := "fnExactFormatAddress", fn := fun _ => fun
  | [d] => { results := [.lit (.bool false)], args := [d] }
  | _ => none }
def FnExactFormatAddressWrongFalsely : Prop := fnExactFormatAddressRow.holds Tryd.pinned (OpenSpec.ofChange fnExactFormatAddressWrong)

/-- 'laws.FnAddressName': WHATEVER THE INPUT: true; the input reads as it did. -/
def fnAddressNameSpec : ChangeSpec := { name := "fnAddressName", fn := fun _ => fun
  | [d] => { results := [.lit (.bool true)], args := [d] }
  | _ => none }
def fnAddressNameRow : OpenClaim := { program := "ytcnkakaipajloaadoor", sum := "d20d88eae045bd054776b32c5f39dbf8a0e9233bcc4abc1820df269dc06f6dfb", func := "loop.example/mailwire/laws.FnAddressName", spec := "fnAddressName", inPlace := ["internal/bytealg.CountString", "internal/bytealg.IndexByteString", "internal/bytealg.IndexString"], unfollowed := true, recurses := true, named := ["unicode/utf8.first", "unicode/utf8.acceptRanges", "internal/bytealg.MaxLen"], apart := false, laid := [("unicode/utf8.acceptRanges", laid_unicode_utf8_acceptRanges), ("unicode/utf8.first", laid_unicode_utf8_first)] }
def FnAddressNameSaid : Prop := fnAddressNameRow.holds Tryd.pinned (OpenSpec.ofChange fnAddressNameSpec)

/-- ITS FALSE NEIGHBOUR: 'it returns false'. Refute it at one input. -/
def fnAddressNameWrong : ChangeSpec := { name := "fnAddressName", fn := fun _ => fun
  | [d] => { results := [.lit (.bool false)], args := [d] }
  | _ => none }
def FnAddressNameWrongFalsely : Prop := fnAddressNameRow.holds Tryd.pinned (OpenSpec.ofChange fnAddressNameWrong)

/-- 'laws.FnExactFoldField': WHATEVER THE INPUT: true; the input reads as it did. -/
def fnExactFoldFieldSpec : ChangeSpec := { name := "fnExactFoldField", fn := fun _ => fun
  | [d] => { results := [.lit (.bool true)], args := [d] }
  | _ => none }
def fnExactFoldFieldRow : OpenClaim := { program := "ytcnkakaipajloaadoor", sum := "d20d88eae045bd054776b32c5f39dbf8a0e9233bcc4abc1820df269dc06f6dfb", func := "loop.example/mailwire/laws.FnExactFoldField", spec := "fnExactFoldField", inPlace := ["internal/bytealg.IndexByteString", "internal/bytealg.IndexString"], unfollowed := true, recurses := true, named := ["unicode/utf8.first", "unicode/utf8.acceptRanges", "internal/bytealg.MaxLen"], apart := false, laid := [("unicode/utf8.acceptRanges", laid_unicode_utf8_acceptRanges), ("unicode/utf8.first", laid_unicode_utf8_first)] }
def FnExactFoldFieldSaid : Prop := fnExactFoldFieldRow.holds Tryd.pinned (OpenSpec.ofChange fnExactFoldFieldSpec)

/-- ITS FALSE NEIGHBOUR: 'it returns false'. Refute it at one input. -/
def fnExactFoldFieldWrong : ChangeSpec := { name := "fnExactFoldField", fn := fun _ => fun
  | [d] => { results := [.lit (.bool false)], args := [d] }
  | _ => none }
def FnExactFoldFieldWrongFalsely : Prop := fnExactFoldFieldRow.holds Tryd.pinned (OpenSpec.ofChange fnExactFoldFieldWrong)

/-- 'laws.FnFoldWidth': WHATEVER THE INPUT: true; the input reads as it did. -/
def fnFoldWidthSpec : ChangeSpec := { name := "fnFoldWidth", fn := fun _ => fun
  | [d] => { results := [.lit (.bool true)], args := [d] }
  | _ => none }
def fnFoldWidthRow : OpenClaim := { program := "ytcnkakaipajloaadoor", sum := "d20d88eae045bd054776b32c5f39dbf8a0e9233bcc4abc1820df269dc06f6dfb", func := "loop.example/mailwire/laws.FnFoldWidth", spec := "fnFoldWidth", inPlace := ["internal/bytealg.IndexByteString", "internal/bytealg.IndexString"], unfollowed := true, recurses := true, named := ["unicode/utf8.first", "unicode/utf8.acceptRanges", "internal/bytealg.MaxLen"], apart := false, laid := [("unicode/utf8.acceptRanges", laid_unicode_utf8_acceptRanges), ("unicode/utf8.first", laid_unicode_utf8_first)] }
def FnFoldWidthSaid : Prop := fnFoldWidthRow.holds Tryd.pinned (OpenSpec.ofChange fnFoldWidthSpec)

/-- ITS FALSE NEIGHBOUR: 'it returns false'. Refute it at one input. -/
def fnFoldWidthWrong : ChangeSpec := { name := "fnFoldWidth", fn := fun _ => fun
  | [d] => { results := [.lit (.bool false)], args := [d] }
  | _ => none }
def FnFoldWidthWrongFalsely : Prop := fnFoldWidthRow.holds Tryd.pinned (OpenSpec.ofChange fnFoldWidthWrong)

/-- 'laws.FnDropPut': WHATEVER THE INPUT: true; the input reads as it did. -/
def fnDropPutSpec : ChangeSpec := { name := "fnDropPut", fn := fun _ => fun
  | [d] => { results := [.lit (.bool true)], args := [d] }
  | _ => none }
def fnDropPutRow : OpenClaim := { program := "ytcnkakaipajloaadoor", sum := "d20d88eae045bd054776b32c5f39dbf8a0e9233bcc4abc1820df269dc06f6dfb", func := "loop.example/mailwire/laws.FnDropPut", spec := "fnDropPut", inPlace := ["internal/bytealg.IndexByteString", "internal/bytealg.IndexString"], unfollowed := true, recurses := true, named := ["unicode/utf8.first", "unicode/utf8.acceptRanges", "internal/bytealg.MaxLen"], apart := false, laid := [("unicode/utf8.acceptRanges", laid_unicode_utf8_acceptRanges), ("unicode/utf8.first", laid_unicode_utf8_first)] }
def FnDropPutSaid : Prop := fnDropPutRow.holds Tryd.pinned (OpenSpec.ofChange fnDropPutSpec)

/-- ITS FALSE NEIGHBOUR: 'it returns false'. Refute it at one input. -/
def fnDropPutWrong : ChangeSpec := { name := "fnDropPut", fn := fun _ => fun
  | [d] => { results := [.lit (.bool false)], args := [d] }
  | _ => none }
def FnDropPutWrongFalsely : Prop := fnDropPutRow.holds Tryd.pinned (OpenSpec.ofChange fnDropPutWrong)

/- THE SECOND FORM. 'bulk': how many values and letters a reading holds, each counted each time it is reached (what is shared counts as often as it is met; a slice's spare places count too). A statement '..UptoSaid' is the law's where the arguments, and the package variables that the reading takes, are together of bulk at most 1048576: NARROWER than '..Said'. Prove '..Said' where nothing that the law and all that it calls make is longer than what came in: it says more and counts as full. Else prove '..UptoSaid'. A law counts once. -/
mutual
def uptoBulk {H : Type} : DataW H → Nat
  | .lit (.string bytes) => bytes.length + 1
  | .lit _ => 1
  | .nil => 1
  | .ptr d => uptoBulk d + 1
  | .slice elems spare => uptoBulkAll elems + uptoBulkAll spare + 1
  | .agg parts => uptoBulkAll parts + 1
  | .iface _ d => uptoBulk d + 1
  | .map entries => uptoBulkEntries entries + 1
  | .held _ => 1
def uptoBulkAll {H : Type} : List (DataW H) → Nat
  | [] => 0
  | d :: r => uptoBulk d + uptoBulkAll r
def uptoBulkEntries {H : Type} : List (Lit × DataW H) → Nat
  | [] => 0
  | x :: r => uptoBulkEntry x + uptoBulkEntries r
def uptoBulkEntry {H : Type} : Lit × DataW H → Nat
  | (.string bytes, d) => bytes.length + uptoBulk d + 1
  | (_, d) => uptoBulk d + 1
 end
def uptoSmall : (H : Type) → List (DataW H) → Bool := fun _ ds => decide (uptoBulkAll ds ≤ 1048576)
def OpenSpec.upto (s : _root_.Go.ChangeSpec) : _root_.Go.OpenSpec := { _root_.Go.OpenSpec.ofChange s with cond := some uptoSmall }

/-- 'laws.FnExactFieldValid', WHERE WHAT IT READS IS OF BULK AT MOST 1048576: true; the input reads as it did. -/
def fnExactFieldValidUptoRow : OpenClaim := { program := "ytcnkakaipajloaadoor", sum := "d20d88eae045bd054776b32c5f39dbf8a0e9233bcc4abc1820df269dc06f6dfb", func := "loop.example/mailwire/laws.FnExactFieldValid", spec := "fnExactFieldValid", inPlace := ["internal/bytealg.IndexByteString", "internal/bytealg.IndexString"], unfollowed := true, recurses := true, named := ["unicode/utf8.first", "unicode/utf8.acceptRanges", "internal/bytealg.MaxLen"], apart := false, laid := [("unicode/utf8.acceptRanges", laid_unicode_utf8_acceptRanges), ("unicode/utf8.first", laid_unicode_utf8_first)], narrowed := true }
def FnExactFieldValidUptoSaid : Prop := fnExactFieldValidUptoRow.holds Tryd.pinned (OpenSpec.upto fnExactFieldValidSpec)

/-- 'laws.FnFieldValid', WHERE WHAT IT READS IS OF BULK AT MOST 1048576: true; the input reads as it did. -/
def fnFieldValidUptoRow : OpenClaim := { program := "ytcnkakaipajloaadoor", sum := "d20d88eae045bd054776b32c5f39dbf8a0e9233bcc4abc1820df269dc06f6dfb", func := "loop.example/mailwire/laws.FnFieldValid", spec := "fnFieldValid", inPlace := ["internal/bytealg.IndexByteString", "internal/bytealg.IndexString"], unfollowed := true, recurses := true, named := ["unicode/utf8.first", "unicode/utf8.acceptRanges", "internal/bytealg.MaxLen"], apart := false, laid := [("unicode/utf8.acceptRanges", laid_unicode_utf8_acceptRanges), ("unicode/utf8.first", laid_unicode_utf8_first)], narrowed := true }
def FnFieldValidUptoSaid : Prop := fnFieldValidUptoRow.holds Tryd.pinned (OpenSpec.upto fnFieldValidSpec)

/-- 'laws.FnExactAddressValid', WHERE WHAT IT READS IS OF BULK AT MOST 1048576: true; the input reads as it did. -/
def fnExactAddressValidUptoRow : OpenClaim := { program := "ytcnkakaipajloaadoor", sum := "d20d88eae045bd054776b32c5f39dbf8a0e9233bcc4abc1820df269dc06f6dfb", func := "loop.example/mailwire/laws.FnExactAddressValid", spec := "fnExactAddressValid", inPlace := ["internal/bytealg.CountString", "internal/bytealg.IndexByteString", "internal/bytealg.IndexString"], unfollowed := true, recurses := true, named := ["unicode/utf8.first", "unicode/utf8.acceptRanges", "internal/bytealg.MaxLen"], apart := false, laid := [("unicode/utf8.acceptRanges", laid_unicode_utf8_acceptRanges), ("unicode/utf8.first", laid_unicode_utf8_first)], narrowed := true }
def FnExactAddressValidUptoSaid : Prop := fnExactAddressValidUptoRow.holds Tryd.pinned (OpenSpec.upto fnExactAddressValidSpec)

/-- 'laws.FnAddressValid', WHERE WHAT IT READS IS OF BULK AT MOST 1048576: true; the input reads as it did. -/
def fnAddressValidUptoRow : OpenClaim := { program := "ytcnkakaipajloaadoor", sum := "d20d88eae045bd054776b32c5f39dbf8a0e9233bcc4abc1820df269dc06f6dfb", func := "loop.example/mailwire/laws.FnAddressValid", spec := "fnAddressValid", inPlace := ["internal/bytealg.CountString", "internal/bytealg.IndexByteString", "internal/bytealg.IndexString"], unfollowed := true, recurses := true, named := ["unicode/utf8.first", "unicode/utf8.acceptRanges", "internal/bytealg.MaxLen"], apart := false, laid := [("unicode/utf8.acceptRanges", laid_unicode_utf8_acceptRanges), ("unicode/utf8.first", laid_unicode_utf8_first)], narrowed := true }
def FnAddressValidUptoSaid : Prop := fnAddressValidUptoRow.holds Tryd.pinned (OpenSpec.upto fnAddressValidSpec)

/-- 'laws.FnExactFormatAddress', WHERE WHAT IT READS IS OF BULK AT MOST 1048576: true; the input reads as it did. -/
def fnExactFormatAddressUptoRow : OpenClaim := { program := "ytcnkakaipajloaadoor", sum := "d20d88eae045bd054776b32c5f39dbf8a0e9233bcc4abc1820df269dc06f6dfb", func := "loop.example/mailwire/laws.FnExactFormatAddress", spec := "fnExactFormatAddress", inPlace := ["internal/bytealg.CountString", "internal/bytealg.IndexByteString", "internal/bytealg.IndexString"], unfollowed := true, recurses := true, named := ["unicode/utf8.first", "unicode/utf8.acceptRanges", "internal/bytealg.MaxLen"], apart := false, laid := [("unicode/utf8.acceptRanges", laid_unicode_utf8_acceptRanges), ("unicode/utf8.first", laid_unicode_utf8_first)], narrowed := true }
def FnExactFormatAddressUptoSaid : Prop := fnExactFormatAddressUptoRow.holds Tryd.pinned (OpenSpec.upto fnExactFormatAddressSpec)

/-- 'laws.FnAddressName', WHERE WHAT IT READS IS OF BULK AT MOST 1048576: true; the input reads as it did. -/
def fnAddressNameUptoRow : OpenClaim := { program := "ytcnkakaipajloaadoor", sum := "d20d88eae045bd054776b32c5f39dbf8a0e9233bcc4abc1820df269dc06f6dfb", func := "loop.example/mailwire/laws.FnAddressName", spec := "fnAddressName", inPlace := ["internal/bytealg.CountString", "internal/bytealg.IndexByteString", "internal/bytealg.IndexString"], unfollowed := true, recurses := true, named := ["unicode/utf8.first", "unicode/utf8.acceptRanges", "internal/bytealg.MaxLen"], apart := false, laid := [("unicode/utf8.acceptRanges", laid_unicode_utf8_acceptRanges), ("unicode/utf8.first", laid_unicode_utf8_first)], narrowed := true }
def FnAddressNameUptoSaid : Prop := fnAddressNameUptoRow.holds Tryd.pinned (OpenSpec.upto fnAddressNameSpec)

/-- 'laws.FnExactFoldField', WHERE WHAT IT READS IS OF BULK AT MOST 1048576: true; the input reads as it did. -/
def fnExactFoldFieldUptoRow : OpenClaim := { program := "ytcnkakaipajloaadoor", sum := "d20d88eae045bd054776b32c5f39dbf8a0e9233bcc4abc1820df269dc06f6dfb", func := "loop.example/mailwire/laws.FnExactFoldField", spec := "fnExactFoldField", inPlace := ["internal/bytealg.IndexByteString", "internal/bytealg.IndexString"], unfollowed := true, recurses := true, named := ["unicode/utf8.first", "unicode/utf8.acceptRanges", "internal/bytealg.MaxLen"], apart := false, laid := [("unicode/utf8.acceptRanges", laid_unicode_utf8_acceptRanges), ("unicode/utf8.first", laid_unicode_utf8_first)], narrowed := true }
def FnExactFoldFieldUptoSaid : Prop := fnExactFoldFieldUptoRow.holds Tryd.pinned (OpenSpec.upto fnExactFoldFieldSpec)

/-- 'laws.FnFoldWidth', WHERE WHAT IT READS IS OF BULK AT MOST 1048576: true; the input reads as it did. -/
def fnFoldWidthUptoRow : OpenClaim := { program := "ytcnkakaipajloaadoor", sum := "d20d88eae045bd054776b32c5f39dbf8a0e9233bcc4abc1820df269dc06f6dfb", func := "loop.example/mailwire/laws.FnFoldWidth", spec := "fnFoldWidth", inPlace := ["internal/bytealg.IndexByteString", "internal/bytealg.IndexString"], unfollowed := true, recurses := true, named := ["unicode/utf8.first", "unicode/utf8.acceptRanges", "internal/bytealg.MaxLen"], apart := false, laid := [("unicode/utf8.acceptRanges", laid_unicode_utf8_acceptRanges), ("unicode/utf8.first", laid_unicode_utf8_first)], narrowed := true }
def FnFoldWidthUptoSaid : Prop := fnFoldWidthUptoRow.holds Tryd.pinned (OpenSpec.upto fnFoldWidthSpec)

/-- 'laws.FnDropPut', WHERE WHAT IT READS IS OF BULK AT MOST 1048576: true; the input reads as it did. -/
def fnDropPutUptoRow : OpenClaim := { program := "ytcnkakaipajloaadoor", sum := "d20d88eae045bd054776b32c5f39dbf8a0e9233bcc4abc1820df269dc06f6dfb", func := "loop.example/mailwire/laws.FnDropPut", spec := "fnDropPut", inPlace := ["internal/bytealg.IndexByteString", "internal/bytealg.IndexString"], unfollowed := true, recurses := true, named := ["unicode/utf8.first", "unicode/utf8.acceptRanges", "internal/bytealg.MaxLen"], apart := false, laid := [("unicode/utf8.acceptRanges", laid_unicode_utf8_acceptRanges), ("unicode/utf8.first", laid_unicode_utf8_first)], narrowed := true }
def FnDropPutUptoSaid : Prop := fnDropPutUptoRow.holds Tryd.pinned (OpenSpec.upto fnDropPutSpec)

end Rows
end Go.Proofs.YtcnkakaipajloaaDoor
