/-
  DERIVED. GIVEN WITH THE SEED: THE CARDS: each row of YtmehlmhpgbjddaaDoorRows.lean that lists a variable, with what it lists TIED to the program's text (the seventh form; the later family's looks); each row that meets fmt, with fmt's text TOLD by the authors' own Lean function (tested against real Go, not proved from fmt's source: count such statements apart). THE CARD IS WHAT COUNTS. Prove the row's statement (the work); the ties are given (YtmehlmhpgbjddaaDoorTie.lean); close each card by the builder's one call (the guide's Derived/Test/ToyasCard.lean, 'card_holds'). Laid BY PROGRAM, IN A SANDBOX (cutbox-door.mjs). By AI agents, Wed Nov 11 2026. No macro, syntax, notation, axiom, sorry.
-/
import Derived.Test.YtmehlmhpgbjddaaDoorRows
import GoSem.ClaimSeven
namespace Go.Proofs.YtmehlmhpgbjddaaDoor
namespace Rows

/-- THE TIED CARD OF 'laws.FnExactParseList'. -/
def fnExactParseListCard : Claim7 := { stood := { row := fnExactParseListRow, standIns := [], harness := (true, "c99e6576e7afd3d2ec920e721bac66b8d87167bc54c5d7fbd38a426545b92c59"), looks := false }, kinds := [], alts := [], laidByText := true, laidKinds := [.data, .pinned], laidTests := true, laidLooks := .later }
def FnExactParseListCardSaid : Prop := Claim7.holds Tryd.pinned (.plain (OpenSpec.ofChange fnExactParseListSpec)) fnExactParseListCard

/-- THE TIED CARD OF 'laws.FnListOne'. -/
def fnListOneCard : Claim7 := { stood := { row := fnListOneRow, standIns := [], harness := (true, "c99e6576e7afd3d2ec920e721bac66b8d87167bc54c5d7fbd38a426545b92c59"), looks := false }, kinds := [], alts := [], laidByText := true, laidKinds := [.data, .pinned], laidTests := true, laidLooks := .later }
def FnListOneCardSaid : Prop := Claim7.holds Tryd.pinned (.plain (OpenSpec.ofChange fnListOneSpec)) fnListOneCard

/-- THE TIED CARD OF 'laws.FnAddressText'. -/
def fnAddressTextCard : Claim7 := { stood := { row := fnAddressTextRow, standIns := [], harness := (true, "c99e6576e7afd3d2ec920e721bac66b8d87167bc54c5d7fbd38a426545b92c59"), looks := false }, kinds := [], alts := [], laidByText := true, laidKinds := [.data, .pinned], laidTests := true, laidLooks := .later }
def FnAddressTextCardSaid : Prop := Claim7.holds Tryd.pinned (.plain (OpenSpec.ofChange fnAddressTextSpec)) fnAddressTextCard

/-- THE TIED CARD OF 'laws.FnExactParseAddress'. -/
def fnExactParseAddressCard : Claim7 := { stood := { row := fnExactParseAddressRow, standIns := [], harness := (true, "c99e6576e7afd3d2ec920e721bac66b8d87167bc54c5d7fbd38a426545b92c59"), looks := false }, kinds := [], alts := [], laidByText := true, laidKinds := [.data, .pinned], laidTests := true, laidLooks := .later }
def FnExactParseAddressCardSaid : Prop := Claim7.holds Tryd.pinned (.plain (OpenSpec.ofChange fnExactParseAddressSpec)) fnExactParseAddressCard

/-- THE TIED CARD OF 'laws.FnAddressCapital'. -/
def fnAddressCapitalCard : Claim7 := { stood := { row := fnAddressCapitalRow, standIns := [], harness := (true, "c99e6576e7afd3d2ec920e721bac66b8d87167bc54c5d7fbd38a426545b92c59"), looks := false }, kinds := [], alts := [], laidByText := true, laidKinds := [.data, .pinned], laidTests := true, laidLooks := .later }
def FnAddressCapitalCardSaid : Prop := Claim7.holds Tryd.pinned (.plain (OpenSpec.ofChange fnAddressCapitalSpec)) fnAddressCapitalCard

/-- THE TIED CARD OF 'laws.FnParseAddress'. -/
def fnParseAddressCard : Claim7 := { stood := { row := fnParseAddressRow, standIns := [], harness := (true, "c99e6576e7afd3d2ec920e721bac66b8d87167bc54c5d7fbd38a426545b92c59"), looks := false }, kinds := [], alts := [], laidByText := true, laidKinds := [.data, .pinned], laidTests := true, laidLooks := .later }
def FnParseAddressCardSaid : Prop := Claim7.holds Tryd.pinned (.plain (OpenSpec.ofChange fnParseAddressSpec)) fnParseAddressCard

/-- THE TIED CARD OF 'laws.FnListParts'. -/
def fnListPartsCard : Claim7 := { stood := { row := fnListPartsRow, standIns := [], harness := (true, "c99e6576e7afd3d2ec920e721bac66b8d87167bc54c5d7fbd38a426545b92c59"), looks := false }, kinds := [], alts := [], laidByText := true, laidKinds := [.data, .pinned], laidTests := true, laidLooks := .later }
def FnListPartsCardSaid : Prop := Claim7.holds Tryd.pinned (.plain (OpenSpec.ofChange fnListPartsSpec)) fnListPartsCard

/-- THE TIED CARD OF 'laws.FnExactFormatList'. -/
def fnExactFormatListCard : Claim7 := { stood := { row := fnExactFormatListRow, standIns := [], harness := (true, "c99e6576e7afd3d2ec920e721bac66b8d87167bc54c5d7fbd38a426545b92c59"), looks := false }, kinds := [], alts := [], laidByText := true, laidKinds := [.data, .pinned], laidTests := true, laidLooks := .later }
def FnExactFormatListCardSaid : Prop := Claim7.holds Tryd.pinned (.plain (OpenSpec.ofChange fnExactFormatListSpec)) fnExactFormatListCard

/-- THE SECOND FORM's CARD OF 'laws.FnExactParseList'. -/
def fnExactParseListUptoCard : Claim7 := { stood := { row := fnExactParseListUptoRow, standIns := [], harness := (true, "c99e6576e7afd3d2ec920e721bac66b8d87167bc54c5d7fbd38a426545b92c59"), looks := false }, kinds := [], alts := [], laidByText := true, laidKinds := [.data, .pinned], laidTests := true, laidLooks := .later }
def FnExactParseListUptoCardSaid : Prop := Claim7.holds Tryd.pinned (.plain (OpenSpec.upto fnExactParseListSpec)) fnExactParseListUptoCard

/-- THE SECOND FORM's CARD OF 'laws.FnListOne'. -/
def fnListOneUptoCard : Claim7 := { stood := { row := fnListOneUptoRow, standIns := [], harness := (true, "c99e6576e7afd3d2ec920e721bac66b8d87167bc54c5d7fbd38a426545b92c59"), looks := false }, kinds := [], alts := [], laidByText := true, laidKinds := [.data, .pinned], laidTests := true, laidLooks := .later }
def FnListOneUptoCardSaid : Prop := Claim7.holds Tryd.pinned (.plain (OpenSpec.upto fnListOneSpec)) fnListOneUptoCard

/-- THE SECOND FORM's CARD OF 'laws.FnAddressText'. -/
def fnAddressTextUptoCard : Claim7 := { stood := { row := fnAddressTextUptoRow, standIns := [], harness := (true, "c99e6576e7afd3d2ec920e721bac66b8d87167bc54c5d7fbd38a426545b92c59"), looks := false }, kinds := [], alts := [], laidByText := true, laidKinds := [.data, .pinned], laidTests := true, laidLooks := .later }
def FnAddressTextUptoCardSaid : Prop := Claim7.holds Tryd.pinned (.plain (OpenSpec.upto fnAddressTextSpec)) fnAddressTextUptoCard

/-- THE SECOND FORM's CARD OF 'laws.FnExactParseAddress'. -/
def fnExactParseAddressUptoCard : Claim7 := { stood := { row := fnExactParseAddressUptoRow, standIns := [], harness := (true, "c99e6576e7afd3d2ec920e721bac66b8d87167bc54c5d7fbd38a426545b92c59"), looks := false }, kinds := [], alts := [], laidByText := true, laidKinds := [.data, .pinned], laidTests := true, laidLooks := .later }
def FnExactParseAddressUptoCardSaid : Prop := Claim7.holds Tryd.pinned (.plain (OpenSpec.upto fnExactParseAddressSpec)) fnExactParseAddressUptoCard

/-- THE SECOND FORM's CARD OF 'laws.FnAddressCapital'. -/
def fnAddressCapitalUptoCard : Claim7 := { stood := { row := fnAddressCapitalUptoRow, standIns := [], harness := (true, "c99e6576e7afd3d2ec920e721bac66b8d87167bc54c5d7fbd38a426545b92c59"), looks := false }, kinds := [], alts := [], laidByText := true, laidKinds := [.data, .pinned], laidTests := true, laidLooks := .later }
def FnAddressCapitalUptoCardSaid : Prop := Claim7.holds Tryd.pinned (.plain (OpenSpec.upto fnAddressCapitalSpec)) fnAddressCapitalUptoCard

/-- THE SECOND FORM's CARD OF 'laws.FnParseAddress'. -/
def fnParseAddressUptoCard : Claim7 := { stood := { row := fnParseAddressUptoRow, standIns := [], harness := (true, "c99e6576e7afd3d2ec920e721bac66b8d87167bc54c5d7fbd38a426545b92c59"), looks := false }, kinds := [], alts := [], laidByText := true, laidKinds := [.data, .pinned], laidTests := true, laidLooks := .later }
def FnParseAddressUptoCardSaid : Prop := Claim7.holds Tryd.pinned (.plain (OpenSpec.upto fnParseAddressSpec)) fnParseAddressUptoCard

/-- THE SECOND FORM's CARD OF 'laws.FnListParts'. -/
def fnListPartsUptoCard : Claim7 := { stood := { row := fnListPartsUptoRow, standIns := [], harness := (true, "c99e6576e7afd3d2ec920e721bac66b8d87167bc54c5d7fbd38a426545b92c59"), looks := false }, kinds := [], alts := [], laidByText := true, laidKinds := [.data, .pinned], laidTests := true, laidLooks := .later }
def FnListPartsUptoCardSaid : Prop := Claim7.holds Tryd.pinned (.plain (OpenSpec.upto fnListPartsSpec)) fnListPartsUptoCard

/-- THE SECOND FORM's CARD OF 'laws.FnExactFormatList'. -/
def fnExactFormatListUptoCard : Claim7 := { stood := { row := fnExactFormatListUptoRow, standIns := [], harness := (true, "c99e6576e7afd3d2ec920e721bac66b8d87167bc54c5d7fbd38a426545b92c59"), looks := false }, kinds := [], alts := [], laidByText := true, laidKinds := [.data, .pinned], laidTests := true, laidLooks := .later }
def FnExactFormatListUptoCardSaid : Prop := Claim7.holds Tryd.pinned (.plain (OpenSpec.upto fnExactFormatListSpec)) fnExactFormatListUptoCard
end Rows
end Go.Proofs.YtmehlmhpgbjddaaDoor
