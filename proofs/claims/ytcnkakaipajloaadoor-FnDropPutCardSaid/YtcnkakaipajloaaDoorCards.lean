/-
  DERIVED. GIVEN WITH THE SEED: THE CARDS: each row of YtcnkakaipajloaaDoorRows.lean that lists a variable, with what it lists TIED to the program's text (the seventh form; the later family's looks); each row that meets fmt, with fmt's text TOLD by the authors' own Lean function (tested against real Go, not proved from fmt's source: count such statements apart). THE CARD IS WHAT COUNTS. Prove the row's statement (the work); the ties are given (YtcnkakaipajloaaDoorTie.lean); close each card by the builder's one call (the guide's Derived/Test/ToyasCard.lean, 'card_holds'). Laid BY PROGRAM, IN A SANDBOX (cutbox-door.mjs). By AI agents, Wed Nov 11 2026. No macro, syntax, notation, axiom, sorry.
-/
import Derived.Test.YtcnkakaipajloaaDoorRows
import GoSem.ClaimSeven
namespace Go.Proofs.YtcnkakaipajloaaDoor
namespace Rows

/-- THE TIED CARD OF 'laws.FnExactFieldValid'. -/
def fnExactFieldValidCard : Claim7 := { stood := { row := fnExactFieldValidRow, standIns := [], harness := (true, "342785341c274f45e24cc188dbc6479c739c0ce31784721419a8159755af986e"), looks := false }, kinds := [], alts := [], laidByText := true, laidKinds := [.data, .pinned], laidTests := true, laidLooks := .later }
def FnExactFieldValidCardSaid : Prop := Claim7.holds Tryd.pinned (.plain (OpenSpec.ofChange fnExactFieldValidSpec)) fnExactFieldValidCard

/-- THE TIED CARD OF 'laws.FnFieldValid'. -/
def fnFieldValidCard : Claim7 := { stood := { row := fnFieldValidRow, standIns := [], harness := (true, "342785341c274f45e24cc188dbc6479c739c0ce31784721419a8159755af986e"), looks := false }, kinds := [], alts := [], laidByText := true, laidKinds := [.data, .pinned], laidTests := true, laidLooks := .later }
def FnFieldValidCardSaid : Prop := Claim7.holds Tryd.pinned (.plain (OpenSpec.ofChange fnFieldValidSpec)) fnFieldValidCard

/-- THE TIED CARD OF 'laws.FnExactAddressValid'. -/
def fnExactAddressValidCard : Claim7 := { stood := { row := fnExactAddressValidRow, standIns := [], harness := (true, "342785341c274f45e24cc188dbc6479c739c0ce31784721419a8159755af986e"), looks := false }, kinds := [], alts := [], laidByText := true, laidKinds := [.data, .pinned], laidTests := true, laidLooks := .later }
def FnExactAddressValidCardSaid : Prop := Claim7.holds Tryd.pinned (.plain (OpenSpec.ofChange fnExactAddressValidSpec)) fnExactAddressValidCard

/-- THE TIED CARD OF 'laws.FnAddressValid'. -/
def fnAddressValidCard : Claim7 := { stood := { row := fnAddressValidRow, standIns := [], harness := (true, "342785341c274f45e24cc188dbc6479c739c0ce31784721419a8159755af986e"), looks := false }, kinds := [], alts := [], laidByText := true, laidKinds := [.data, .pinned], laidTests := true, laidLooks := .later }
def FnAddressValidCardSaid : Prop := Claim7.holds Tryd.pinned (.plain (OpenSpec.ofChange fnAddressValidSpec)) fnAddressValidCard

/-- THE TIED CARD OF 'laws.FnExactFormatAddress'. -/
def fnExactFormatAddressCard : Claim7 := { stood := { row := fnExactFormatAddressRow, standIns := [], harness := (true, "342785341c274f45e24cc188dbc6479c739c0ce31784721419a8159755af986e"), looks := false }, kinds := [], alts := [], laidByText := true, laidKinds := [.data, .pinned], laidTests := true, laidLooks := .later }
def FnExactFormatAddressCardSaid : Prop := Claim7.holds Tryd.pinned (.plain (OpenSpec.ofChange fnExactFormatAddressSpec)) fnExactFormatAddressCard

/-- THE TIED CARD OF 'laws.FnAddressName'. -/
def fnAddressNameCard : Claim7 := { stood := { row := fnAddressNameRow, standIns := [], harness := (true, "342785341c274f45e24cc188dbc6479c739c0ce31784721419a8159755af986e"), looks := false }, kinds := [], alts := [], laidByText := true, laidKinds := [.data, .pinned], laidTests := true, laidLooks := .later }
def FnAddressNameCardSaid : Prop := Claim7.holds Tryd.pinned (.plain (OpenSpec.ofChange fnAddressNameSpec)) fnAddressNameCard

/-- THE TIED CARD OF 'laws.FnExactFoldField'. -/
def fnExactFoldFieldCard : Claim7 := { stood := { row := fnExactFoldFieldRow, standIns := [], harness := (true, "342785341c274f45e24cc188dbc6479c739c0ce31784721419a8159755af986e"), looks := false }, kinds := [], alts := [], laidByText := true, laidKinds := [.data, .pinned], laidTests := true, laidLooks := .later }
def FnExactFoldFieldCardSaid : Prop := Claim7.holds Tryd.pinned (.plain (OpenSpec.ofChange fnExactFoldFieldSpec)) fnExactFoldFieldCard

/-- THE TIED CARD OF 'laws.FnFoldWidth'. -/
def fnFoldWidthCard : Claim7 := { stood := { row := fnFoldWidthRow, standIns := [], harness := (true, "342785341c274f45e24cc188dbc6479c739c0ce31784721419a8159755af986e"), looks := false }, kinds := [], alts := [], laidByText := true, laidKinds := [.data, .pinned], laidTests := true, laidLooks := .later }
def FnFoldWidthCardSaid : Prop := Claim7.holds Tryd.pinned (.plain (OpenSpec.ofChange fnFoldWidthSpec)) fnFoldWidthCard

/-- THE TIED CARD OF 'laws.FnDropPut'. -/
def fnDropPutCard : Claim7 := { stood := { row := fnDropPutRow, standIns := [], harness := (true, "342785341c274f45e24cc188dbc6479c739c0ce31784721419a8159755af986e"), looks := false }, kinds := [], alts := [], laidByText := true, laidKinds := [.data, .pinned], laidTests := true, laidLooks := .later }
def FnDropPutCardSaid : Prop := Claim7.holds Tryd.pinned (.plain (OpenSpec.ofChange fnDropPutSpec)) fnDropPutCard

/-- THE SECOND FORM's CARD OF 'laws.FnExactFieldValid'. -/
def fnExactFieldValidUptoCard : Claim7 := { stood := { row := fnExactFieldValidUptoRow, standIns := [], harness := (true, "342785341c274f45e24cc188dbc6479c739c0ce31784721419a8159755af986e"), looks := false }, kinds := [], alts := [], laidByText := true, laidKinds := [.data, .pinned], laidTests := true, laidLooks := .later }
def FnExactFieldValidUptoCardSaid : Prop := Claim7.holds Tryd.pinned (.plain (OpenSpec.upto fnExactFieldValidSpec)) fnExactFieldValidUptoCard

/-- THE SECOND FORM's CARD OF 'laws.FnFieldValid'. -/
def fnFieldValidUptoCard : Claim7 := { stood := { row := fnFieldValidUptoRow, standIns := [], harness := (true, "342785341c274f45e24cc188dbc6479c739c0ce31784721419a8159755af986e"), looks := false }, kinds := [], alts := [], laidByText := true, laidKinds := [.data, .pinned], laidTests := true, laidLooks := .later }
def FnFieldValidUptoCardSaid : Prop := Claim7.holds Tryd.pinned (.plain (OpenSpec.upto fnFieldValidSpec)) fnFieldValidUptoCard

/-- THE SECOND FORM's CARD OF 'laws.FnExactAddressValid'. -/
def fnExactAddressValidUptoCard : Claim7 := { stood := { row := fnExactAddressValidUptoRow, standIns := [], harness := (true, "342785341c274f45e24cc188dbc6479c739c0ce31784721419a8159755af986e"), looks := false }, kinds := [], alts := [], laidByText := true, laidKinds := [.data, .pinned], laidTests := true, laidLooks := .later }
def FnExactAddressValidUptoCardSaid : Prop := Claim7.holds Tryd.pinned (.plain (OpenSpec.upto fnExactAddressValidSpec)) fnExactAddressValidUptoCard

/-- THE SECOND FORM's CARD OF 'laws.FnAddressValid'. -/
def fnAddressValidUptoCard : Claim7 := { stood := { row := fnAddressValidUptoRow, standIns := [], harness := (true, "342785341c274f45e24cc188dbc6479c739c0ce31784721419a8159755af986e"), looks := false }, kinds := [], alts := [], laidByText := true, laidKinds := [.data, .pinned], laidTests := true, laidLooks := .later }
def FnAddressValidUptoCardSaid : Prop := Claim7.holds Tryd.pinned (.plain (OpenSpec.upto fnAddressValidSpec)) fnAddressValidUptoCard

/-- THE SECOND FORM's CARD OF 'laws.FnExactFormatAddress'. -/
def fnExactFormatAddressUptoCard : Claim7 := { stood := { row := fnExactFormatAddressUptoRow, standIns := [], harness := (true, "342785341c274f45e24cc188dbc6479c739c0ce31784721419a8159755af986e"), looks := false }, kinds := [], alts := [], laidByText := true, laidKinds := [.data, .pinned], laidTests := true, laidLooks := .later }
def FnExactFormatAddressUptoCardSaid : Prop := Claim7.holds Tryd.pinned (.plain (OpenSpec.upto fnExactFormatAddressSpec)) fnExactFormatAddressUptoCard

/-- THE SECOND FORM's CARD OF 'laws.FnAddressName'. -/
def fnAddressNameUptoCard : Claim7 := { stood := { row := fnAddressNameUptoRow, standIns := [], harness := (true, "342785341c274f45e24cc188dbc6479c739c0ce31784721419a8159755af986e"), looks := false }, kinds := [], alts := [], laidByText := true, laidKinds := [.data, .pinned], laidTests := true, laidLooks := .later }
def FnAddressNameUptoCardSaid : Prop := Claim7.holds Tryd.pinned (.plain (OpenSpec.upto fnAddressNameSpec)) fnAddressNameUptoCard

/-- THE SECOND FORM's CARD OF 'laws.FnExactFoldField'. -/
def fnExactFoldFieldUptoCard : Claim7 := { stood := { row := fnExactFoldFieldUptoRow, standIns := [], harness := (true, "342785341c274f45e24cc188dbc6479c739c0ce31784721419a8159755af986e"), looks := false }, kinds := [], alts := [], laidByText := true, laidKinds := [.data, .pinned], laidTests := true, laidLooks := .later }
def FnExactFoldFieldUptoCardSaid : Prop := Claim7.holds Tryd.pinned (.plain (OpenSpec.upto fnExactFoldFieldSpec)) fnExactFoldFieldUptoCard

/-- THE SECOND FORM's CARD OF 'laws.FnFoldWidth'. -/
def fnFoldWidthUptoCard : Claim7 := { stood := { row := fnFoldWidthUptoRow, standIns := [], harness := (true, "342785341c274f45e24cc188dbc6479c739c0ce31784721419a8159755af986e"), looks := false }, kinds := [], alts := [], laidByText := true, laidKinds := [.data, .pinned], laidTests := true, laidLooks := .later }
def FnFoldWidthUptoCardSaid : Prop := Claim7.holds Tryd.pinned (.plain (OpenSpec.upto fnFoldWidthSpec)) fnFoldWidthUptoCard

/-- THE SECOND FORM's CARD OF 'laws.FnDropPut'. -/
def fnDropPutUptoCard : Claim7 := { stood := { row := fnDropPutUptoRow, standIns := [], harness := (true, "342785341c274f45e24cc188dbc6479c739c0ce31784721419a8159755af986e"), looks := false }, kinds := [], alts := [], laidByText := true, laidKinds := [.data, .pinned], laidTests := true, laidLooks := .later }
def FnDropPutUptoCardSaid : Prop := Claim7.holds Tryd.pinned (.plain (OpenSpec.upto fnDropPutSpec)) fnDropPutUptoCard
end Rows
end Go.Proofs.YtcnkakaipajloaaDoor
