/-
  DERIVED. GIVEN WITH THE SEED: THE CARDS: each row of YtogmkfenplihoaaDoorRows.lean that lists a variable, with what it lists TIED to the program's text (the seventh form; the later family's looks); each row that meets fmt, with fmt's text TOLD by the authors' own Lean function (tested against real Go, not proved from fmt's source: count such statements apart). THE CARD IS WHAT COUNTS. Prove the row's statement (the work); the ties are given (YtogmkfenplihoaaDoorTie.lean); close each card by the builder's one call (the guide's Derived/Test/ToyasCard.lean, 'card_holds'). Laid BY PROGRAM, IN A SANDBOX (cutbox-door.mjs). By AI agents, Wed Nov 11 2026. No macro, syntax, notation, axiom, sorry.
-/
import Derived.Test.YtogmkfenplihoaaDoorRows
import GoSem.ClaimSeven
namespace Go.Proofs.YtogmkfenplihoaaDoor
namespace Rows

/-- THE TIED CARD OF 'laws.FnPutTwice'. -/
def fnPutTwiceCard : Claim7 := { stood := { row := fnPutTwiceRow, standIns := [], harness := (true, "6771ca30a95f3077f52347451e695e49cfcfcfc84365f5a86b4332e541403765"), looks := false }, kinds := [], alts := [], laidByText := true, laidKinds := [.data, .pinned], laidTests := true, laidLooks := .later }
def FnPutTwiceCardSaid : Prop := Claim7.holds Tryd.pinned (.plain (OpenSpec.ofChange fnPutTwiceSpec)) fnPutTwiceCard

/-- THE TIED CARD OF 'laws.FnExactPutField'. -/
def fnExactPutFieldCard : Claim7 := { stood := { row := fnExactPutFieldRow, standIns := [], harness := (true, "6771ca30a95f3077f52347451e695e49cfcfcfc84365f5a86b4332e541403765"), looks := false }, kinds := [], alts := [], laidByText := true, laidKinds := [.data, .pinned], laidTests := true, laidLooks := .later }
def FnExactPutFieldCardSaid : Prop := Claim7.holds Tryd.pinned (.plain (OpenSpec.ofChange fnExactPutFieldSpec)) fnExactPutFieldCard

/-- THE TIED CARD OF 'laws.FnPutField'. -/
def fnPutFieldCard : Claim7 := { stood := { row := fnPutFieldRow, standIns := [], harness := (true, "6771ca30a95f3077f52347451e695e49cfcfcfc84365f5a86b4332e541403765"), looks := false }, kinds := [], alts := [], laidByText := true, laidKinds := [.data, .pinned], laidTests := true, laidLooks := .later }
def FnPutFieldCardSaid : Prop := Claim7.holds Tryd.pinned (.plain (OpenSpec.ofChange fnPutFieldSpec)) fnPutFieldCard

/-- THE TIED CARD OF 'laws.FnReadParts'. -/
def fnReadPartsCard : Claim7 := { stood := { row := fnReadPartsRow, standIns := [], harness := (true, "6771ca30a95f3077f52347451e695e49cfcfcfc84365f5a86b4332e541403765"), looks := false }, kinds := [], alts := [], laidByText := true, laidKinds := [.data, .pinned], laidTests := true, laidLooks := .later }
def FnReadPartsCardSaid : Prop := Claim7.holds Tryd.pinned (.plain (OpenSpec.ofChange fnReadPartsSpec)) fnReadPartsCard

/-- THE SECOND FORM's CARD OF 'laws.FnPutTwice'. -/
def fnPutTwiceUptoCard : Claim7 := { stood := { row := fnPutTwiceUptoRow, standIns := [], harness := (true, "6771ca30a95f3077f52347451e695e49cfcfcfc84365f5a86b4332e541403765"), looks := false }, kinds := [], alts := [], laidByText := true, laidKinds := [.data, .pinned], laidTests := true, laidLooks := .later }
def FnPutTwiceUptoCardSaid : Prop := Claim7.holds Tryd.pinned (.plain (OpenSpec.upto fnPutTwiceSpec)) fnPutTwiceUptoCard

/-- THE SECOND FORM's CARD OF 'laws.FnExactPutField'. -/
def fnExactPutFieldUptoCard : Claim7 := { stood := { row := fnExactPutFieldUptoRow, standIns := [], harness := (true, "6771ca30a95f3077f52347451e695e49cfcfcfc84365f5a86b4332e541403765"), looks := false }, kinds := [], alts := [], laidByText := true, laidKinds := [.data, .pinned], laidTests := true, laidLooks := .later }
def FnExactPutFieldUptoCardSaid : Prop := Claim7.holds Tryd.pinned (.plain (OpenSpec.upto fnExactPutFieldSpec)) fnExactPutFieldUptoCard

/-- THE SECOND FORM's CARD OF 'laws.FnPutField'. -/
def fnPutFieldUptoCard : Claim7 := { stood := { row := fnPutFieldUptoRow, standIns := [], harness := (true, "6771ca30a95f3077f52347451e695e49cfcfcfc84365f5a86b4332e541403765"), looks := false }, kinds := [], alts := [], laidByText := true, laidKinds := [.data, .pinned], laidTests := true, laidLooks := .later }
def FnPutFieldUptoCardSaid : Prop := Claim7.holds Tryd.pinned (.plain (OpenSpec.upto fnPutFieldSpec)) fnPutFieldUptoCard

/-- THE SECOND FORM's CARD OF 'laws.FnReadParts'. -/
def fnReadPartsUptoCard : Claim7 := { stood := { row := fnReadPartsUptoRow, standIns := [], harness := (true, "6771ca30a95f3077f52347451e695e49cfcfcfc84365f5a86b4332e541403765"), looks := false }, kinds := [], alts := [], laidByText := true, laidKinds := [.data, .pinned], laidTests := true, laidLooks := .later }
def FnReadPartsUptoCardSaid : Prop := Claim7.holds Tryd.pinned (.plain (OpenSpec.upto fnReadPartsSpec)) fnReadPartsUptoCard
end Rows
end Go.Proofs.YtogmkfenplihoaaDoor
