/-
  DERIVED. GIVEN WITH THE SEED: THE CARDS: each row of YtmehlmhpgbjddaaGreatDoorRows.lean that lists a variable, with what it lists TIED to the program's text (the seventh form; the later family's looks); each row that meets fmt, with fmt's text TOLD by the authors' own Lean function (tested against real Go, not proved from fmt's source: count such statements apart). THE CARD IS WHAT COUNTS. Prove the row's statement (the work); the ties are given (YtmehlmhpgbjddaaGreatDoorTie.lean); close each card by the builder's one call (the guide's Derived/Test/ToyasCard.lean, 'card_holds'). Laid BY PROGRAM, IN A SANDBOX (cutbox-door.mjs). By AI agents, Wed Nov 11 2026. No macro, syntax, notation, axiom, sorry.
-/
import Derived.Test.YtmehlmhpgbjddaaGreatDoorRows
import GoSem.ClaimSeven
namespace Go.Proofs.YtmehlmhpgbjddaaGreatDoor
namespace Rows

/-- THE TIED CARD OF 'laws.FnListText'. -/
def fnListTextCard : Claim7 := { stood := { row := fnListTextRow, standIns := [], harness := (true, "d4fb47ebd5de6a94a2dffb464c918f0e35d430b4ed57a0620759122ad240fd8e"), looks := false }, kinds := [], alts := [], laidByText := true, laidKinds := [.data, .pinned], laidTests := true, laidLooks := .later }
def FnListTextCardSaid : Prop := Claim7.holds Tryz.pinned (.plain (OpenSpec.ofChange fnListTextSpec)) fnListTextCard

/-- THE SECOND FORM's CARD OF 'laws.FnListText'. -/
def fnListTextUptoCard : Claim7 := { stood := { row := fnListTextUptoRow, standIns := [], harness := (true, "d4fb47ebd5de6a94a2dffb464c918f0e35d430b4ed57a0620759122ad240fd8e"), looks := false }, kinds := [], alts := [], laidByText := true, laidKinds := [.data, .pinned], laidTests := true, laidLooks := .later }
def FnListTextUptoCardSaid : Prop := Claim7.holds Tryz.pinned (.plain (OpenSpec.upto fnListTextSpec)) fnListTextUptoCard
end Rows
end Go.Proofs.YtmehlmhpgbjddaaGreatDoor
