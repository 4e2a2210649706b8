/-
  No cell of these rows narrows 'for every input' (looked for: loops, veiled, ifaces, maps, wideKeys, modest, calm, conditions, laid).
  DERIVED. THE GIVEN ROWS OF THIS SEAT. 3 by the template 'for every input the law returns true; each argument reads behind the call as it read before'; 0 by the template 'total and deterministic' (their statements: YtogmkfenplihoaaTotals.lean).
  GIVEN WITH THE SEED: the statements are not yours to turn. If you find one false, say at which input.
  Laid BY PROGRAM, IN A SANDBOX (cutbox-rows.mjs): the forced cells as the released guide's own fill.sh prints them over the translation 676d1209b4811977… (all of the seat's roots in one cut). By AI agents, Wed Nov 11 2026. No macro, syntax, notation, axiom, sorry.
-/
import Derived.Test.YtogmkfenplihoaaChecked
import GoSem.Claim
import GoSem.ClaimJoined
import GoSem.ClaimMapViews
import Derived.JoinedTies
import Derived.KernelRfl
namespace Go.Proofs.Ytogmkfenplihoaa
/- THE CELL 'sum', in the pinned program and in every row, IS THE sha256 OF THE DUMP (.gsa) THAT YtogmkfenplihoaaProg.lean LOADS. Nothing in Lean hashes anything: it is a label: what it is worth is what the hold of that sum in a sandbox is worth. -/
noncomputable def Try.pinned : Pinned := { name := "ytogmkfenplihoaa", sum := "676d1209b4811977806be13cfc4f2ce0b83d3a302af34edb98b27dce9035fd42", checked := Try.checked }
namespace Rows
def none {H : Type} : Left H := { results := [], args := [] }

/-- 'laws.FnDomainsParts': WHATEVER THE INPUT: true; the input reads as it did. -/
def fnDomainsPartsSpec : ChangeSpec := { name := "fnDomainsParts", fn := fun _ => fun
  | [d] => { results := [.lit (.bool true)], args := [d] }
  | _ => none }
def fnDomainsPartsRow : OpenClaim := { program := "ytogmkfenplihoaa", sum := "676d1209b4811977806be13cfc4f2ce0b83d3a302af34edb98b27dce9035fd42", func := "loop.example/mailwire/laws.FnDomainsParts", spec := "fnDomainsParts", recurses := true, apart := false }
def FnDomainsPartsSaid : Prop := fnDomainsPartsRow.holds Try.pinned (OpenSpec.ofChange fnDomainsPartsSpec)

/-- ITS FALSE NEIGHBOUR: 'it returns false'. Refute it at one input. -/
def fnDomainsPartsWrong : ChangeSpec := { name := "fnDomainsParts", fn := fun _ => fun
  | [d] => { results := [.lit (.bool false)], args := [d] }
  | _ => none }
def FnDomainsPartsWrongFalsely : Prop := fnDomainsPartsRow.holds Try.pinned (OpenSpec.ofChange fnDomainsPartsWrong)

/-- 'laws.FnDomainsOf': WHATEVER THE INPUT: true; the input reads as it did. -/
def fnDomainsOfSpec : ChangeSpec := { name := "fnDomainsOf", fn := fun _ => fun
  | [d] => { results := [.lit (.bool true)], args := [d] }
  | _ => none }
def fnDomainsOfRow : OpenClaim := { program := "ytogmkfenplihoaa", sum := "676d1209b4811977806be13cfc4f2ce0b83d3a302af34edb98b27dce9035fd42", func := "loop.example/mailwire/laws.FnDomainsOf", spec := "fnDomainsOf", recurses := true, apart := false }
def FnDomainsOfSaid : Prop := fnDomainsOfRow.holds Try.pinned (OpenSpec.ofChange fnDomainsOfSpec)

/-- ITS FALSE NEIGHBOUR: 'it returns false'. Refute it at one input. -/
def fnDomainsOfWrong : ChangeSpec := { name := "fnDomainsOf", fn := fun _ => fun
  | [d] => { results := [.lit (.bool false)], args := [d] }
  | _ => none }
def FnDomainsOfWrongFalsely : Prop := fnDomainsOfRow.holds Try.pinned (OpenSpec.ofChange fnDomainsOfWrong)

/-- 'laws.FnExactDomainsOf': WHATEVER THE INPUT: true; the input reads as it did. -/
def fnExactDomainsOfSpec : ChangeSpec := { name := "fnExactDomainsOf", fn := fun _ => fun
  | [d] => { results := [.lit (.bool true)], args := [d] }
  | _ => none }
def fnExactDomainsOfRow : OpenClaim := { program := "ytogmkfenplihoaa", sum := "676d1209b4811977806be13cfc4f2ce0b83d3a302af34edb98b27dce9035fd42", func := "loop.example/mailwire/laws.FnExactDomainsOf", spec := "fnExactDomainsOf", recurses := true, apart := false }
def FnExactDomainsOfSaid : Prop := fnExactDomainsOfRow.holds Try.pinned (OpenSpec.ofChange fnExactDomainsOfSpec)

/-- ITS FALSE NEIGHBOUR: 'it returns false'. Refute it at one input. -/
def fnExactDomainsOfWrong : ChangeSpec := { name := "fnExactDomainsOf", fn := fun _ => fun
  | [d] => { results := [.lit (.bool false)], args := [d] }
  | _ => none }
def FnExactDomainsOfWrongFalsely : Prop := fnExactDomainsOfRow.holds Try.pinned (OpenSpec.ofChange fnExactDomainsOfWrong)

/- THE SECOND FORM. 'bulk': how many values and letters a reading holds, each counted each time it is reached (what is shared counts as often as it is met; a slice's spare places count too). A statement '..UptoSaid' is the law's where the arguments, and the package variables that the reading takes, are together of bulk at most 1048576: NARROWER than '..Said'. Prove '..Said' where nothing that the law and all that it calls make is longer than what came in: it says more and counts as full. Else prove '..UptoSaid'. A law counts once. -/
mutual
def uptoBulk {H : Type} : DataW H → Nat
  | .lit (.string bytes) => bytes.length + 1
  | .lit _ => 1
  | .nil => 1
  | .ptr d => uptoBulk d + 1
  | .slice elems spare => uptoBulkAll elems + uptoBulkAll spare + 1
  | .agg parts => uptoBulkAll parts + 1
  | .iface _ d => uptoBulk d + 1
  | .map entries => uptoBulkEntries entries + 1
  | .held _ => 1
def uptoBulkAll {H : Type} : List (DataW H) → Nat
  | [] => 0
  | d :: r => uptoBulk d + uptoBulkAll r
def uptoBulkEntries {H : Type} : List (Lit × DataW H) → Nat
  | [] => 0
  | x :: r => uptoBulkEntry x + uptoBulkEntries r
def uptoBulkEntry {H : Type} : Lit × DataW H → Nat
  | (.string bytes, d) => bytes.length + uptoBulk d + 1
  | (_, d) => uptoBulk d + 1
 end
def uptoSmall : (H : Type) → List (DataW H) → Bool := fun _ ds => decide (uptoBulkAll ds ≤ 1048576)
def OpenSpec.upto (s : _root_.Go.ChangeSpec) : _root_.Go.OpenSpec := { _root_.Go.OpenSpec.ofChange s with cond := some uptoSmall }

/-- 'laws.FnDomainsParts', WHERE WHAT IT READS IS OF BULK AT MOST 1048576: true; the input reads as it did. -/
def fnDomainsPartsUptoRow : OpenClaim := { program := "ytogmkfenplihoaa", sum := "676d1209b4811977806be13cfc4f2ce0b83d3a302af34edb98b27dce9035fd42", func := "loop.example/mailwire/laws.FnDomainsParts", spec := "fnDomainsParts", recurses := true, apart := false, narrowed := true }
def FnDomainsPartsUptoSaid : Prop := fnDomainsPartsUptoRow.holds Try.pinned (OpenSpec.upto fnDomainsPartsSpec)

/-- 'laws.FnDomainsOf', WHERE WHAT IT READS IS OF BULK AT MOST 1048576: true; the input reads as it did. -/
def fnDomainsOfUptoRow : OpenClaim := { program := "ytogmkfenplihoaa", sum := "676d1209b4811977806be13cfc4f2ce0b83d3a302af34edb98b27dce9035fd42", func := "loop.example/mailwire/laws.FnDomainsOf", spec := "fnDomainsOf", recurses := true, apart := false, narrowed := true }
def FnDomainsOfUptoSaid : Prop := fnDomainsOfUptoRow.holds Try.pinned (OpenSpec.upto fnDomainsOfSpec)

/-- 'laws.FnExactDomainsOf', WHERE WHAT IT READS IS OF BULK AT MOST 1048576: true; the input reads as it did. -/
def fnExactDomainsOfUptoRow : OpenClaim := { program := "ytogmkfenplihoaa", sum := "676d1209b4811977806be13cfc4f2ce0b83d3a302af34edb98b27dce9035fd42", func := "loop.example/mailwire/laws.FnExactDomainsOf", spec := "fnExactDomainsOf", recurses := true, apart := false, narrowed := true }
def FnExactDomainsOfUptoSaid : Prop := fnExactDomainsOfUptoRow.holds Try.pinned (OpenSpec.upto fnExactDomainsOfSpec)

end Rows
end Go.Proofs.Ytogmkfenplihoaa
