/-
  No cell of these rows narrows 'for every input' (looked for: loops, veiled, ifaces, maps, wideKeys, modest, calm, conditions, laid).
  DERIVED. THE GIVEN ROWS OF THIS SEAT. 12 by the template 'for every input the law returns true; each argument reads behind the call as it read before'; 0 by the template 'total and deterministic' (their statements: YteibhbhlmnnfjaaTotals.lean).
  GIVEN WITH THE SEED: the statements are not yours to turn. If you find one false, say at which input.
  Laid BY PROGRAM, IN A SANDBOX (cutbox-rows.mjs): the forced cells as the released guide's own fill.sh prints them over the translation 7ba1346ac4ef7c1c… (all of the seat's roots in one cut). By AI agents, Wed Nov 11 2026. No macro, syntax, notation, axiom, sorry.
-/
import Derived.Test.YteibhbhlmnnfjaaChecked
import GoSem.Claim
import GoSem.ClaimJoined
import GoSem.ClaimMapViews
import Derived.JoinedTies
import Derived.KernelRfl
namespace Go.Proofs.Yteibhbhlmnnfjaa
/- THE CELL 'sum', in the pinned program and in every row, IS THE sha256 OF THE DUMP (.gsa) THAT YteibhbhlmnnfjaaProg.lean LOADS. Nothing in Lean hashes anything: it is a label: what it is worth is what the hold of that sum in a sandbox is worth. -/
noncomputable def Try.pinned : Pinned := { name := "yteibhbhlmnnfjaa", sum := "7ba1346ac4ef7c1c352f2a3e193ddf70a7dbb40359a338f5e1030d91eba85542", checked := Try.checked }
namespace Rows
def none {H : Type} : Left H := { results := [], args := [] }

/-- 'laws.FnExactQuoteWord': WHATEVER THE INPUT: true; the input reads as it did. -/
def fnExactQuoteWordSpec : ChangeSpec := { name := "fnExactQuoteWord", fn := fun _ => fun
  | [d] => { results := [.lit (.bool true)], args := [d] }
  | _ => none }
def fnExactQuoteWordRow : OpenClaim := { program := "yteibhbhlmnnfjaa", sum := "7ba1346ac4ef7c1c352f2a3e193ddf70a7dbb40359a338f5e1030d91eba85542", func := "loop.example/mailwire/laws.FnExactQuoteWord", spec := "fnExactQuoteWord", unfollowed := true, recurses := true, apart := false }
def FnExactQuoteWordSaid : Prop := fnExactQuoteWordRow.holds Try.pinned (OpenSpec.ofChange fnExactQuoteWordSpec)

/-- ITS FALSE NEIGHBOUR: 'it returns false'. Refute it at one input. -/
def fnExactQuoteWordWrong : ChangeSpec := { name := "fnExactQuoteWord", fn := fun _ => fun
  | [d] => { results := [.lit (.bool false)], args := [d] }
  | _ => none }
def FnExactQuoteWordWrongFalsely : Prop := fnExactQuoteWordRow.holds Try.pinned (OpenSpec.ofChange fnExactQuoteWordWrong)

/-- 'laws.FnAtomValid': WHATEVER THE INPUT: true; the input reads as it did. -/
def fnAtomValidSpec : ChangeSpec := { name := "fnAtomValid", fn := fun _ => fun
  | [d] => { results := [.lit (.bool true)], args := [d] }
  | _ => none }
def fnAtomValidRow : OpenClaim := { program := "yteibhbhlmnnfjaa", sum := "7ba1346ac4ef7c1c352f2a3e193ddf70a7dbb40359a338f5e1030d91eba85542", func := "loop.example/mailwire/laws.FnAtomValid", spec := "fnAtomValid", unfollowed := true, recurses := true, apart := false }
def FnAtomValidSaid : Prop := fnAtomValidRow.holds Try.pinned (OpenSpec.ofChange fnAtomValidSpec)

/-- ITS FALSE NEIGHBOUR: 'it returns false'. Refute it at one input. -/
def fnAtomValidWrong : ChangeSpec := { name := "fnAtomValid", fn := fun _ => fun
  | [d] => { results := [.lit (.bool false)], args := [d] }
  | _ => none }
def FnAtomValidWrongFalsely : Prop := fnAtomValidRow.holds Try.pinned (OpenSpec.ofChange fnAtomValidWrong)

/-- 'laws.FnQuoteAtom': WHATEVER THE INPUT: true; the input reads as it did. -/
def fnQuoteAtomSpec : ChangeSpec := { name := "fnQuoteAtom", fn := fun _ => fun
  | [d] => { results := [.lit (.bool true)], args := [d] }
  | _ => none }
def fnQuoteAtomRow : OpenClaim := { program := "yteibhbhlmnnfjaa", sum := "7ba1346ac4ef7c1c352f2a3e193ddf70a7dbb40359a338f5e1030d91eba85542", func := "loop.example/mailwire/laws.FnQuoteAtom", spec := "fnQuoteAtom", unfollowed := true, recurses := true, apart := false }
def FnQuoteAtomSaid : Prop := fnQuoteAtomRow.holds Try.pinned (OpenSpec.ofChange fnQuoteAtomSpec)

/-- ITS FALSE NEIGHBOUR: 'it returns false'. Refute it at one input. -/
def fnQuoteAtomWrong : ChangeSpec := { name := "fnQuoteAtom", fn := fun _ => fun
  | [d] => { results := [.lit (.bool false)], args := [d] }
  | _ => none }
def FnQuoteAtomWrongFalsely : Prop := fnQuoteAtomRow.holds Try.pinned (OpenSpec.ofChange fnQuoteAtomWrong)

/-- 'laws.FnExactUnquoteWord': WHATEVER THE INPUT: true; the input reads as it did. -/
def fnExactUnquoteWordSpec : ChangeSpec := { name := "fnExactUnquoteWord", fn := fun _ => fun
  | [d] => { results := [.lit (.bool true)], args := [d] }
  | _ => none }
def fnExactUnquoteWordRow : OpenClaim := { program := "yteibhbhlmnnfjaa", sum := "7ba1346ac4ef7c1c352f2a3e193ddf70a7dbb40359a338f5e1030d91eba85542", func := "loop.example/mailwire/laws.FnExactUnquoteWord", spec := "fnExactUnquoteWord", unfollowed := true, recurses := true, apart := false }
def FnExactUnquoteWordSaid : Prop := fnExactUnquoteWordRow.holds Try.pinned (OpenSpec.ofChange fnExactUnquoteWordSpec)

/-- ITS FALSE NEIGHBOUR: 'it returns false'. Refute it at one input. -/
def fnExactUnquoteWordWrong : ChangeSpec := { name := "fnExactUnquoteWord", fn := fun _ => fun
  | [d] => { results := [.lit (.bool false)], args := [d] }
  | _ => none }
def FnExactUnquoteWordWrongFalsely : Prop := fnExactUnquoteWordRow.holds Try.pinned (OpenSpec.ofChange fnExactUnquoteWordWrong)

/-- 'laws.FnExactSplitWords': WHATEVER THE INPUT: true; the input reads as it did. -/
def fnExactSplitWordsSpec : ChangeSpec := { name := "fnExactSplitWords", fn := fun _ => fun
  | [d] => { results := [.lit (.bool true)], args := [d] }
  | _ => none }
def fnExactSplitWordsRow : OpenClaim := { program := "yteibhbhlmnnfjaa", sum := "7ba1346ac4ef7c1c352f2a3e193ddf70a7dbb40359a338f5e1030d91eba85542", func := "loop.example/mailwire/laws.FnExactSplitWords", spec := "fnExactSplitWords", apart := false }
def FnExactSplitWordsSaid : Prop := fnExactSplitWordsRow.holds Try.pinned (OpenSpec.ofChange fnExactSplitWordsSpec)

/-- ITS FALSE NEIGHBOUR: 'it returns false'. Refute it at one input. -/
def fnExactSplitWordsWrong : ChangeSpec := { name := "fnExactSplitWords", fn := fun _ => fun
  | [d] => { results := [.lit (.bool false)], args := [d] }
  | _ => none }
def FnExactSplitWordsWrongFalsely : Prop := fnExactSplitWordsRow.holds Try.pinned (OpenSpec.ofChange fnExactSplitWordsWrong)

/-- 'laws.FnSplitOne': WHATEVER THE INPUT: true; the input reads as it did. -/
def fnSplitOneSpec : ChangeSpec := { name := "fnSplitOne", fn := fun _ => fun
  | [d] => { results := [.lit (.bool true)], args := [d] }
  | _ => none }
def fnSplitOneRow : OpenClaim := { program := "yteibhbhlmnnfjaa", sum := "7ba1346ac4ef7c1c352f2a3e193ddf70a7dbb40359a338f5e1030d91eba85542", func := "loop.example/mailwire/laws.FnSplitOne", spec := "fnSplitOne", unfollowed := true, recurses := true, apart := false }
def FnSplitOneSaid : Prop := fnSplitOneRow.holds Try.pinned (OpenSpec.ofChange fnSplitOneSpec)

/-- ITS FALSE NEIGHBOUR: 'it returns false'. Refute it at one input. -/
def fnSplitOneWrong : ChangeSpec := { name := "fnSplitOne", fn := fun _ => fun
  | [d] => { results := [.lit (.bool false)], args := [d] }
  | _ => none }
def FnSplitOneWrongFalsely : Prop := fnSplitOneRow.holds Try.pinned (OpenSpec.ofChange fnSplitOneWrong)

/-- 'laws.FnUnquote': WHATEVER THE INPUT: true; the input reads as it did. -/
def fnUnquoteSpec : ChangeSpec := { name := "fnUnquote", fn := fun _ => fun
  | [d] => { results := [.lit (.bool true)], args := [d] }
  | _ => none }
def fnUnquoteRow : OpenClaim := { program := "yteibhbhlmnnfjaa", sum := "7ba1346ac4ef7c1c352f2a3e193ddf70a7dbb40359a338f5e1030d91eba85542", func := "loop.example/mailwire/laws.FnUnquote", spec := "fnUnquote", unfollowed := true, recurses := true, apart := false }
def FnUnquoteSaid : Prop := fnUnquoteRow.holds Try.pinned (OpenSpec.ofChange fnUnquoteSpec)

/-- ITS FALSE NEIGHBOUR: 'it returns false'. Refute it at one input. -/
def fnUnquoteWrong : ChangeSpec := { name := "fnUnquote", fn := fun _ => fun
  | [d] => { results := [.lit (.bool false)], args := [d] }
  | _ => none }
def FnUnquoteWrongFalsely : Prop := fnUnquoteRow.holds Try.pinned (OpenSpec.ofChange fnUnquoteWrong)

/-- 'laws.FnQuoteWord': WHATEVER THE INPUT: true; the input reads as it did. -/
def fnQuoteWordSpec : ChangeSpec := { name := "fnQuoteWord", fn := fun _ => fun
  | [d1, d2] => { results := [.lit (.bool true)], args := [d1, d2] }
  | _ => none }
def fnQuoteWordRow : OpenClaim := { program := "yteibhbhlmnnfjaa", sum := "7ba1346ac4ef7c1c352f2a3e193ddf70a7dbb40359a338f5e1030d91eba85542", func := "loop.example/mailwire/laws.FnQuoteWord", spec := "fnQuoteWord", unfollowed := true, recurses := true, apart := false }
def FnQuoteWordSaid : Prop := fnQuoteWordRow.holds Try.pinned (OpenSpec.ofChange fnQuoteWordSpec)

/-- ITS FALSE NEIGHBOUR: 'it returns false'. Refute it at one input. -/
def fnQuoteWordWrong : ChangeSpec := { name := "fnQuoteWord", fn := fun _ => fun
  | [d1, d2] => { results := [.lit (.bool false)], args := [d1, d2] }
  | _ => none }
def FnQuoteWordWrongFalsely : Prop := fnQuoteWordRow.holds Try.pinned (OpenSpec.ofChange fnQuoteWordWrong)

/-- 'laws.FnExactJoinWords': WHATEVER THE INPUT: true; the input reads as it did. -/
def fnExactJoinWordsSpec : ChangeSpec := { name := "fnExactJoinWords", fn := fun _ => fun
  | [d] => { results := [.lit (.bool true)], args := [d] }
  | _ => none }
def fnExactJoinWordsRow : OpenClaim := { program := "yteibhbhlmnnfjaa", sum := "7ba1346ac4ef7c1c352f2a3e193ddf70a7dbb40359a338f5e1030d91eba85542", func := "loop.example/mailwire/laws.FnExactJoinWords", spec := "fnExactJoinWords", inPlace := ["internal/abi.NoEscape", "internal/bytealg.MakeNoZero"], unfollowed := true, recurses := true, apart := false }
def FnExactJoinWordsSaid : Prop := fnExactJoinWordsRow.holds Try.pinned (OpenSpec.ofChange fnExactJoinWordsSpec)

/-- ITS FALSE NEIGHBOUR: 'it returns false'. Refute it at one input. -/
def fnExactJoinWordsWrong : ChangeSpec := { name := "fnExactJoinWords", fn := fun _ => fun
  | [d] => { results := [.lit (.bool false)], args := [d] }
  | _ => none }
def FnExactJoinWordsWrongFalsely : Prop := fnExactJoinWordsRow.holds Try.pinned (OpenSpec.ofChange fnExactJoinWordsWrong)

/-- 'laws.FnSplitTwo': WHATEVER THE INPUT: true; the input reads as it did. -/
def fnSplitTwoSpec : ChangeSpec := { name := "fnSplitTwo", fn := fun _ => fun
  | [d1, d2] => { results := [.lit (.bool true)], args := [d1, d2] }
  | _ => none }
def fnSplitTwoRow : OpenClaim := { program := "yteibhbhlmnnfjaa", sum := "7ba1346ac4ef7c1c352f2a3e193ddf70a7dbb40359a338f5e1030d91eba85542", func := "loop.example/mailwire/laws.FnSplitTwo", spec := "fnSplitTwo", apart := false }
def FnSplitTwoSaid : Prop := fnSplitTwoRow.holds Try.pinned (OpenSpec.ofChange fnSplitTwoSpec)

/-- ITS FALSE NEIGHBOUR: 'it returns false'. Refute it at one input. -/
def fnSplitTwoWrong : ChangeSpec := { name := "fnSplitTwo", fn := fun _ => fun
  | [d1, d2] => { results := [.lit (.bool false)], args := [d1, d2] }
  | _ => none }
def FnSplitTwoWrongFalsely : Prop := fnSplitTwoRow.holds Try.pinned (OpenSpec.ofChange fnSplitTwoWrong)

/-- 'laws.FnJoinSpaces': WHATEVER THE INPUT: true; the input reads as it did. -/
def fnJoinSpacesSpec : ChangeSpec := { name := "fnJoinSpaces", fn := fun _ => fun
  | [d] => { results := [.lit (.bool true)], args := [d] }
  | _ => none }
def fnJoinSpacesRow : OpenClaim := { program := "yteibhbhlmnnfjaa", sum := "7ba1346ac4ef7c1c352f2a3e193ddf70a7dbb40359a338f5e1030d91eba85542", func := "loop.example/mailwire/laws.FnJoinSpaces", spec := "fnJoinSpaces", inPlace := ["internal/abi.NoEscape", "internal/bytealg.MakeNoZero"], unfollowed := true, recurses := true, apart := false }
def FnJoinSpacesSaid : Prop := fnJoinSpacesRow.holds Try.pinned (OpenSpec.ofChange fnJoinSpacesSpec)

/-- ITS FALSE NEIGHBOUR: 'it returns false'. Refute it at one input. -/
def fnJoinSpacesWrong : ChangeSpec := { name := "fnJoinSpaces", fn := fun _ => fun
  | [d] => { results := [.lit (.bool false)], args := [d] }
  | _ => none }
def FnJoinSpacesWrongFalsely : Prop := fnJoinSpacesRow.holds Try.pinned (OpenSpec.ofChange fnJoinSpacesWrong)

/-- 'laws.FnJoinWords': WHATEVER THE INPUT: true; the input reads as it did. -/
def fnJoinWordsSpec : ChangeSpec := { name := "fnJoinWords", fn := fun _ => fun
  | [d] => { results := [.lit (.bool true)], args := [d] }
  | _ => none }
def fnJoinWordsRow : OpenClaim := { program := "yteibhbhlmnnfjaa", sum := "7ba1346ac4ef7c1c352f2a3e193ddf70a7dbb40359a338f5e1030d91eba85542", func := "loop.example/mailwire/laws.FnJoinWords", spec := "fnJoinWords", inPlace := ["internal/abi.NoEscape", "internal/bytealg.MakeNoZero"], unfollowed := true, recurses := true, apart := false }
def FnJoinWordsSaid : Prop := fnJoinWordsRow.holds Try.pinned (OpenSpec.ofChange fnJoinWordsSpec)

/-- ITS FALSE NEIGHBOUR: 'it returns false'. Refute it at one input. -/
def fnJoinWordsWrong : ChangeSpec := { name := "fnJoinWords", fn := fun _ => fun
  | [d] => { results := [.lit (.bool false)], args := [d] }
  | _ => none }
def FnJoinWordsWrongFalsely : Prop := fnJoinWordsRow.holds Try.pinned (OpenSpec.ofChange fnJoinWordsWrong)

/- THE SECOND FORM. 'bulk': how many values and letters a reading holds, each counted each time it is reached (what is shared counts as often as it is met; a slice's spare places count too). A statement '..UptoSaid' is the law's where the arguments, and the package variables that the reading takes, are together of bulk at most 1048576: NARROWER than '..Said'. Prove '..Said' where nothing that the law and all that it calls make is longer than what came in: it says more and counts as full. Else prove '..UptoSaid'. A law counts once. -/
mutual
def uptoBulk {H : Type} : DataW H → Nat
  | .lit (.string bytes) => bytes.length + 1
  | .lit _ => 1
  | .nil => 1
  | .ptr d => uptoBulk d + 1
  | .slice elems spare => uptoBulkAll elems + uptoBulkAll spare + 1
  | .agg parts => uptoBulkAll parts + 1
  | .iface _ d => uptoBulk d + 1
  | .map entries => uptoBulkEntries entries + 1
  | .held _ => 1
def uptoBulkAll {H : Type} : List (DataW H) → Nat
  | [] => 0
  | d :: r => uptoBulk d + uptoBulkAll r
def uptoBulkEntries {H : Type} : List (Lit × DataW H) → Nat
  | [] => 0
  | x :: r => uptoBulkEntry x + uptoBulkEntries r
def uptoBulkEntry {H : Type} : Lit × DataW H → Nat
  | (.string bytes, d) => bytes.length + uptoBulk d + 1
  | (_, d) => uptoBulk d + 1
 end
def uptoSmall : (H : Type) → List (DataW H) → Bool := fun _ ds => decide (uptoBulkAll ds ≤ 1048576)
def OpenSpec.upto (s : _root_.Go.ChangeSpec) : _root_.Go.OpenSpec := { _root_.Go.OpenSpec.ofChange s with cond := some uptoSmall }

/-- 'laws.FnExactQuoteWord', WHERE WHAT IT READS IS OF BULK AT MOST 1048576: true; the input reads as it did. -/
def fnExactQuoteWordUptoRow : OpenClaim := { program := "yteibhbhlmnnfjaa", sum := "7ba1346ac4ef7c1c352f2a3e193ddf70a7dbb40359a338f5e1030d91eba85542", func := "loop.example/mailwire/laws.FnExactQuoteWord", spec := "fnExactQuoteWord", unfollowed := true, recurses := true, apart := false, narrowed := true }
def FnExactQuoteWordUptoSaid : Prop := fnExactQuoteWordUptoRow.holds Try.pinned (OpenSpec.upto fnExactQuoteWordSpec)

/-- 'laws.FnAtomValid', WHERE WHAT IT READS IS OF BULK AT MOST 1048576: true; the input reads as it did. -/
def fnAtomValidUptoRow : OpenClaim := { program := "yteibhbhlmnnfjaa", sum := "7ba1346ac4ef7c1c352f2a3e193ddf70a7dbb40359a338f5e1030d91eba85542", func := "loop.example/mailwire/laws.FnAtomValid", spec := "fnAtomValid", unfollowed := true, recurses := true, apart := false, narrowed := true }
def FnAtomValidUptoSaid : Prop := fnAtomValidUptoRow.holds Try.pinned (OpenSpec.upto fnAtomValidSpec)

/-- 'laws.FnQuoteAtom', WHERE WHAT IT READS IS OF BULK AT MOST 1048576: true; the input reads as it did. -/
def fnQuoteAtomUptoRow : OpenClaim := { program := "yteibhbhlmnnfjaa", sum := "7ba1346ac4ef7c1c352f2a3e193ddf70a7dbb40359a338f5e1030d91eba85542", func := "loop.example/mailwire/laws.FnQuoteAtom", spec := "fnQuoteAtom", unfollowed := true, recurses := true, apart := false, narrowed := true }
def FnQuoteAtomUptoSaid : Prop := fnQuoteAtomUptoRow.holds Try.pinned (OpenSpec.upto fnQuoteAtomSpec)

/-- 'laws.FnExactUnquoteWord', WHERE WHAT IT READS IS OF BULK AT MOST 1048576: true; the input reads as it did. -/
def fnExactUnquoteWordUptoRow : OpenClaim := { program := "yteibhbhlmnnfjaa", sum := "7ba1346ac4ef7c1c352f2a3e193ddf70a7dbb40359a338f5e1030d91eba85542", func := "loop.example/mailwire/laws.FnExactUnquoteWord", spec := "fnExactUnquoteWord", unfollowed := true, recurses := true, apart := false, narrowed := true }
def FnExactUnquoteWordUptoSaid : Prop := fnExactUnquoteWordUptoRow.holds Try.pinned (OpenSpec.upto fnExactUnquoteWordSpec)

/-- 'laws.FnExactSplitWords', WHERE WHAT IT READS IS OF BULK AT MOST 1048576: true; the input reads as it did. -/
def fnExactSplitWordsUptoRow : OpenClaim := { program := "yteibhbhlmnnfjaa", sum := "7ba1346ac4ef7c1c352f2a3e193ddf70a7dbb40359a338f5e1030d91eba85542", func := "loop.example/mailwire/laws.FnExactSplitWords", spec := "fnExactSplitWords", apart := false, narrowed := true }
def FnExactSplitWordsUptoSaid : Prop := fnExactSplitWordsUptoRow.holds Try.pinned (OpenSpec.upto fnExactSplitWordsSpec)

/-- 'laws.FnSplitOne', WHERE WHAT IT READS IS OF BULK AT MOST 1048576: true; the input reads as it did. -/
def fnSplitOneUptoRow : OpenClaim := { program := "yteibhbhlmnnfjaa", sum := "7ba1346ac4ef7c1c352f2a3e193ddf70a7dbb40359a338f5e1030d91eba85542", func := "loop.example/mailwire/laws.FnSplitOne", spec := "fnSplitOne", unfollowed := true, recurses := true, apart := false, narrowed := true }
def FnSplitOneUptoSaid : Prop := fnSplitOneUptoRow.holds Try.pinned (OpenSpec.upto fnSplitOneSpec)

/-- 'laws.FnUnquote', WHERE WHAT IT READS IS OF BULK AT MOST 1048576: true; the input reads as it did. -/
def fnUnquoteUptoRow : OpenClaim := { program := "yteibhbhlmnnfjaa", sum := "7ba1346ac4ef7c1c352f2a3e193ddf70a7dbb40359a338f5e1030d91eba85542", func := "loop.example/mailwire/laws.FnUnquote", spec := "fnUnquote", unfollowed := true, recurses := true, apart := false, narrowed := true }
def FnUnquoteUptoSaid : Prop := fnUnquoteUptoRow.holds Try.pinned (OpenSpec.upto fnUnquoteSpec)

/-- 'laws.FnQuoteWord', WHERE WHAT IT READS IS OF BULK AT MOST 1048576: true; the input reads as it did. -/
def fnQuoteWordUptoRow : OpenClaim := { program := "yteibhbhlmnnfjaa", sum := "7ba1346ac4ef7c1c352f2a3e193ddf70a7dbb40359a338f5e1030d91eba85542", func := "loop.example/mailwire/laws.FnQuoteWord", spec := "fnQuoteWord", unfollowed := true, recurses := true, apart := false, narrowed := true }
def FnQuoteWordUptoSaid : Prop := fnQuoteWordUptoRow.holds Try.pinned (OpenSpec.upto fnQuoteWordSpec)

/-- 'laws.FnExactJoinWords', WHERE WHAT IT READS IS OF BULK AT MOST 1048576: true; the input reads as it did. -/
def fnExactJoinWordsUptoRow : OpenClaim := { program := "yteibhbhlmnnfjaa", sum := "7ba1346ac4ef7c1c352f2a3e193ddf70a7dbb40359a338f5e1030d91eba85542", func := "loop.example/mailwire/laws.FnExactJoinWords", spec := "fnExactJoinWords", inPlace := ["internal/abi.NoEscape", "internal/bytealg.MakeNoZero"], unfollowed := true, recurses := true, apart := false, narrowed := true }
def FnExactJoinWordsUptoSaid : Prop := fnExactJoinWordsUptoRow.holds Try.pinned (OpenSpec.upto fnExactJoinWordsSpec)

/-- 'laws.FnSplitTwo', WHERE WHAT IT READS IS OF BULK AT MOST 1048576: true; the input reads as it did. -/
def fnSplitTwoUptoRow : OpenClaim := { program := "yteibhbhlmnnfjaa", sum := "7ba1346ac4ef7c1c352f2a3e193ddf70a7dbb40359a338f5e1030d91eba85542", func := "loop.example/mailwire/laws.FnSplitTwo", spec := "fnSplitTwo", apart := false, narrowed := true }
def FnSplitTwoUptoSaid : Prop := fnSplitTwoUptoRow.holds Try.pinned (OpenSpec.upto fnSplitTwoSpec)

/-- 'laws.FnJoinSpaces', WHERE WHAT IT READS IS OF BULK AT MOST 1048576: true; the input reads as it did. -/
def fnJoinSpacesUptoRow : OpenClaim := { program := "yteibhbhlmnnfjaa", sum := "7ba1346ac4ef7c1c352f2a3e193ddf70a7dbb40359a338f5e1030d91eba85542", func := "loop.example/mailwire/laws.FnJoinSpaces", spec := "fnJoinSpaces", inPlace := ["internal/abi.NoEscape", "internal/bytealg.MakeNoZero"], unfollowed := true, recurses := true, apart := false, narrowed := true }
def FnJoinSpacesUptoSaid : Prop := fnJoinSpacesUptoRow.holds Try.pinned (OpenSpec.upto fnJoinSpacesSpec)

/-- 'laws.FnJoinWords', WHERE WHAT IT READS IS OF BULK AT MOST 1048576: true; the input reads as it did. -/
def fnJoinWordsUptoRow : OpenClaim := { program := "yteibhbhlmnnfjaa", sum := "7ba1346ac4ef7c1c352f2a3e193ddf70a7dbb40359a338f5e1030d91eba85542", func := "loop.example/mailwire/laws.FnJoinWords", spec := "fnJoinWords", inPlace := ["internal/abi.NoEscape", "internal/bytealg.MakeNoZero"], unfollowed := true, recurses := true, apart := false, narrowed := true }
def FnJoinWordsUptoSaid : Prop := fnJoinWordsUptoRow.holds Try.pinned (OpenSpec.upto fnJoinWordsSpec)

end Rows
end Go.Proofs.Yteibhbhlmnnfjaa
