/-
  No cell of these rows narrows 'for every input' (looked for: loops, veiled, ifaces, maps, wideKeys, modest, calm, conditions, laid).
  DERIVED. THE GIVEN ROWS OF THIS SEAT. 5 by the template 'for every input the law returns true; each argument reads behind the call as it read before'; 0 by the template 'total and deterministic' (their statements: YtligbfegafkpjaaTotals.lean).
  GIVEN WITH THE SEED: the statements are not yours to turn. If you find one false, say at which input.
  Laid BY PROGRAM, IN A SANDBOX (cutbox-rows.mjs): the forced cells as the released guide's own fill.sh prints them over the translation 8824a93c4abb7ef5… (all of the seat's roots in one cut). By AI agents, Wed Nov 11 2026. No macro, syntax, notation, axiom, sorry.
-/
import Derived.Test.YtligbfegafkpjaaChecked
import GoSem.Claim
import GoSem.ClaimJoined
import GoSem.ClaimMapViews
import Derived.JoinedTies
import Derived.KernelRfl
namespace Go.Proofs.Ytligbfegafkpjaa
/- THE CELL 'sum', in the pinned program and in every row, IS THE sha256 OF THE DUMP (.gsa) THAT YtligbfegafkpjaaProg.lean LOADS. Nothing in Lean hashes anything: it is a label: what it is worth is what the hold of that sum in a sandbox is worth. -/
noncomputable def Try.pinned : Pinned := { name := "ytligbfegafkpjaa", sum := "8824a93c4abb7ef59a761f36b6febfc423f79784f5cb1ca6989af62d3c63d618", checked := Try.checked }
namespace Rows
def none {H : Type} : Left H := { results := [], args := [] }

/-- 'laws.FnExactIsRow': WHATEVER THE INPUT: true; the input reads as it did. -/
def fnExactIsRowSpec : ChangeSpec := { name := "fnExactIsRow", fn := fun _ => fun
  | [d] => { results := [.lit (.bool true)], args := [d] }
  | _ => none }
def fnExactIsRowRow : OpenClaim := { program := "ytligbfegafkpjaa", sum := "8824a93c4abb7ef59a761f36b6febfc423f79784f5cb1ca6989af62d3c63d618", func := "loop.example/g01066/laws.FnExactIsRow", spec := "fnExactIsRow", unfollowed := true, recurses := true, apart := false }
def FnExactIsRowSaid : Prop := fnExactIsRowRow.holds Try.pinned (OpenSpec.ofChange fnExactIsRowSpec)

/-- ITS FALSE NEIGHBOUR: 'it returns false'. Refute it at one input. -/
def fnExactIsRowWrong : ChangeSpec := { name := "fnExactIsRow", fn := fun _ => fun
  | [d] => { results := [.lit (.bool false)], args := [d] }
  | _ => none }
def FnExactIsRowWrongFalsely : Prop := fnExactIsRowRow.holds Try.pinned (OpenSpec.ofChange fnExactIsRowWrong)

/-- 'laws.FnExactIsCommand': WHATEVER THE INPUT: true; the input reads as it did. -/
def fnExactIsCommandSpec : ChangeSpec := { name := "fnExactIsCommand", fn := fun _ => fun
  | [d] => { results := [.lit (.bool true)], args := [d] }
  | _ => none }
def fnExactIsCommandRow : OpenClaim := { program := "ytligbfegafkpjaa", sum := "8824a93c4abb7ef59a761f36b6febfc423f79784f5cb1ca6989af62d3c63d618", func := "loop.example/g01066/laws.FnExactIsCommand", spec := "fnExactIsCommand", apart := false }
def FnExactIsCommandSaid : Prop := fnExactIsCommandRow.holds Try.pinned (OpenSpec.ofChange fnExactIsCommandSpec)

/-- ITS FALSE NEIGHBOUR: 'it returns false'. Refute it at one input. -/
def fnExactIsCommandWrong : ChangeSpec := { name := "fnExactIsCommand", fn := fun _ => fun
  | [d] => { results := [.lit (.bool false)], args := [d] }
  | _ => none }
def FnExactIsCommandWrongFalsely : Prop := fnExactIsCommandRow.holds Try.pinned (OpenSpec.ofChange fnExactIsCommandWrong)

/-- 'laws.FnExactIsCatalogue': WHATEVER THE INPUT: true; the input reads as it did. -/
def fnExactIsCatalogueSpec : ChangeSpec := { name := "fnExactIsCatalogue", fn := fun _ => fun
  | [d] => { results := [.lit (.bool true)], args := [d] }
  | _ => none }
def fnExactIsCatalogueRow : OpenClaim := { program := "ytligbfegafkpjaa", sum := "8824a93c4abb7ef59a761f36b6febfc423f79784f5cb1ca6989af62d3c63d618", func := "loop.example/g01066/laws.FnExactIsCatalogue", spec := "fnExactIsCatalogue", apart := false }
def FnExactIsCatalogueSaid : Prop := fnExactIsCatalogueRow.holds Try.pinned (OpenSpec.ofChange fnExactIsCatalogueSpec)

/-- ITS FALSE NEIGHBOUR: 'it returns false'. Refute it at one input. -/
def fnExactIsCatalogueWrong : ChangeSpec := { name := "fnExactIsCatalogue", fn := fun _ => fun
  | [d] => { results := [.lit (.bool false)], args := [d] }
  | _ => none }
def FnExactIsCatalogueWrongFalsely : Prop := fnExactIsCatalogueRow.holds Try.pinned (OpenSpec.ofChange fnExactIsCatalogueWrong)

/-- 'laws.FnExactNamesOfClass': WHATEVER THE INPUT: true; the input reads as it did. -/
def fnExactNamesOfClassSpec : ChangeSpec := { name := "fnExactNamesOfClass", fn := fun _ => fun
  | [d1, d2] => { results := [.lit (.bool true)], args := [d1, d2] }
  | _ => none }
def fnExactNamesOfClassRow : OpenClaim := { program := "ytligbfegafkpjaa", sum := "8824a93c4abb7ef59a761f36b6febfc423f79784f5cb1ca6989af62d3c63d618", func := "loop.example/g01066/laws.FnExactNamesOfClass", spec := "fnExactNamesOfClass", apart := false }
def FnExactNamesOfClassSaid : Prop := fnExactNamesOfClassRow.holds Try.pinned (OpenSpec.ofChange fnExactNamesOfClassSpec)

/-- ITS FALSE NEIGHBOUR: 'it returns false'. Refute it at one input. -/
def fnExactNamesOfClassWrong : ChangeSpec := { name := "fnExactNamesOfClass", fn := fun _ => fun
  | [d1, d2] => { results := [.lit (.bool false)], args := [d1, d2] }
  | _ => none }
def FnExactNamesOfClassWrongFalsely : Prop := fnExactNamesOfClassRow.holds Try.pinned (OpenSpec.ofChange fnExactNamesOfClassWrong)

/-- 'laws.FnExactRunCommand': WHATEVER THE INPUT: true; the input reads as it did. -/
def fnExactRunCommandSpec : ChangeSpec := { name := "fnExactRunCommand", fn := fun _ => fun
  | [d1, d2] => { results := [.lit (.bool true)], args := [d1, d2] }
  | _ => none }
def fnExactRunCommandRow : OpenClaim := { program := "ytligbfegafkpjaa", sum := "8824a93c4abb7ef59a761f36b6febfc423f79784f5cb1ca6989af62d3c63d618", func := "loop.example/g01066/laws.FnExactRunCommand", spec := "fnExactRunCommand", apart := false }
def FnExactRunCommandSaid : Prop := fnExactRunCommandRow.holds Try.pinned (OpenSpec.ofChange fnExactRunCommandSpec)

/-- ITS FALSE NEIGHBOUR: 'it returns false'. Refute it at one input. -/
def fnExactRunCommandWrong : ChangeSpec := { name := "fnExactRunCommand", fn := fun _ => fun
  | [d1, d2] => { results := [.lit (.bool false)], args := [d1, d2] }
  | _ => none }
def FnExactRunCommandWrongFalsely : Prop := fnExactRunCommandRow.holds Try.pinned (OpenSpec.ofChange fnExactRunCommandWrong)

/- THE SECOND FORM. 'bulk': how many values and letters a reading holds, each counted each time it is reached (what is shared counts as often as it is met; a slice's spare places count too). A statement '..UptoSaid' is the law's where the arguments, and the package variables that the reading takes, are together of bulk at most 1048576: NARROWER than '..Said'. Prove '..Said' where nothing that the law and all that it calls make is longer than what came in: it says more and counts as full. Else prove '..UptoSaid'. A law counts once. -/
mutual
def uptoBulk {H : Type} : DataW H → Nat
  | .lit (.string bytes) => bytes.length + 1
  | .lit _ => 1
  | .nil => 1
  | .ptr d => uptoBulk d + 1
  | .slice elems spare => uptoBulkAll elems + uptoBulkAll spare + 1
  | .agg parts => uptoBulkAll parts + 1
  | .iface _ d => uptoBulk d + 1
  | .map entries => uptoBulkEntries entries + 1
  | .held _ => 1
def uptoBulkAll {H : Type} : List (DataW H) → Nat
  | [] => 0
  | d :: r => uptoBulk d + uptoBulkAll r
def uptoBulkEntries {H : Type} : List (Lit × DataW H) → Nat
  | [] => 0
  | x :: r => uptoBulkEntry x + uptoBulkEntries r
def uptoBulkEntry {H : Type} : Lit × DataW H → Nat
  | (.string bytes, d) => bytes.length + uptoBulk d + 1
  | (_, d) => uptoBulk d + 1
 end
def uptoSmall : (H : Type) → List (DataW H) → Bool := fun _ ds => decide (uptoBulkAll ds ≤ 1048576)
def OpenSpec.upto (s : _root_.Go.ChangeSpec) : _root_.Go.OpenSpec := { _root_.Go.OpenSpec.ofChange s with cond := some uptoSmall }

/-- 'laws.FnExactIsRow', WHERE WHAT IT READS IS OF BULK AT MOST 1048576: true; the input reads as it did. -/
def fnExactIsRowUptoRow : OpenClaim := { program := "ytligbfegafkpjaa", sum := "8824a93c4abb7ef59a761f36b6febfc423f79784f5cb1ca6989af62d3c63d618", func := "loop.example/g01066/laws.FnExactIsRow", spec := "fnExactIsRow", unfollowed := true, recurses := true, apart := false, narrowed := true }
def FnExactIsRowUptoSaid : Prop := fnExactIsRowUptoRow.holds Try.pinned (OpenSpec.upto fnExactIsRowSpec)

/-- 'laws.FnExactIsCommand', WHERE WHAT IT READS IS OF BULK AT MOST 1048576: true; the input reads as it did. -/
def fnExactIsCommandUptoRow : OpenClaim := { program := "ytligbfegafkpjaa", sum := "8824a93c4abb7ef59a761f36b6febfc423f79784f5cb1ca6989af62d3c63d618", func := "loop.example/g01066/laws.FnExactIsCommand", spec := "fnExactIsCommand", apart := false, narrowed := true }
def FnExactIsCommandUptoSaid : Prop := fnExactIsCommandUptoRow.holds Try.pinned (OpenSpec.upto fnExactIsCommandSpec)

/-- 'laws.FnExactIsCatalogue', WHERE WHAT IT READS IS OF BULK AT MOST 1048576: true; the input reads as it did. -/
def fnExactIsCatalogueUptoRow : OpenClaim := { program := "ytligbfegafkpjaa", sum := "8824a93c4abb7ef59a761f36b6febfc423f79784f5cb1ca6989af62d3c63d618", func := "loop.example/g01066/laws.FnExactIsCatalogue", spec := "fnExactIsCatalogue", apart := false, narrowed := true }
def FnExactIsCatalogueUptoSaid : Prop := fnExactIsCatalogueUptoRow.holds Try.pinned (OpenSpec.upto fnExactIsCatalogueSpec)

/-- 'laws.FnExactNamesOfClass', WHERE WHAT IT READS IS OF BULK AT MOST 1048576: true; the input reads as it did. -/
def fnExactNamesOfClassUptoRow : OpenClaim := { program := "ytligbfegafkpjaa", sum := "8824a93c4abb7ef59a761f36b6febfc423f79784f5cb1ca6989af62d3c63d618", func := "loop.example/g01066/laws.FnExactNamesOfClass", spec := "fnExactNamesOfClass", apart := false, narrowed := true }
def FnExactNamesOfClassUptoSaid : Prop := fnExactNamesOfClassUptoRow.holds Try.pinned (OpenSpec.upto fnExactNamesOfClassSpec)

/-- 'laws.FnExactRunCommand', WHERE WHAT IT READS IS OF BULK AT MOST 1048576: true; the input reads as it did. -/
def fnExactRunCommandUptoRow : OpenClaim := { program := "ytligbfegafkpjaa", sum := "8824a93c4abb7ef59a761f36b6febfc423f79784f5cb1ca6989af62d3c63d618", func := "loop.example/g01066/laws.FnExactRunCommand", spec := "fnExactRunCommand", apart := false, narrowed := true }
def FnExactRunCommandUptoSaid : Prop := fnExactRunCommandUptoRow.holds Try.pinned (OpenSpec.upto fnExactRunCommandSpec)

end Rows
end Go.Proofs.Ytligbfegafkpjaa
