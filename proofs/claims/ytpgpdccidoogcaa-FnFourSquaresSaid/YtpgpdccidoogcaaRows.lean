/-
  No cell of these rows narrows 'for every input' (looked for: loops, veiled, ifaces, maps, wideKeys, modest, calm, conditions, laid).
  DERIVED. THE GIVEN ROWS OF THIS SEAT. 2 by the template 'for every input the law returns true; each argument reads behind the call as it read before'; 0 by the template 'total and deterministic' (their statements: YtpgpdccidoogcaaTotals.lean).
  GIVEN WITH THE SEED: the statements are not yours to turn. If you find one false, say at which input.
  Laid BY PROGRAM, IN A SANDBOX (cutbox-rows.mjs): the forced cells as the released guide's own fill.sh prints them over the translation b69605b72bf4b4fa… (all of the seat's roots in one cut). By AI agents, Wed Nov 11 2026. No macro, syntax, notation, axiom, sorry.
-/
import Derived.Test.YtpgpdccidoogcaaChecked
import GoSem.Claim
import GoSem.ClaimJoined
import GoSem.ClaimMapViews
import Derived.JoinedTies
import Derived.KernelRfl
namespace Go.Proofs.Ytpgpdccidoogcaa
/- THE CELL 'sum', in the pinned program and in every row, IS THE sha256 OF THE DUMP (.gsa) THAT YtpgpdccidoogcaaProg.lean LOADS. Nothing in Lean hashes anything: it is a label: what it is worth is what the hold of that sum in a sandbox is worth. -/
noncomputable def Try.pinned : Pinned := { name := "ytpgpdccidoogcaa", sum := "b69605b72bf4b4fabae31562c05c079b8fbe14221270eff515d15f30ccf2c7bb", checked := Try.checked }
namespace Rows
def none {H : Type} : Left H := { results := [], args := [] }

/-- 'laws.FnFourSquares': WHATEVER THE INPUT: true; the input reads as it did. -/
def fnFourSquaresSpec : ChangeSpec := { name := "fnFourSquares", fn := fun _ => fun
  | [d1, d2] => { results := [.lit (.bool true)], args := [d1, d2] }
  | _ => none }
def fnFourSquaresRow : OpenClaim := { program := "ytpgpdccidoogcaa", sum := "b69605b72bf4b4fabae31562c05c079b8fbe14221270eff515d15f30ccf2c7bb", func := "loop.example/g01066/laws.FnFourSquares", spec := "fnFourSquares", apart := false }
def FnFourSquaresSaid : Prop := fnFourSquaresRow.holds Try.pinned (OpenSpec.ofChange fnFourSquaresSpec)

/-- ITS FALSE NEIGHBOUR: 'it returns false'. Refute it at one input. -/
def fnFourSquaresWrong : ChangeSpec := { name := "fnFourSquares", fn := fun _ => fun
  | [d1, d2] => { results := [.lit (.bool false)], args := [d1, d2] }
  | _ => none }
def FnFourSquaresWrongFalsely : Prop := fnFourSquaresRow.holds Try.pinned (OpenSpec.ofChange fnFourSquaresWrong)

/-- 'laws.FnThreeSquares': WHATEVER THE INPUT: true; the input reads as it did. -/
def fnThreeSquaresSpec : ChangeSpec := { name := "fnThreeSquares", fn := fun _ => fun
  | [d1, d2] => { results := [.lit (.bool true)], args := [d1, d2] }
  | _ => none }
def fnThreeSquaresRow : OpenClaim := { program := "ytpgpdccidoogcaa", sum := "b69605b72bf4b4fabae31562c05c079b8fbe14221270eff515d15f30ccf2c7bb", func := "loop.example/g01066/laws.FnThreeSquares", spec := "fnThreeSquares", apart := false }
def FnThreeSquaresSaid : Prop := fnThreeSquaresRow.holds Try.pinned (OpenSpec.ofChange fnThreeSquaresSpec)

/-- ITS FALSE NEIGHBOUR: 'it returns false'. Refute it at one input. -/
def fnThreeSquaresWrong : ChangeSpec := { name := "fnThreeSquares", fn := fun _ => fun
  | [d1, d2] => { results := [.lit (.bool false)], args := [d1, d2] }
  | _ => none }
def FnThreeSquaresWrongFalsely : Prop := fnThreeSquaresRow.holds Try.pinned (OpenSpec.ofChange fnThreeSquaresWrong)

/- THE SECOND FORM. 'bulk': how many values and letters a reading holds, each counted each time it is reached (what is shared counts as often as it is met; a slice's spare places count too). A statement '..UptoSaid' is the law's where the arguments, and the package variables that the reading takes, are together of bulk at most 1048576: NARROWER than '..Said'. Prove '..Said' where nothing that the law and all that it calls make is longer than what came in: it says more and counts as full. Else prove '..UptoSaid'. A law counts once. -/
mutual
def uptoBulk {H : Type} : DataW H → Nat
  | .lit (.string bytes) => bytes.length + 1
  | .lit _ => 1
  | .nil => 1
  | .ptr d => uptoBulk d + 1
  | .slice elems spare => uptoBulkAll elems + uptoBulkAll spare + 1
  | .agg parts => uptoBulkAll parts + 1
  | .iface _ d => uptoBulk d + 1
  | .map entries => uptoBulkEntries entries + 1
  | .held _ => 1
def uptoBulkAll {H : Type} : List (DataW H) → Nat
  | [] => 0
  | d :: r => uptoBulk d + uptoBulkAll r
def uptoBulkEntries {H : Type} : List (Lit × DataW H) → Nat
  | [] => 0
  | x :: r => uptoBulkEntry x + uptoBulkEntries r
def uptoBulkEntry {H : Type} : Lit × DataW H → Nat
  | (.string bytes, d) => bytes.length + uptoBulk d + 1
  | (_, d) => uptoBulk d + 1
 end
def uptoSmall : (H : Type) → List (DataW H) → Bool := fun _ ds => decide (uptoBulkAll ds ≤ 1048576)
def OpenSpec.upto (s : _root_.Go.ChangeSpec) : _root_.Go.OpenSpec := { _root_.Go.OpenSpec.ofChange s with cond := some uptoSmall }

/-- 'laws.FnFourSquares', WHERE WHAT IT READS IS OF BULK AT MOST 1048576: true; the input reads as it did. -/
def fnFourSquaresUptoRow : OpenClaim := { program := "ytpgpdccidoogcaa", sum := "b69605b72bf4b4fabae31562c05c079b8fbe14221270eff515d15f30ccf2c7bb", func := "loop.example/g01066/laws.FnFourSquares", spec := "fnFourSquares", apart := false, narrowed := true }
def FnFourSquaresUptoSaid : Prop := fnFourSquaresUptoRow.holds Try.pinned (OpenSpec.upto fnFourSquaresSpec)

/-- 'laws.FnThreeSquares', WHERE WHAT IT READS IS OF BULK AT MOST 1048576: true; the input reads as it did. -/
def fnThreeSquaresUptoRow : OpenClaim := { program := "ytpgpdccidoogcaa", sum := "b69605b72bf4b4fabae31562c05c079b8fbe14221270eff515d15f30ccf2c7bb", func := "loop.example/g01066/laws.FnThreeSquares", spec := "fnThreeSquares", apart := false, narrowed := true }
def FnThreeSquaresUptoSaid : Prop := fnThreeSquaresUptoRow.holds Try.pinned (OpenSpec.upto fnThreeSquaresSpec)

end Rows
end Go.Proofs.Ytpgpdccidoogcaa
