/-
  No cell of these rows narrows 'for every input' (looked for: loops, veiled, ifaces, maps, wideKeys, modest, calm, conditions, laid).
  DERIVED. THE GIVEN ROWS OF THIS SEAT. 12 by the template 'for every input the law returns true; each argument reads behind the call as it read before'; 0 by the template 'total and deterministic' (their statements: YtgjbefchbjpjmaaTotals.lean).
  GIVEN WITH THE SEED: the statements are not yours to turn. If you find one false, say at which input.
  Laid BY PROGRAM, IN A SANDBOX (cutbox-rows.mjs): the forced cells as the released guide's own fill.sh prints them over the translation 9750e0d3e315dbd3… (all of the seat's roots in one cut). By AI agents, Wed Nov 11 2026. No macro, syntax, notation, axiom, sorry.
-/
import Derived.Test.YtgjbefchbjpjmaaChecked
import GoSem.Claim
import GoSem.ClaimJoined
import GoSem.ClaimMapViews
import Derived.JoinedTies
import Derived.KernelRfl
namespace Go.Proofs.Ytgjbefchbjpjmaa
/- THE CELL 'sum', in the pinned program and in every row, IS THE sha256 OF THE DUMP (.gsa) THAT YtgjbefchbjpjmaaProg.lean LOADS. Nothing in Lean hashes anything: it is a label: what it is worth is what the hold of that sum in a sandbox is worth. -/
noncomputable def Try.pinned : Pinned := { name := "ytgjbefchbjpjmaa", sum := "9750e0d3e315dbd3ac0d1d0180d32c9ffea060d41a07be752633f7ad5a5d480f", checked := Try.checked }
namespace Rows
def none {H : Type} : Left H := { results := [], args := [] }

/-- 'laws.FnExactIsSumOfThree': WHATEVER THE INPUT: true; the input reads as it did. -/
def fnExactIsSumOfThreeSpec : ChangeSpec := { name := "fnExactIsSumOfThree", fn := fun _ => fun
  | [d] => { results := [.lit (.bool true)], args := [d] }
  | _ => none }
def fnExactIsSumOfThreeRow : OpenClaim := { program := "ytgjbefchbjpjmaa", sum := "9750e0d3e315dbd3ac0d1d0180d32c9ffea060d41a07be752633f7ad5a5d480f", func := "loop.example/g01066/laws.FnExactIsSumOfThree", spec := "fnExactIsSumOfThree", apart := false }
def FnExactIsSumOfThreeSaid : Prop := fnExactIsSumOfThreeRow.holds Try.pinned (OpenSpec.ofChange fnExactIsSumOfThreeSpec)

/-- ITS FALSE NEIGHBOUR: 'it returns false'. Refute it at one input. -/
def fnExactIsSumOfThreeWrong : ChangeSpec := { name := "fnExactIsSumOfThree", fn := fun _ => fun
  | [d] => { results := [.lit (.bool false)], args := [d] }
  | _ => none }
def FnExactIsSumOfThreeWrongFalsely : Prop := fnExactIsSumOfThreeRow.holds Try.pinned (OpenSpec.ofChange fnExactIsSumOfThreeWrong)

/-- 'laws.FnExactTwoProduct': WHATEVER THE INPUT: true; the input reads as it did. -/
def fnExactTwoProductSpec : ChangeSpec := { name := "fnExactTwoProduct", fn := fun _ => fun
  | [d1, d2] => { results := [.lit (.bool true)], args := [d1, d2] }
  | _ => none }
def fnExactTwoProductRow : OpenClaim := { program := "ytgjbefchbjpjmaa", sum := "9750e0d3e315dbd3ac0d1d0180d32c9ffea060d41a07be752633f7ad5a5d480f", func := "loop.example/g01066/laws.FnExactTwoProduct", spec := "fnExactTwoProduct", apart := false }
def FnExactTwoProductSaid : Prop := fnExactTwoProductRow.holds Try.pinned (OpenSpec.ofChange fnExactTwoProductSpec)

/-- ITS FALSE NEIGHBOUR: 'it returns false'. Refute it at one input. -/
def fnExactTwoProductWrong : ChangeSpec := { name := "fnExactTwoProduct", fn := fun _ => fun
  | [d1, d2] => { results := [.lit (.bool false)], args := [d1, d2] }
  | _ => none }
def FnExactTwoProductWrongFalsely : Prop := fnExactTwoProductRow.holds Try.pinned (OpenSpec.ofChange fnExactTwoProductWrong)

/-- 'laws.FnExactCountFour': WHATEVER THE INPUT: true; the input reads as it did. -/
def fnExactCountFourSpec : ChangeSpec := { name := "fnExactCountFour", fn := fun _ => fun
  | [d] => { results := [.lit (.bool true)], args := [d] }
  | _ => none }
def fnExactCountFourRow : OpenClaim := { program := "ytgjbefchbjpjmaa", sum := "9750e0d3e315dbd3ac0d1d0180d32c9ffea060d41a07be752633f7ad5a5d480f", func := "loop.example/g01066/laws.FnExactCountFour", spec := "fnExactCountFour", apart := false }
def FnExactCountFourSaid : Prop := fnExactCountFourRow.holds Try.pinned (OpenSpec.ofChange fnExactCountFourSpec)

/-- ITS FALSE NEIGHBOUR: 'it returns false'. Refute it at one input. -/
def fnExactCountFourWrong : ChangeSpec := { name := "fnExactCountFour", fn := fun _ => fun
  | [d] => { results := [.lit (.bool false)], args := [d] }
  | _ => none }
def FnExactCountFourWrongFalsely : Prop := fnExactCountFourRow.holds Try.pinned (OpenSpec.ofChange fnExactCountFourWrong)

/-- 'laws.FnExactDivisorCount': WHATEVER THE INPUT: true; the input reads as it did. -/
def fnExactDivisorCountSpec : ChangeSpec := { name := "fnExactDivisorCount", fn := fun _ => fun
  | [d1, d2, d3] => { results := [.lit (.bool true)], args := [d1, d2, d3] }
  | _ => none }
def fnExactDivisorCountRow : OpenClaim := { program := "ytgjbefchbjpjmaa", sum := "9750e0d3e315dbd3ac0d1d0180d32c9ffea060d41a07be752633f7ad5a5d480f", func := "loop.example/g01066/laws.FnExactDivisorCount", spec := "fnExactDivisorCount", apart := false }
def FnExactDivisorCountSaid : Prop := fnExactDivisorCountRow.holds Try.pinned (OpenSpec.ofChange fnExactDivisorCountSpec)

/-- ITS FALSE NEIGHBOUR: 'it returns false'. Refute it at one input. -/
def fnExactDivisorCountWrong : ChangeSpec := { name := "fnExactDivisorCount", fn := fun _ => fun
  | [d1, d2, d3] => { results := [.lit (.bool false)], args := [d1, d2, d3] }
  | _ => none }
def FnExactDivisorCountWrongFalsely : Prop := fnExactDivisorCountRow.holds Try.pinned (OpenSpec.ofChange fnExactDivisorCountWrong)

/-- 'laws.FnExactFourProduct': WHATEVER THE INPUT: true; the input reads as it did. -/
def fnExactFourProductSpec : ChangeSpec := { name := "fnExactFourProduct", fn := fun _ => fun
  | [d1, d2] => { results := [.lit (.bool true)], args := [d1, d2] }
  | _ => none }
def fnExactFourProductRow : OpenClaim := { program := "ytgjbefchbjpjmaa", sum := "9750e0d3e315dbd3ac0d1d0180d32c9ffea060d41a07be752633f7ad5a5d480f", func := "loop.example/g01066/laws.FnExactFourProduct", spec := "fnExactFourProduct", apart := false }
def FnExactFourProductSaid : Prop := fnExactFourProductRow.holds Try.pinned (OpenSpec.ofChange fnExactFourProductSpec)

/-- ITS FALSE NEIGHBOUR: 'it returns false'. Refute it at one input. -/
def fnExactFourProductWrong : ChangeSpec := { name := "fnExactFourProduct", fn := fun _ => fun
  | [d1, d2] => { results := [.lit (.bool false)], args := [d1, d2] }
  | _ => none }
def FnExactFourProductWrongFalsely : Prop := fnExactFourProductRow.holds Try.pinned (OpenSpec.ofChange fnExactFourProductWrong)

/-- 'laws.FnExactCountTriangular': WHATEVER THE INPUT: true; the input reads as it did. -/
def fnExactCountTriangularSpec : ChangeSpec := { name := "fnExactCountTriangular", fn := fun _ => fun
  | [d] => { results := [.lit (.bool true)], args := [d] }
  | _ => none }
def fnExactCountTriangularRow : OpenClaim := { program := "ytgjbefchbjpjmaa", sum := "9750e0d3e315dbd3ac0d1d0180d32c9ffea060d41a07be752633f7ad5a5d480f", func := "loop.example/g01066/laws.FnExactCountTriangular", spec := "fnExactCountTriangular", apart := false }
def FnExactCountTriangularSaid : Prop := fnExactCountTriangularRow.holds Try.pinned (OpenSpec.ofChange fnExactCountTriangularSpec)

/-- ITS FALSE NEIGHBOUR: 'it returns false'. Refute it at one input. -/
def fnExactCountTriangularWrong : ChangeSpec := { name := "fnExactCountTriangular", fn := fun _ => fun
  | [d] => { results := [.lit (.bool false)], args := [d] }
  | _ => none }
def FnExactCountTriangularWrongFalsely : Prop := fnExactCountTriangularRow.holds Try.pinned (OpenSpec.ofChange fnExactCountTriangularWrong)

/-- 'laws.FnExactCountTwo': WHATEVER THE INPUT: true; the input reads as it did. -/
def fnExactCountTwoSpec : ChangeSpec := { name := "fnExactCountTwo", fn := fun _ => fun
  | [d] => { results := [.lit (.bool true)], args := [d] }
  | _ => none }
def fnExactCountTwoRow : OpenClaim := { program := "ytgjbefchbjpjmaa", sum := "9750e0d3e315dbd3ac0d1d0180d32c9ffea060d41a07be752633f7ad5a5d480f", func := "loop.example/g01066/laws.FnExactCountTwo", spec := "fnExactCountTwo", apart := false }
def FnExactCountTwoSaid : Prop := fnExactCountTwoRow.holds Try.pinned (OpenSpec.ofChange fnExactCountTwoSpec)

/-- ITS FALSE NEIGHBOUR: 'it returns false'. Refute it at one input. -/
def fnExactCountTwoWrong : ChangeSpec := { name := "fnExactCountTwo", fn := fun _ => fun
  | [d] => { results := [.lit (.bool false)], args := [d] }
  | _ => none }
def FnExactCountTwoWrongFalsely : Prop := fnExactCountTwoRow.holds Try.pinned (OpenSpec.ofChange fnExactCountTwoWrong)

/-- 'laws.FnExactFirstThree': WHATEVER THE INPUT: true; the input reads as it did. -/
def fnExactFirstThreeSpec : ChangeSpec := { name := "fnExactFirstThree", fn := fun _ => fun
  | [d] => { results := [.lit (.bool true)], args := [d] }
  | _ => none }
def fnExactFirstThreeRow : OpenClaim := { program := "ytgjbefchbjpjmaa", sum := "9750e0d3e315dbd3ac0d1d0180d32c9ffea060d41a07be752633f7ad5a5d480f", func := "loop.example/g01066/laws.FnExactFirstThree", spec := "fnExactFirstThree", apart := false }
def FnExactFirstThreeSaid : Prop := fnExactFirstThreeRow.holds Try.pinned (OpenSpec.ofChange fnExactFirstThreeSpec)

/-- ITS FALSE NEIGHBOUR: 'it returns false'. Refute it at one input. -/
def fnExactFirstThreeWrong : ChangeSpec := { name := "fnExactFirstThree", fn := fun _ => fun
  | [d] => { results := [.lit (.bool false)], args := [d] }
  | _ => none }
def FnExactFirstThreeWrongFalsely : Prop := fnExactFirstThreeRow.holds Try.pinned (OpenSpec.ofChange fnExactFirstThreeWrong)

/-- 'laws.FnExactSquareSeries': WHATEVER THE INPUT: true; the input reads as it did. -/
def fnExactSquareSeriesSpec : ChangeSpec := { name := "fnExactSquareSeries", fn := fun _ => fun
  | [d1, d2] => { results := [.lit (.bool true)], args := [d1, d2] }
  | _ => none }
def fnExactSquareSeriesRow : OpenClaim := { program := "ytgjbefchbjpjmaa", sum := "9750e0d3e315dbd3ac0d1d0180d32c9ffea060d41a07be752633f7ad5a5d480f", func := "loop.example/g01066/laws.FnExactSquareSeries", spec := "fnExactSquareSeries", apart := false }
def FnExactSquareSeriesSaid : Prop := fnExactSquareSeriesRow.holds Try.pinned (OpenSpec.ofChange fnExactSquareSeriesSpec)

/-- ITS FALSE NEIGHBOUR: 'it returns false'. Refute it at one input. -/
def fnExactSquareSeriesWrong : ChangeSpec := { name := "fnExactSquareSeries", fn := fun _ => fun
  | [d1, d2] => { results := [.lit (.bool false)], args := [d1, d2] }
  | _ => none }
def FnExactSquareSeriesWrongFalsely : Prop := fnExactSquareSeriesRow.holds Try.pinned (OpenSpec.ofChange fnExactSquareSeriesWrong)

/-- 'laws.FnExactCountThree': WHATEVER THE INPUT: true; the input reads as it did. -/
def fnExactCountThreeSpec : ChangeSpec := { name := "fnExactCountThree", fn := fun _ => fun
  | [d] => { results := [.lit (.bool true)], args := [d] }
  | _ => none }
def fnExactCountThreeRow : OpenClaim := { program := "ytgjbefchbjpjmaa", sum := "9750e0d3e315dbd3ac0d1d0180d32c9ffea060d41a07be752633f7ad5a5d480f", func := "loop.example/g01066/laws.FnExactCountThree", spec := "fnExactCountThree", apart := false }
def FnExactCountThreeSaid : Prop := fnExactCountThreeRow.holds Try.pinned (OpenSpec.ofChange fnExactCountThreeSpec)

/-- ITS FALSE NEIGHBOUR: 'it returns false'. Refute it at one input. -/
def fnExactCountThreeWrong : ChangeSpec := { name := "fnExactCountThree", fn := fun _ => fun
  | [d] => { results := [.lit (.bool false)], args := [d] }
  | _ => none }
def FnExactCountThreeWrongFalsely : Prop := fnExactCountThreeRow.holds Try.pinned (OpenSpec.ofChange fnExactCountThreeWrong)

/-- 'laws.FnExactFirstFour': WHATEVER THE INPUT: true; the input reads as it did. -/
def fnExactFirstFourSpec : ChangeSpec := { name := "fnExactFirstFour", fn := fun _ => fun
  | [d] => { results := [.lit (.bool true)], args := [d] }
  | _ => none }
def fnExactFirstFourRow : OpenClaim := { program := "ytgjbefchbjpjmaa", sum := "9750e0d3e315dbd3ac0d1d0180d32c9ffea060d41a07be752633f7ad5a5d480f", func := "loop.example/g01066/laws.FnExactFirstFour", spec := "fnExactFirstFour", apart := false }
def FnExactFirstFourSaid : Prop := fnExactFirstFourRow.holds Try.pinned (OpenSpec.ofChange fnExactFirstFourSpec)

/-- ITS FALSE NEIGHBOUR: 'it returns false'. Refute it at one input. -/
def fnExactFirstFourWrong : ChangeSpec := { name := "fnExactFirstFour", fn := fun _ => fun
  | [d] => { results := [.lit (.bool false)], args := [d] }
  | _ => none }
def FnExactFirstFourWrongFalsely : Prop := fnExactFirstFourRow.holds Try.pinned (OpenSpec.ofChange fnExactFirstFourWrong)

/-- 'laws.FnExactTwoSquares': WHATEVER THE INPUT: true; the input reads as it did. -/
def fnExactTwoSquaresSpec : ChangeSpec := { name := "fnExactTwoSquares", fn := fun _ => fun
  | [d] => { results := [.lit (.bool true)], args := [d] }
  | _ => none }
def fnExactTwoSquaresRow : OpenClaim := { program := "ytgjbefchbjpjmaa", sum := "9750e0d3e315dbd3ac0d1d0180d32c9ffea060d41a07be752633f7ad5a5d480f", func := "loop.example/g01066/laws.FnExactTwoSquares", spec := "fnExactTwoSquares", apart := false }
def FnExactTwoSquaresSaid : Prop := fnExactTwoSquaresRow.holds Try.pinned (OpenSpec.ofChange fnExactTwoSquaresSpec)

/-- ITS FALSE NEIGHBOUR: 'it returns false'. Refute it at one input. -/
def fnExactTwoSquaresWrong : ChangeSpec := { name := "fnExactTwoSquares", fn := fun _ => fun
  | [d] => { results := [.lit (.bool false)], args := [d] }
  | _ => none }
def FnExactTwoSquaresWrongFalsely : Prop := fnExactTwoSquaresRow.holds Try.pinned (OpenSpec.ofChange fnExactTwoSquaresWrong)

/- THE SECOND FORM. 'bulk': how many values and letters a reading holds, each counted each time it is reached (what is shared counts as often as it is met; a slice's spare places count too). A statement '..UptoSaid' is the law's where the arguments, and the package variables that the reading takes, are together of bulk at most 1048576: NARROWER than '..Said'. Prove '..Said' where nothing that the law and all that it calls make is longer than what came in: it says more and counts as full. Else prove '..UptoSaid'. A law counts once. -/
mutual
def uptoBulk {H : Type} : DataW H → Nat
  | .lit (.string bytes) => bytes.length + 1
  | .lit _ => 1
  | .nil => 1
  | .ptr d => uptoBulk d + 1
  | .slice elems spare => uptoBulkAll elems + uptoBulkAll spare + 1
  | .agg parts => uptoBulkAll parts + 1
  | .iface _ d => uptoBulk d + 1
  | .map entries => uptoBulkEntries entries + 1
  | .held _ => 1
def uptoBulkAll {H : Type} : List (DataW H) → Nat
  | [] => 0
  | d :: r => uptoBulk d + uptoBulkAll r
def uptoBulkEntries {H : Type} : List (Lit × DataW H) → Nat
  | [] => 0
  | x :: r => uptoBulkEntry x + uptoBulkEntries r
def uptoBulkEntry {H : Type} : Lit × DataW H → Nat
  | (.string bytes, d) => bytes.length + uptoBulk d + 1
  | (_, d) => uptoBulk d + 1
 end
def uptoSmall : (H : Type) → List (DataW H) → Bool := fun _ ds => decide (uptoBulkAll ds ≤ 1048576)
def OpenSpec.upto (s : _root_.Go.ChangeSpec) : _root_.Go.OpenSpec := { _root_.Go.OpenSpec.ofChange s with cond := some uptoSmall }

/-- 'laws.FnExactIsSumOfThree', WHERE WHAT IT READS IS OF BULK AT MOST 1048576: true; the input reads as it did. -/
def fnExactIsSumOfThreeUptoRow : OpenClaim := { program := "ytgjbefchbjpjmaa", sum := "9750e0d3e315dbd3ac0d1d0180d32c9ffea060d41a07be752633f7ad5a5d480f", func := "loop.example/g01066/laws.FnExactIsSumOfThree", spec := "fnExactIsSumOfThree", apart := false, narrowed := true }
def FnExactIsSumOfThreeUptoSaid : Prop := fnExactIsSumOfThreeUptoRow.holds Try.pinned (OpenSpec.upto fnExactIsSumOfThreeSpec)

/-- 'laws.FnExactTwoProduct', WHERE WHAT IT READS IS OF BULK AT MOST 1048576: true; the input reads as it did. -/
def fnExactTwoProductUptoRow : OpenClaim := { program := "ytgjbefchbjpjmaa", sum := "9750e0d3e315dbd3ac0d1d0180d32c9ffea060d41a07be752633f7ad5a5d480f", func := "loop.example/g01066/laws.FnExactTwoProduct", spec := "fnExactTwoProduct", apart := false, narrowed := true }
def FnExactTwoProductUptoSaid : Prop := fnExactTwoProductUptoRow.holds Try.pinned (OpenSpec.upto fnExactTwoProductSpec)

/-- 'laws.FnExactCountFour', WHERE WHAT IT READS IS OF BULK AT MOST 1048576: true; the input reads as it did. -/
def fnExactCountFourUptoRow : OpenClaim := { program := "ytgjbefchbjpjmaa", sum := "9750e0d3e315dbd3ac0d1d0180d32c9ffea060d41a07be752633f7ad5a5d480f", func := "loop.example/g01066/laws.FnExactCountFour", spec := "fnExactCountFour", apart := false, narrowed := true }
def FnExactCountFourUptoSaid : Prop := fnExactCountFourUptoRow.holds Try.pinned (OpenSpec.upto fnExactCountFourSpec)

/-- 'laws.FnExactDivisorCount', WHERE WHAT IT READS IS OF BULK AT MOST 1048576: true; the input reads as it did. -/
def fnExactDivisorCountUptoRow : OpenClaim := { program := "ytgjbefchbjpjmaa", sum := "9750e0d3e315dbd3ac0d1d0180d32c9ffea060d41a07be752633f7ad5a5d480f", func := "loop.example/g01066/laws.FnExactDivisorCount", spec := "fnExactDivisorCount", apart := false, narrowed := true }
def FnExactDivisorCountUptoSaid : Prop := fnExactDivisorCountUptoRow.holds Try.pinned (OpenSpec.upto fnExactDivisorCountSpec)

/-- 'laws.FnExactFourProduct', WHERE WHAT IT READS IS OF BULK AT MOST 1048576: true; the input reads as it did. -/
def fnExactFourProductUptoRow : OpenClaim := { program := "ytgjbefchbjpjmaa", sum := "9750e0d3e315dbd3ac0d1d0180d32c9ffea060d41a07be752633f7ad5a5d480f", func := "loop.example/g01066/laws.FnExactFourProduct", spec := "fnExactFourProduct", apart := false, narrowed := true }
def FnExactFourProductUptoSaid : Prop := fnExactFourProductUptoRow.holds Try.pinned (OpenSpec.upto fnExactFourProductSpec)

/-- 'laws.FnExactCountTriangular', WHERE WHAT IT READS IS OF BULK AT MOST 1048576: true; the input reads as it did. -/
def fnExactCountTriangularUptoRow : OpenClaim := { program := "ytgjbefchbjpjmaa", sum := "9750e0d3e315dbd3ac0d1d0180d32c9ffea060d41a07be752633f7ad5a5d480f", func := "loop.example/g01066/laws.FnExactCountTriangular", spec := "fnExactCountTriangular", apart := false, narrowed := true }
def FnExactCountTriangularUptoSaid : Prop := fnExactCountTriangularUptoRow.holds Try.pinned (OpenSpec.upto fnExactCountTriangularSpec)

/-- 'laws.FnExactCountTwo', WHERE WHAT IT READS IS OF BULK AT MOST 1048576: true; the input reads as it did. -/
def fnExactCountTwoUptoRow : OpenClaim := { program := "ytgjbefchbjpjmaa", sum := "9750e0d3e315dbd3ac0d1d0180d32c9ffea060d41a07be752633f7ad5a5d480f", func := "loop.example/g01066/laws.FnExactCountTwo", spec := "fnExactCountTwo", apart := false, narrowed := true }
def FnExactCountTwoUptoSaid : Prop := fnExactCountTwoUptoRow.holds Try.pinned (OpenSpec.upto fnExactCountTwoSpec)

/-- 'laws.FnExactFirstThree', WHERE WHAT IT READS IS OF BULK AT MOST 1048576: true; the input reads as it did. -/
def fnExactFirstThreeUptoRow : OpenClaim := { program := "ytgjbefchbjpjmaa", sum := "9750e0d3e315dbd3ac0d1d0180d32c9ffea060d41a07be752633f7ad5a5d480f", func := "loop.example/g01066/laws.FnExactFirstThree", spec := "fnExactFirstThree", apart := false, narrowed := true }
def FnExactFirstThreeUptoSaid : Prop := fnExactFirstThreeUptoRow.holds Try.pinned (OpenSpec.upto fnExactFirstThreeSpec)

/-- 'laws.FnExactSquareSeries', WHERE WHAT IT READS IS OF BULK AT MOST 1048576: true; the input reads as it did. -/
def fnExactSquareSeriesUptoRow : OpenClaim := { program := "ytgjbefchbjpjmaa", sum := "9750e0d3e315dbd3ac0d1d0180d32c9ffea060d41a07be752633f7ad5a5d480f", func := "loop.example/g01066/laws.FnExactSquareSeries", spec := "fnExactSquareSeries", apart := false, narrowed := true }
def FnExactSquareSeriesUptoSaid : Prop := fnExactSquareSeriesUptoRow.holds Try.pinned (OpenSpec.upto fnExactSquareSeriesSpec)

/-- 'laws.FnExactCountThree', WHERE WHAT IT READS IS OF BULK AT MOST 1048576: true; the input reads as it did. -/
def fnExactCountThreeUptoRow : OpenClaim := { program := "ytgjbefchbjpjmaa", sum := "9750e0d3e315dbd3ac0d1d0180d32c9ffea060d41a07be752633f7ad5a5d480f", func := "loop.example/g01066/laws.FnExactCountThree", spec := "fnExactCountThree", apart := false, narrowed := true }
def FnExactCountThreeUptoSaid : Prop := fnExactCountThreeUptoRow.holds Try.pinned (OpenSpec.upto fnExactCountThreeSpec)

/-- 'laws.FnExactFirstFour', WHERE WHAT IT READS IS OF BULK AT MOST 1048576: true; the input reads as it did. -/
def fnExactFirstFourUptoRow : OpenClaim := { program := "ytgjbefchbjpjmaa", sum := "9750e0d3e315dbd3ac0d1d0180d32c9ffea060d41a07be752633f7ad5a5d480f", func := "loop.example/g01066/laws.FnExactFirstFour", spec := "fnExactFirstFour", apart := false, narrowed := true }
def FnExactFirstFourUptoSaid : Prop := fnExactFirstFourUptoRow.holds Try.pinned (OpenSpec.upto fnExactFirstFourSpec)

/-- 'laws.FnExactTwoSquares', WHERE WHAT IT READS IS OF BULK AT MOST 1048576: true; the input reads as it did. -/
def fnExactTwoSquaresUptoRow : OpenClaim := { program := "ytgjbefchbjpjmaa", sum := "9750e0d3e315dbd3ac0d1d0180d32c9ffea060d41a07be752633f7ad5a5d480f", func := "loop.example/g01066/laws.FnExactTwoSquares", spec := "fnExactTwoSquares", apart := false, narrowed := true }
def FnExactTwoSquaresUptoSaid : Prop := fnExactTwoSquaresUptoRow.holds Try.pinned (OpenSpec.upto fnExactTwoSquaresSpec)

end Rows
end Go.Proofs.Ytgjbefchbjpjmaa
