/-
  No cell of these rows narrows 'for every input' (looked for: loops, veiled, ifaces, maps, wideKeys, modest, calm, conditions, laid).
  DERIVED. THE GIVEN ROWS OF THIS SEAT. 12 by the template 'for every input the law returns true; each argument reads behind the call as it read before'; 0 by the template 'total and deterministic' (their statements: YtomjgokjfhiahaaTotals.lean).
  GIVEN WITH THE SEED: the statements are not yours to turn. If you find one false, say at which input.
  Laid BY PROGRAM, IN A SANDBOX (cutbox-rows.mjs): the forced cells as the released guide's own fill.sh prints them over the translation 088f33a1fd3131aa… (all of the seat's roots in one cut). By AI agents, Wed Nov 11 2026. No macro, syntax, notation, axiom, sorry.
-/
import Derived.Test.YtomjgokjfhiahaaChecked
import GoSem.Claim
import GoSem.ClaimJoined
import GoSem.ClaimMapViews
import Derived.JoinedTies
import Derived.KernelRfl
namespace Go.Proofs.Ytomjgokjfhiahaa
/- THE CELL 'sum', in the pinned program and in every row, IS THE sha256 OF THE DUMP (.gsa) THAT YtomjgokjfhiahaaProg.lean LOADS. Nothing in Lean hashes anything: it is a label: what it is worth is what the hold of that sum in a sandbox is worth. -/
noncomputable def Try.pinned : Pinned := { name := "ytomjgokjfhiahaa", sum := "088f33a1fd3131aa14a96926b087904aaa4e32fbdb02dbe4062aebe47c20e91c", checked := Try.checked }
namespace Rows
def none {H : Type} : Left H := { results := [], args := [] }

/-- 'laws.FnExactIsLevelMatrix': WHATEVER THE INPUT: true; the input reads as it did. -/
def fnExactIsLevelMatrixSpec : ChangeSpec := { name := "fnExactIsLevelMatrix", fn := fun _ => fun
  | [d1, d2] => { results := [.lit (.bool true)], args := [d1, d2] }
  | _ => none }
def fnExactIsLevelMatrixRow : OpenClaim := { program := "ytomjgokjfhiahaa", sum := "088f33a1fd3131aa14a96926b087904aaa4e32fbdb02dbe4062aebe47c20e91c", func := "loop.example/g01066/laws.FnExactIsLevelMatrix", spec := "fnExactIsLevelMatrix", apart := false }
def FnExactIsLevelMatrixSaid : Prop := fnExactIsLevelMatrixRow.holds Try.pinned (OpenSpec.ofChange fnExactIsLevelMatrixSpec)

/-- ITS FALSE NEIGHBOUR: 'it returns false'. Refute it at one input. -/
def fnExactIsLevelMatrixWrong : ChangeSpec := { name := "fnExactIsLevelMatrix", fn := fun _ => fun
  | [d1, d2] => { results := [.lit (.bool false)], args := [d1, d2] }
  | _ => none }
def FnExactIsLevelMatrixWrongFalsely : Prop := fnExactIsLevelMatrixRow.holds Try.pinned (OpenSpec.ofChange fnExactIsLevelMatrixWrong)

/-- 'laws.FnExactIsLevelForm': WHATEVER THE INPUT: true; the input reads as it did. -/
def fnExactIsLevelFormSpec : ChangeSpec := { name := "fnExactIsLevelForm", fn := fun _ => fun
  | [d1, d2] => { results := [.lit (.bool true)], args := [d1, d2] }
  | _ => none }
def fnExactIsLevelFormRow : OpenClaim := { program := "ytomjgokjfhiahaa", sum := "088f33a1fd3131aa14a96926b087904aaa4e32fbdb02dbe4062aebe47c20e91c", func := "loop.example/g01066/laws.FnExactIsLevelForm", spec := "fnExactIsLevelForm", apart := false }
def FnExactIsLevelFormSaid : Prop := fnExactIsLevelFormRow.holds Try.pinned (OpenSpec.ofChange fnExactIsLevelFormSpec)

/-- ITS FALSE NEIGHBOUR: 'it returns false'. Refute it at one input. -/
def fnExactIsLevelFormWrong : ChangeSpec := { name := "fnExactIsLevelForm", fn := fun _ => fun
  | [d1, d2] => { results := [.lit (.bool false)], args := [d1, d2] }
  | _ => none }
def FnExactIsLevelFormWrongFalsely : Prop := fnExactIsLevelFormRow.holds Try.pinned (OpenSpec.ofChange fnExactIsLevelFormWrong)

/-- 'laws.FnExactLevelRootOf': WHATEVER THE INPUT: true; the input reads as it did. -/
def fnExactLevelRootOfSpec : ChangeSpec := { name := "fnExactLevelRootOf", fn := fun _ => fun
  | [d1, d2] => { results := [.lit (.bool true)], args := [d1, d2] }
  | _ => none }
def fnExactLevelRootOfRow : OpenClaim := { program := "ytomjgokjfhiahaa", sum := "088f33a1fd3131aa14a96926b087904aaa4e32fbdb02dbe4062aebe47c20e91c", func := "loop.example/g01066/laws.FnExactLevelRootOf", spec := "fnExactLevelRootOf", apart := false }
def FnExactLevelRootOfSaid : Prop := fnExactLevelRootOfRow.holds Try.pinned (OpenSpec.ofChange fnExactLevelRootOfSpec)

/-- ITS FALSE NEIGHBOUR: 'it returns false'. Refute it at one input. -/
def fnExactLevelRootOfWrong : ChangeSpec := { name := "fnExactLevelRootOf", fn := fun _ => fun
  | [d1, d2] => { results := [.lit (.bool false)], args := [d1, d2] }
  | _ => none }
def FnExactLevelRootOfWrongFalsely : Prop := fnExactLevelRootOfRow.holds Try.pinned (OpenSpec.ofChange fnExactLevelRootOfWrong)

/-- 'laws.FnExactFrickeForm': WHATEVER THE INPUT: true; the input reads as it did. -/
def fnExactFrickeFormSpec : ChangeSpec := { name := "fnExactFrickeForm", fn := fun _ => fun
  | [d1, d2] => { results := [.lit (.bool true)], args := [d1, d2] }
  | _ => none }
def fnExactFrickeFormRow : OpenClaim := { program := "ytomjgokjfhiahaa", sum := "088f33a1fd3131aa14a96926b087904aaa4e32fbdb02dbe4062aebe47c20e91c", func := "loop.example/g01066/laws.FnExactFrickeForm", spec := "fnExactFrickeForm", apart := false }
def FnExactFrickeFormSaid : Prop := fnExactFrickeFormRow.holds Try.pinned (OpenSpec.ofChange fnExactFrickeFormSpec)

/-- ITS FALSE NEIGHBOUR: 'it returns false'. Refute it at one input. -/
def fnExactFrickeFormWrong : ChangeSpec := { name := "fnExactFrickeForm", fn := fun _ => fun
  | [d1, d2] => { results := [.lit (.bool false)], args := [d1, d2] }
  | _ => none }
def FnExactFrickeFormWrongFalsely : Prop := fnExactFrickeFormRow.holds Try.pinned (OpenSpec.ofChange fnExactFrickeFormWrong)

/-- 'laws.FnExactLevelRoots': WHATEVER THE INPUT: true; the input reads as it did. -/
def fnExactLevelRootsSpec : ChangeSpec := { name := "fnExactLevelRoots", fn := fun _ => fun
  | [d1, d2] => { results := [.lit (.bool true)], args := [d1, d2] }
  | _ => none }
def fnExactLevelRootsRow : OpenClaim := { program := "ytomjgokjfhiahaa", sum := "088f33a1fd3131aa14a96926b087904aaa4e32fbdb02dbe4062aebe47c20e91c", func := "loop.example/g01066/laws.FnExactLevelRoots", spec := "fnExactLevelRoots", apart := false }
def FnExactLevelRootsSaid : Prop := fnExactLevelRootsRow.holds Try.pinned (OpenSpec.ofChange fnExactLevelRootsSpec)

/-- ITS FALSE NEIGHBOUR: 'it returns false'. Refute it at one input. -/
def fnExactLevelRootsWrong : ChangeSpec := { name := "fnExactLevelRoots", fn := fun _ => fun
  | [d1, d2] => { results := [.lit (.bool false)], args := [d1, d2] }
  | _ => none }
def FnExactLevelRootsWrongFalsely : Prop := fnExactLevelRootsRow.holds Try.pinned (OpenSpec.ofChange fnExactLevelRootsWrong)

/-- 'laws.FnExactProjectivePoint': WHATEVER THE INPUT: true; the input reads as it did. -/
def fnExactProjectivePointSpec : ChangeSpec := { name := "fnExactProjectivePoint", fn := fun _ => fun
  | [d1, d2] => { results := [.lit (.bool true)], args := [d1, d2] }
  | _ => none }
def fnExactProjectivePointRow : OpenClaim := { program := "ytomjgokjfhiahaa", sum := "088f33a1fd3131aa14a96926b087904aaa4e32fbdb02dbe4062aebe47c20e91c", func := "loop.example/g01066/laws.FnExactProjectivePoint", spec := "fnExactProjectivePoint", apart := false }
def FnExactProjectivePointSaid : Prop := fnExactProjectivePointRow.holds Try.pinned (OpenSpec.ofChange fnExactProjectivePointSpec)

/-- ITS FALSE NEIGHBOUR: 'it returns false'. Refute it at one input. -/
def fnExactProjectivePointWrong : ChangeSpec := { name := "fnExactProjectivePoint", fn := fun _ => fun
  | [d1, d2] => { results := [.lit (.bool false)], args := [d1, d2] }
  | _ => none }
def FnExactProjectivePointWrongFalsely : Prop := fnExactProjectivePointRow.holds Try.pinned (OpenSpec.ofChange fnExactProjectivePointWrong)

/-- 'laws.FnExactProjectivePoints': WHATEVER THE INPUT: true; the input reads as it did. -/
def fnExactProjectivePointsSpec : ChangeSpec := { name := "fnExactProjectivePoints", fn := fun _ => fun
  | [d] => { results := [.lit (.bool true)], args := [d] }
  | _ => none }
def fnExactProjectivePointsRow : OpenClaim := { program := "ytomjgokjfhiahaa", sum := "088f33a1fd3131aa14a96926b087904aaa4e32fbdb02dbe4062aebe47c20e91c", func := "loop.example/g01066/laws.FnExactProjectivePoints", spec := "fnExactProjectivePoints", apart := false }
def FnExactProjectivePointsSaid : Prop := fnExactProjectivePointsRow.holds Try.pinned (OpenSpec.ofChange fnExactProjectivePointsSpec)

/-- ITS FALSE NEIGHBOUR: 'it returns false'. Refute it at one input. -/
def fnExactProjectivePointsWrong : ChangeSpec := { name := "fnExactProjectivePoints", fn := fun _ => fun
  | [d] => { results := [.lit (.bool false)], args := [d] }
  | _ => none }
def FnExactProjectivePointsWrongFalsely : Prop := fnExactProjectivePointsRow.holds Try.pinned (OpenSpec.ofChange fnExactProjectivePointsWrong)

/-- 'laws.FnExactGreatestNumber': WHATEVER THE INPUT: true; the input reads as it did. -/
def fnExactGreatestNumberSpec : ChangeSpec := { name := "fnExactGreatestNumber", fn := fun _ => fun
  | [d1, d2] => { results := [.lit (.bool true)], args := [d1, d2] }
  | _ => none }
def fnExactGreatestNumberRow : OpenClaim := { program := "ytomjgokjfhiahaa", sum := "088f33a1fd3131aa14a96926b087904aaa4e32fbdb02dbe4062aebe47c20e91c", func := "loop.example/g01066/laws.FnExactGreatestNumber", spec := "fnExactGreatestNumber", apart := false }
def FnExactGreatestNumberSaid : Prop := fnExactGreatestNumberRow.holds Try.pinned (OpenSpec.ofChange fnExactGreatestNumberSpec)

/-- ITS FALSE NEIGHBOUR: 'it returns false'. Refute it at one input. -/
def fnExactGreatestNumberWrong : ChangeSpec := { name := "fnExactGreatestNumber", fn := fun _ => fun
  | [d1, d2] => { results := [.lit (.bool false)], args := [d1, d2] }
  | _ => none }
def FnExactGreatestNumberWrongFalsely : Prop := fnExactGreatestNumberRow.holds Try.pinned (OpenSpec.ofChange fnExactGreatestNumberWrong)

/-- 'laws.FnExactDiscriminantsWithNumber': WHATEVER THE INPUT: true; the input reads as it did. -/
def fnExactDiscriminantsWithNumberSpec : ChangeSpec := { name := "fnExactDiscriminantsWithNumber", fn := fun _ => fun
  | [d] => { results := [.lit (.bool true)], args := [d] }
  | _ => none }
def fnExactDiscriminantsWithNumberRow : OpenClaim := { program := "ytomjgokjfhiahaa", sum := "088f33a1fd3131aa14a96926b087904aaa4e32fbdb02dbe4062aebe47c20e91c", func := "loop.example/g01066/laws.FnExactDiscriminantsWithNumber", spec := "fnExactDiscriminantsWithNumber", unfollowed := true, recurses := true, apart := false }
def FnExactDiscriminantsWithNumberSaid : Prop := fnExactDiscriminantsWithNumberRow.holds Try.pinned (OpenSpec.ofChange fnExactDiscriminantsWithNumberSpec)

/-- ITS FALSE NEIGHBOUR: 'it returns false'. Refute it at one input. -/
def fnExactDiscriminantsWithNumberWrong : ChangeSpec := { name := "fnExactDiscriminantsWithNumber", fn := fun _ => fun
  | [d] => { results := [.lit (.bool false)], args := [d] }
  | _ => none }
def FnExactDiscriminantsWithNumberWrongFalsely : Prop := fnExactDiscriminantsWithNumberRow.holds Try.pinned (OpenSpec.ofChange fnExactDiscriminantsWithNumberWrong)

/-- 'laws.FnExactCountByNumber': WHATEVER THE INPUT: true; the input reads as it did. -/
def fnExactCountByNumberSpec : ChangeSpec := { name := "fnExactCountByNumber", fn := fun _ => fun
  | [d1, d2] => { results := [.lit (.bool true)], args := [d1, d2] }
  | _ => none }
def fnExactCountByNumberRow : OpenClaim := { program := "ytomjgokjfhiahaa", sum := "088f33a1fd3131aa14a96926b087904aaa4e32fbdb02dbe4062aebe47c20e91c", func := "loop.example/g01066/laws.FnExactCountByNumber", spec := "fnExactCountByNumber", apart := false }
def FnExactCountByNumberSaid : Prop := fnExactCountByNumberRow.holds Try.pinned (OpenSpec.ofChange fnExactCountByNumberSpec)

/-- ITS FALSE NEIGHBOUR: 'it returns false'. Refute it at one input. -/
def fnExactCountByNumberWrong : ChangeSpec := { name := "fnExactCountByNumber", fn := fun _ => fun
  | [d1, d2] => { results := [.lit (.bool false)], args := [d1, d2] }
  | _ => none }
def FnExactCountByNumberWrongFalsely : Prop := fnExactCountByNumberRow.holds Try.pinned (OpenSpec.ofChange fnExactCountByNumberWrong)

/-- 'laws.FnFourSquares': WHATEVER THE INPUT: true; the input reads as it did. -/
def fnFourSquaresSpec : ChangeSpec := { name := "fnFourSquares", fn := fun _ => fun
  | [d1, d2] => { results := [.lit (.bool true)], args := [d1, d2] }
  | _ => none }
def fnFourSquaresRow : OpenClaim := { program := "ytomjgokjfhiahaa", sum := "088f33a1fd3131aa14a96926b087904aaa4e32fbdb02dbe4062aebe47c20e91c", func := "loop.example/g01066/laws.FnFourSquares", spec := "fnFourSquares", apart := false }
def FnFourSquaresSaid : Prop := fnFourSquaresRow.holds Try.pinned (OpenSpec.ofChange fnFourSquaresSpec)

/-- ITS FALSE NEIGHBOUR: 'it returns false'. Refute it at one input. -/
def fnFourSquaresWrong : ChangeSpec := { name := "fnFourSquares", fn := fun _ => fun
  | [d1, d2] => { results := [.lit (.bool false)], args := [d1, d2] }
  | _ => none }
def FnFourSquaresWrongFalsely : Prop := fnFourSquaresRow.holds Try.pinned (OpenSpec.ofChange fnFourSquaresWrong)

/-- 'laws.FnThreeSquares': WHATEVER THE INPUT: true; the input reads as it did. -/
def fnThreeSquaresSpec : ChangeSpec := { name := "fnThreeSquares", fn := fun _ => fun
  | [d1, d2] => { results := [.lit (.bool true)], args := [d1, d2] }
  | _ => none }
def fnThreeSquaresRow : OpenClaim := { program := "ytomjgokjfhiahaa", sum := "088f33a1fd3131aa14a96926b087904aaa4e32fbdb02dbe4062aebe47c20e91c", func := "loop.example/g01066/laws.FnThreeSquares", spec := "fnThreeSquares", apart := false }
def FnThreeSquaresSaid : Prop := fnThreeSquaresRow.holds Try.pinned (OpenSpec.ofChange fnThreeSquaresSpec)

/-- ITS FALSE NEIGHBOUR: 'it returns false'. Refute it at one input. -/
def fnThreeSquaresWrong : ChangeSpec := { name := "fnThreeSquares", fn := fun _ => fun
  | [d1, d2] => { results := [.lit (.bool false)], args := [d1, d2] }
  | _ => none }
def FnThreeSquaresWrongFalsely : Prop := fnThreeSquaresRow.holds Try.pinned (OpenSpec.ofChange fnThreeSquaresWrong)

/- THE SECOND FORM. 'bulk': how many values and letters a reading holds, each counted each time it is reached (what is shared counts as often as it is met; a slice's spare places count too). A statement '..UptoSaid' is the law's where the arguments, and the package variables that the reading takes, are together of bulk at most 1048576: NARROWER than '..Said'. Prove '..Said' where nothing that the law and all that it calls make is longer than what came in: it says more and counts as full. Else prove '..UptoSaid'. A law counts once. -/
mutual
def uptoBulk {H : Type} : DataW H → Nat
  | .lit (.string bytes) => bytes.length + 1
  | .lit _ => 1
  | .nil => 1
  | .ptr d => uptoBulk d + 1
  | .slice elems spare => uptoBulkAll elems + uptoBulkAll spare + 1
  | .agg parts => uptoBulkAll parts + 1
  | .iface _ d => uptoBulk d + 1
  | .map entries => uptoBulkEntries entries + 1
  | .held _ => 1
def uptoBulkAll {H : Type} : List (DataW H) → Nat
  | [] => 0
  | d :: r => uptoBulk d + uptoBulkAll r
def uptoBulkEntries {H : Type} : List (Lit × DataW H) → Nat
  | [] => 0
  | x :: r => uptoBulkEntry x + uptoBulkEntries r
def uptoBulkEntry {H : Type} : Lit × DataW H → Nat
  | (.string bytes, d) => bytes.length + uptoBulk d + 1
  | (_, d) => uptoBulk d + 1
 end
def uptoSmall : (H : Type) → List (DataW H) → Bool := fun _ ds => decide (uptoBulkAll ds ≤ 1048576)
def OpenSpec.upto (s : _root_.Go.ChangeSpec) : _root_.Go.OpenSpec := { _root_.Go.OpenSpec.ofChange s with cond := some uptoSmall }

/-- 'laws.FnExactIsLevelMatrix', WHERE WHAT IT READS IS OF BULK AT MOST 1048576: true; the input reads as it did. -/
def fnExactIsLevelMatrixUptoRow : OpenClaim := { program := "ytomjgokjfhiahaa", sum := "088f33a1fd3131aa14a96926b087904aaa4e32fbdb02dbe4062aebe47c20e91c", func := "loop.example/g01066/laws.FnExactIsLevelMatrix", spec := "fnExactIsLevelMatrix", apart := false, narrowed := true }
def FnExactIsLevelMatrixUptoSaid : Prop := fnExactIsLevelMatrixUptoRow.holds Try.pinned (OpenSpec.upto fnExactIsLevelMatrixSpec)

/-- 'laws.FnExactIsLevelForm', WHERE WHAT IT READS IS OF BULK AT MOST 1048576: true; the input reads as it did. -/
def fnExactIsLevelFormUptoRow : OpenClaim := { program := "ytomjgokjfhiahaa", sum := "088f33a1fd3131aa14a96926b087904aaa4e32fbdb02dbe4062aebe47c20e91c", func := "loop.example/g01066/laws.FnExactIsLevelForm", spec := "fnExactIsLevelForm", apart := false, narrowed := true }
def FnExactIsLevelFormUptoSaid : Prop := fnExactIsLevelFormUptoRow.holds Try.pinned (OpenSpec.upto fnExactIsLevelFormSpec)

/-- 'laws.FnExactLevelRootOf', WHERE WHAT IT READS IS OF BULK AT MOST 1048576: true; the input reads as it did. -/
def fnExactLevelRootOfUptoRow : OpenClaim := { program := "ytomjgokjfhiahaa", sum := "088f33a1fd3131aa14a96926b087904aaa4e32fbdb02dbe4062aebe47c20e91c", func := "loop.example/g01066/laws.FnExactLevelRootOf", spec := "fnExactLevelRootOf", apart := false, narrowed := true }
def FnExactLevelRootOfUptoSaid : Prop := fnExactLevelRootOfUptoRow.holds Try.pinned (OpenSpec.upto fnExactLevelRootOfSpec)

/-- 'laws.FnExactFrickeForm', WHERE WHAT IT READS IS OF BULK AT MOST 1048576: true; the input reads as it did. -/
def fnExactFrickeFormUptoRow : OpenClaim := { program := "ytomjgokjfhiahaa", sum := "088f33a1fd3131aa14a96926b087904aaa4e32fbdb02dbe4062aebe47c20e91c", func := "loop.example/g01066/laws.FnExactFrickeForm", spec := "fnExactFrickeForm", apart := false, narrowed := true }
def FnExactFrickeFormUptoSaid : Prop := fnExactFrickeFormUptoRow.holds Try.pinned (OpenSpec.upto fnExactFrickeFormSpec)

/-- 'laws.FnExactLevelRoots', WHERE WHAT IT READS IS OF BULK AT MOST 1048576: true; the input reads as it did. -/
def fnExactLevelRootsUptoRow : OpenClaim := { program := "ytomjgokjfhiahaa", sum := "088f33a1fd3131aa14a96926b087904aaa4e32fbdb02dbe4062aebe47c20e91c", func := "loop.example/g01066/laws.FnExactLevelRoots", spec := "fnExactLevelRoots", apart := false, narrowed := true }
def FnExactLevelRootsUptoSaid : Prop := fnExactLevelRootsUptoRow.holds Try.pinned (OpenSpec.upto fnExactLevelRootsSpec)

/-- 'laws.FnExactProjectivePoint', WHERE WHAT IT READS IS OF BULK AT MOST 1048576: true; the input reads as it did. -/
def fnExactProjectivePointUptoRow : OpenClaim := { program := "ytomjgokjfhiahaa", sum := "088f33a1fd3131aa14a96926b087904aaa4e32fbdb02dbe4062aebe47c20e91c", func := "loop.example/g01066/laws.FnExactProjectivePoint", spec := "fnExactProjectivePoint", apart := false, narrowed := true }
def FnExactProjectivePointUptoSaid : Prop := fnExactProjectivePointUptoRow.holds Try.pinned (OpenSpec.upto fnExactProjectivePointSpec)

/-- 'laws.FnExactProjectivePoints', WHERE WHAT IT READS IS OF BULK AT MOST 1048576: true; the input reads as it did. -/
def fnExactProjectivePointsUptoRow : OpenClaim := { program := "ytomjgokjfhiahaa", sum := "088f33a1fd3131aa14a96926b087904aaa4e32fbdb02dbe4062aebe47c20e91c", func := "loop.example/g01066/laws.FnExactProjectivePoints", spec := "fnExactProjectivePoints", apart := false, narrowed := true }
def FnExactProjectivePointsUptoSaid : Prop := fnExactProjectivePointsUptoRow.holds Try.pinned (OpenSpec.upto fnExactProjectivePointsSpec)

/-- 'laws.FnExactGreatestNumber', WHERE WHAT IT READS IS OF BULK AT MOST 1048576: true; the input reads as it did. -/
def fnExactGreatestNumberUptoRow : OpenClaim := { program := "ytomjgokjfhiahaa", sum := "088f33a1fd3131aa14a96926b087904aaa4e32fbdb02dbe4062aebe47c20e91c", func := "loop.example/g01066/laws.FnExactGreatestNumber", spec := "fnExactGreatestNumber", apart := false, narrowed := true }
def FnExactGreatestNumberUptoSaid : Prop := fnExactGreatestNumberUptoRow.holds Try.pinned (OpenSpec.upto fnExactGreatestNumberSpec)

/-- 'laws.FnExactDiscriminantsWithNumber', WHERE WHAT IT READS IS OF BULK AT MOST 1048576: true; the input reads as it did. -/
def fnExactDiscriminantsWithNumberUptoRow : OpenClaim := { program := "ytomjgokjfhiahaa", sum := "088f33a1fd3131aa14a96926b087904aaa4e32fbdb02dbe4062aebe47c20e91c", func := "loop.example/g01066/laws.FnExactDiscriminantsWithNumber", spec := "fnExactDiscriminantsWithNumber", unfollowed := true, recurses := true, apart := false, narrowed := true }
def FnExactDiscriminantsWithNumberUptoSaid : Prop := fnExactDiscriminantsWithNumberUptoRow.holds Try.pinned (OpenSpec.upto fnExactDiscriminantsWithNumberSpec)

/-- 'laws.FnExactCountByNumber', WHERE WHAT IT READS IS OF BULK AT MOST 1048576: true; the input reads as it did. -/
def fnExactCountByNumberUptoRow : OpenClaim := { program := "ytomjgokjfhiahaa", sum := "088f33a1fd3131aa14a96926b087904aaa4e32fbdb02dbe4062aebe47c20e91c", func := "loop.example/g01066/laws.FnExactCountByNumber", spec := "fnExactCountByNumber", apart := false, narrowed := true }
def FnExactCountByNumberUptoSaid : Prop := fnExactCountByNumberUptoRow.holds Try.pinned (OpenSpec.upto fnExactCountByNumberSpec)

/-- 'laws.FnFourSquares', WHERE WHAT IT READS IS OF BULK AT MOST 1048576: true; the input reads as it did. -/
def fnFourSquaresUptoRow : OpenClaim := { program := "ytomjgokjfhiahaa", sum := "088f33a1fd3131aa14a96926b087904aaa4e32fbdb02dbe4062aebe47c20e91c", func := "loop.example/g01066/laws.FnFourSquares", spec := "fnFourSquares", apart := false, narrowed := true }
def FnFourSquaresUptoSaid : Prop := fnFourSquaresUptoRow.holds Try.pinned (OpenSpec.upto fnFourSquaresSpec)

/-- 'laws.FnThreeSquares', WHERE WHAT IT READS IS OF BULK AT MOST 1048576: true; the input reads as it did. -/
def fnThreeSquaresUptoRow : OpenClaim := { program := "ytomjgokjfhiahaa", sum := "088f33a1fd3131aa14a96926b087904aaa4e32fbdb02dbe4062aebe47c20e91c", func := "loop.example/g01066/laws.FnThreeSquares", spec := "fnThreeSquares", apart := false, narrowed := true }
def FnThreeSquaresUptoSaid : Prop := fnThreeSquaresUptoRow.holds Try.pinned (OpenSpec.upto fnThreeSquaresSpec)

end Rows
end Go.Proofs.Ytomjgokjfhiahaa
