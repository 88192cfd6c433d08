/-
  No cell of these rows narrows 'for every input' (looked for: loops, veiled, ifaces, maps, wideKeys, modest, calm, conditions, laid).
  DERIVED. THE GIVEN ROWS OF THIS SEAT. 13 by the template 'for every input the law returns true; each argument reads behind the call as it read before'; 0 by the template 'total and deterministic' (their statements: YtninagdclibmnaaTotals.lean).
  GIVEN WITH THE SEED: the statements are not yours to turn. If you find one false, say at which input.
  Laid BY PROGRAM, IN A SANDBOX (cutbox-rows.mjs): the forced cells as the released guide's own fill.sh prints them over the translation 5de2e4e804a33364… (all of the seat's roots in one cut). By AI agents, Wed Nov 11 2026. No macro, syntax, notation, axiom, sorry.
-/
import Derived.Test.YtninagdclibmnaaChecked
import GoSem.Claim
import GoSem.ClaimJoined
import GoSem.ClaimMapViews
import Derived.JoinedTies
import Derived.KernelRfl
namespace Go.Proofs.Ytninagdclibmnaa
/- THE CELL 'sum', in the pinned program and in every row, IS THE sha256 OF THE DUMP (.gsa) THAT YtninagdclibmnaaProg.lean LOADS. Nothing in Lean hashes anything: it is a label: what it is worth is what the hold of that sum in a sandbox is worth. -/
noncomputable def Try.pinned : Pinned := { name := "ytninagdclibmnaa", sum := "5de2e4e804a333641a25f48a04be3918432a98f8d4b9c885fa2d322c41cbe931", checked := Try.checked }
namespace Rows
def none {H : Type} : Left H := { results := [], args := [] }

/-- 'laws.FnExactDelayChallenge': WHATEVER THE INPUT: true; the input reads as it did. -/
def fnExactDelayChallengeSpec : ChangeSpec := { name := "fnExactDelayChallenge", fn := fun _ => fun
  | [d1, d2, d3] => { results := [.lit (.bool true)], args := [d1, d2, d3] }
  | _ => none }
def fnExactDelayChallengeRow : OpenClaim := { program := "ytninagdclibmnaa", sum := "5de2e4e804a333641a25f48a04be3918432a98f8d4b9c885fa2d322c41cbe931", func := "loop.example/g01066/laws.FnExactDelayChallenge", spec := "fnExactDelayChallenge", apart := false }
def FnExactDelayChallengeSaid : Prop := fnExactDelayChallengeRow.holds Try.pinned (OpenSpec.ofChange fnExactDelayChallengeSpec)

/-- ITS FALSE NEIGHBOUR: 'it returns false'. Refute it at one input. -/
def fnExactDelayChallengeWrong : ChangeSpec := { name := "fnExactDelayChallenge", fn := fun _ => fun
  | [d1, d2, d3] => { results := [.lit (.bool false)], args := [d1, d2, d3] }
  | _ => none }
def FnExactDelayChallengeWrongFalsely : Prop := fnExactDelayChallengeRow.holds Try.pinned (OpenSpec.ofChange fnExactDelayChallengeWrong)

/-- 'laws.FnExactHalvingChallenge': WHATEVER THE INPUT: true; the input reads as it did. -/
def fnExactHalvingChallengeSpec : ChangeSpec := { name := "fnExactHalvingChallenge", fn := fun _ => fun
  | [d1, d2, d3, d4] => { results := [.lit (.bool true)], args := [d1, d2, d3, d4] }
  | _ => none }
def fnExactHalvingChallengeRow : OpenClaim := { program := "ytninagdclibmnaa", sum := "5de2e4e804a333641a25f48a04be3918432a98f8d4b9c885fa2d322c41cbe931", func := "loop.example/g01066/laws.FnExactHalvingChallenge", spec := "fnExactHalvingChallenge", apart := false }
def FnExactHalvingChallengeSaid : Prop := fnExactHalvingChallengeRow.holds Try.pinned (OpenSpec.ofChange fnExactHalvingChallengeSpec)

/-- ITS FALSE NEIGHBOUR: 'it returns false'. Refute it at one input. -/
def fnExactHalvingChallengeWrong : ChangeSpec := { name := "fnExactHalvingChallenge", fn := fun _ => fun
  | [d1, d2, d3, d4] => { results := [.lit (.bool false)], args := [d1, d2, d3, d4] }
  | _ => none }
def FnExactHalvingChallengeWrongFalsely : Prop := fnExactHalvingChallengeRow.holds Try.pinned (OpenSpec.ofChange fnExactHalvingChallengeWrong)

/-- 'laws.FnExactSquareRepeatedly': WHATEVER THE INPUT: true; the input reads as it did. -/
def fnExactSquareRepeatedlySpec : ChangeSpec := { name := "fnExactSquareRepeatedly", fn := fun _ => fun
  | [d1, d2] => { results := [.lit (.bool true)], args := [d1, d2] }
  | _ => none }
def fnExactSquareRepeatedlyRow : OpenClaim := { program := "ytninagdclibmnaa", sum := "5de2e4e804a333641a25f48a04be3918432a98f8d4b9c885fa2d322c41cbe931", func := "loop.example/g01066/laws.FnExactSquareRepeatedly", spec := "fnExactSquareRepeatedly", apart := false }
def FnExactSquareRepeatedlySaid : Prop := fnExactSquareRepeatedlyRow.holds Try.pinned (OpenSpec.ofChange fnExactSquareRepeatedlySpec)

/-- ITS FALSE NEIGHBOUR: 'it returns false'. Refute it at one input. -/
def fnExactSquareRepeatedlyWrong : ChangeSpec := { name := "fnExactSquareRepeatedly", fn := fun _ => fun
  | [d1, d2] => { results := [.lit (.bool false)], args := [d1, d2] }
  | _ => none }
def FnExactSquareRepeatedlyWrongFalsely : Prop := fnExactSquareRepeatedlyRow.holds Try.pinned (OpenSpec.ofChange fnExactSquareRepeatedlyWrong)

/-- 'laws.FnExactSquareTrail': WHATEVER THE INPUT: true; the input reads as it did. -/
def fnExactSquareTrailSpec : ChangeSpec := { name := "fnExactSquareTrail", fn := fun _ => fun
  | [d1, d2] => { results := [.lit (.bool true)], args := [d1, d2] }
  | _ => none }
def fnExactSquareTrailRow : OpenClaim := { program := "ytninagdclibmnaa", sum := "5de2e4e804a333641a25f48a04be3918432a98f8d4b9c885fa2d322c41cbe931", func := "loop.example/g01066/laws.FnExactSquareTrail", spec := "fnExactSquareTrail", apart := false }
def FnExactSquareTrailSaid : Prop := fnExactSquareTrailRow.holds Try.pinned (OpenSpec.ofChange fnExactSquareTrailSpec)

/-- ITS FALSE NEIGHBOUR: 'it returns false'. Refute it at one input. -/
def fnExactSquareTrailWrong : ChangeSpec := { name := "fnExactSquareTrail", fn := fun _ => fun
  | [d1, d2] => { results := [.lit (.bool false)], args := [d1, d2] }
  | _ => none }
def FnExactSquareTrailWrongFalsely : Prop := fnExactSquareTrailRow.holds Try.pinned (OpenSpec.ofChange fnExactSquareTrailWrong)

/-- 'laws.FnExactDelayProof': WHATEVER THE INPUT: true; the input reads as it did. -/
def fnExactDelayProofSpec : ChangeSpec := { name := "fnExactDelayProof", fn := fun _ => fun
  | [d1, d2] => { results := [.lit (.bool true)], args := [d1, d2] }
  | _ => none }
def fnExactDelayProofRow : OpenClaim := { program := "ytninagdclibmnaa", sum := "5de2e4e804a333641a25f48a04be3918432a98f8d4b9c885fa2d322c41cbe931", func := "loop.example/g01066/laws.FnExactDelayProof", spec := "fnExactDelayProof", apart := false }
def FnExactDelayProofSaid : Prop := fnExactDelayProofRow.holds Try.pinned (OpenSpec.ofChange fnExactDelayProofSpec)

/-- ITS FALSE NEIGHBOUR: 'it returns false'. Refute it at one input. -/
def fnExactDelayProofWrong : ChangeSpec := { name := "fnExactDelayProof", fn := fun _ => fun
  | [d1, d2] => { results := [.lit (.bool false)], args := [d1, d2] }
  | _ => none }
def FnExactDelayProofWrongFalsely : Prop := fnExactDelayProofRow.holds Try.pinned (OpenSpec.ofChange fnExactDelayProofWrong)

/-- 'laws.FnExactVerifyDelay': WHATEVER THE INPUT: true; the input reads as it did. -/
def fnExactVerifyDelaySpec : ChangeSpec := { name := "fnExactVerifyDelay", fn := fun _ => fun
  | [d1, d2, d3, d4] => { results := [.lit (.bool true)], args := [d1, d2, d3, d4] }
  | _ => none }
def fnExactVerifyDelayRow : OpenClaim := { program := "ytninagdclibmnaa", sum := "5de2e4e804a333641a25f48a04be3918432a98f8d4b9c885fa2d322c41cbe931", func := "loop.example/g01066/laws.FnExactVerifyDelay", spec := "fnExactVerifyDelay", apart := false }
def FnExactVerifyDelaySaid : Prop := fnExactVerifyDelayRow.holds Try.pinned (OpenSpec.ofChange fnExactVerifyDelaySpec)

/-- ITS FALSE NEIGHBOUR: 'it returns false'. Refute it at one input. -/
def fnExactVerifyDelayWrong : ChangeSpec := { name := "fnExactVerifyDelay", fn := fun _ => fun
  | [d1, d2, d3, d4] => { results := [.lit (.bool false)], args := [d1, d2, d3, d4] }
  | _ => none }
def FnExactVerifyDelayWrongFalsely : Prop := fnExactVerifyDelayRow.holds Try.pinned (OpenSpec.ofChange fnExactVerifyDelayWrong)

/-- 'laws.FnExactHalvingProof': WHATEVER THE INPUT: true; the input reads as it did. -/
def fnExactHalvingProofSpec : ChangeSpec := { name := "fnExactHalvingProof", fn := fun _ => fun
  | [d1, d2] => { results := [.lit (.bool true)], args := [d1, d2] }
  | _ => none }
def fnExactHalvingProofRow : OpenClaim := { program := "ytninagdclibmnaa", sum := "5de2e4e804a333641a25f48a04be3918432a98f8d4b9c885fa2d322c41cbe931", func := "loop.example/g01066/laws.FnExactHalvingProof", spec := "fnExactHalvingProof", apart := false }
def FnExactHalvingProofSaid : Prop := fnExactHalvingProofRow.holds Try.pinned (OpenSpec.ofChange fnExactHalvingProofSpec)

/-- ITS FALSE NEIGHBOUR: 'it returns false'. Refute it at one input. -/
def fnExactHalvingProofWrong : ChangeSpec := { name := "fnExactHalvingProof", fn := fun _ => fun
  | [d1, d2] => { results := [.lit (.bool false)], args := [d1, d2] }
  | _ => none }
def FnExactHalvingProofWrongFalsely : Prop := fnExactHalvingProofRow.holds Try.pinned (OpenSpec.ofChange fnExactHalvingProofWrong)

/-- 'laws.FnExactVerifyHalving': WHATEVER THE INPUT: true; the input reads as it did. -/
def fnExactVerifyHalvingSpec : ChangeSpec := { name := "fnExactVerifyHalving", fn := fun _ => fun
  | [d1, d2, d3, d4] => { results := [.lit (.bool true)], args := [d1, d2, d3, d4] }
  | _ => none }
def fnExactVerifyHalvingRow : OpenClaim := { program := "ytninagdclibmnaa", sum := "5de2e4e804a333641a25f48a04be3918432a98f8d4b9c885fa2d322c41cbe931", func := "loop.example/g01066/laws.FnExactVerifyHalving", spec := "fnExactVerifyHalving", apart := false }
def FnExactVerifyHalvingSaid : Prop := fnExactVerifyHalvingRow.holds Try.pinned (OpenSpec.ofChange fnExactVerifyHalvingSpec)

/-- ITS FALSE NEIGHBOUR: 'it returns false'. Refute it at one input. -/
def fnExactVerifyHalvingWrong : ChangeSpec := { name := "fnExactVerifyHalving", fn := fun _ => fun
  | [d1, d2, d3, d4] => { results := [.lit (.bool false)], args := [d1, d2, d3, d4] }
  | _ => none }
def FnExactVerifyHalvingWrongFalsely : Prop := fnExactVerifyHalvingRow.holds Try.pinned (OpenSpec.ofChange fnExactVerifyHalvingWrong)

/-- 'laws.FnExactSmallOrderForgery': WHATEVER THE INPUT: true; the input reads as it did. -/
def fnExactSmallOrderForgerySpec : ChangeSpec := { name := "fnExactSmallOrderForgery", fn := fun _ => fun
  | [d1, d2, d3] => { results := [.lit (.bool true)], args := [d1, d2, d3] }
  | _ => none }
def fnExactSmallOrderForgeryRow : OpenClaim := { program := "ytninagdclibmnaa", sum := "5de2e4e804a333641a25f48a04be3918432a98f8d4b9c885fa2d322c41cbe931", func := "loop.example/g01066/laws.FnExactSmallOrderForgery", spec := "fnExactSmallOrderForgery", apart := false }
def FnExactSmallOrderForgerySaid : Prop := fnExactSmallOrderForgeryRow.holds Try.pinned (OpenSpec.ofChange fnExactSmallOrderForgerySpec)

/-- ITS FALSE NEIGHBOUR: 'it returns false'. Refute it at one input. -/
def fnExactSmallOrderForgeryWrong : ChangeSpec := { name := "fnExactSmallOrderForgery", fn := fun _ => fun
  | [d1, d2, d3] => { results := [.lit (.bool false)], args := [d1, d2, d3] }
  | _ => none }
def FnExactSmallOrderForgeryWrongFalsely : Prop := fnExactSmallOrderForgeryRow.holds Try.pinned (OpenSpec.ofChange fnExactSmallOrderForgeryWrong)

/-- 'laws.FnExactLevelForm': WHATEVER THE INPUT: true; the input reads as it did. -/
def fnExactLevelFormSpec : ChangeSpec := { name := "fnExactLevelForm", fn := fun _ => fun
  | [d1, d2, d3] => { results := [.lit (.bool true)], args := [d1, d2, d3] }
  | _ => none }
def fnExactLevelFormRow : OpenClaim := { program := "ytninagdclibmnaa", sum := "5de2e4e804a333641a25f48a04be3918432a98f8d4b9c885fa2d322c41cbe931", func := "loop.example/g01066/laws.FnExactLevelForm", spec := "fnExactLevelForm", apart := false }
def FnExactLevelFormSaid : Prop := fnExactLevelFormRow.holds Try.pinned (OpenSpec.ofChange fnExactLevelFormSpec)

/-- ITS FALSE NEIGHBOUR: 'it returns false'. Refute it at one input. -/
def fnExactLevelFormWrong : ChangeSpec := { name := "fnExactLevelForm", fn := fun _ => fun
  | [d1, d2, d3] => { results := [.lit (.bool false)], args := [d1, d2, d3] }
  | _ => none }
def FnExactLevelFormWrongFalsely : Prop := fnExactLevelFormRow.holds Try.pinned (OpenSpec.ofChange fnExactLevelFormWrong)

/-- 'laws.FnExactLevelClasses': WHATEVER THE INPUT: true; the input reads as it did. -/
def fnExactLevelClassesSpec : ChangeSpec := { name := "fnExactLevelClasses", fn := fun _ => fun
  | [d1, d2] => { results := [.lit (.bool true)], args := [d1, d2] }
  | _ => none }
def fnExactLevelClassesRow : OpenClaim := { program := "ytninagdclibmnaa", sum := "5de2e4e804a333641a25f48a04be3918432a98f8d4b9c885fa2d322c41cbe931", func := "loop.example/g01066/laws.FnExactLevelClasses", spec := "fnExactLevelClasses", apart := false }
def FnExactLevelClassesSaid : Prop := fnExactLevelClassesRow.holds Try.pinned (OpenSpec.ofChange fnExactLevelClassesSpec)

/-- ITS FALSE NEIGHBOUR: 'it returns false'. Refute it at one input. -/
def fnExactLevelClassesWrong : ChangeSpec := { name := "fnExactLevelClasses", fn := fun _ => fun
  | [d1, d2] => { results := [.lit (.bool false)], args := [d1, d2] }
  | _ => none }
def FnExactLevelClassesWrongFalsely : Prop := fnExactLevelClassesRow.holds Try.pinned (OpenSpec.ofChange fnExactLevelClassesWrong)

/-- 'laws.FnExactAreLevelEquivalent': WHATEVER THE INPUT: true; the input reads as it did. -/
def fnExactAreLevelEquivalentSpec : ChangeSpec := { name := "fnExactAreLevelEquivalent", fn := fun _ => fun
  | [d1, d2, d3] => { results := [.lit (.bool true)], args := [d1, d2, d3] }
  | _ => none }
def fnExactAreLevelEquivalentRow : OpenClaim := { program := "ytninagdclibmnaa", sum := "5de2e4e804a333641a25f48a04be3918432a98f8d4b9c885fa2d322c41cbe931", func := "loop.example/g01066/laws.FnExactAreLevelEquivalent", spec := "fnExactAreLevelEquivalent", apart := false }
def FnExactAreLevelEquivalentSaid : Prop := fnExactAreLevelEquivalentRow.holds Try.pinned (OpenSpec.ofChange fnExactAreLevelEquivalentSpec)

/-- ITS FALSE NEIGHBOUR: 'it returns false'. Refute it at one input. -/
def fnExactAreLevelEquivalentWrong : ChangeSpec := { name := "fnExactAreLevelEquivalent", fn := fun _ => fun
  | [d1, d2, d3] => { results := [.lit (.bool false)], args := [d1, d2, d3] }
  | _ => none }
def FnExactAreLevelEquivalentWrongFalsely : Prop := fnExactAreLevelEquivalentRow.holds Try.pinned (OpenSpec.ofChange fnExactAreLevelEquivalentWrong)

/-- 'laws.FnExactLevelMatrix': WHATEVER THE INPUT: true; the input reads as it did. -/
def fnExactLevelMatrixSpec : ChangeSpec := { name := "fnExactLevelMatrix", fn := fun _ => fun
  | [d1, d2, d3] => { results := [.lit (.bool true)], args := [d1, d2, d3] }
  | _ => none }
def fnExactLevelMatrixRow : OpenClaim := { program := "ytninagdclibmnaa", sum := "5de2e4e804a333641a25f48a04be3918432a98f8d4b9c885fa2d322c41cbe931", func := "loop.example/g01066/laws.FnExactLevelMatrix", spec := "fnExactLevelMatrix", apart := false }
def FnExactLevelMatrixSaid : Prop := fnExactLevelMatrixRow.holds Try.pinned (OpenSpec.ofChange fnExactLevelMatrixSpec)

/-- ITS FALSE NEIGHBOUR: 'it returns false'. Refute it at one input. -/
def fnExactLevelMatrixWrong : ChangeSpec := { name := "fnExactLevelMatrix", fn := fun _ => fun
  | [d1, d2, d3] => { results := [.lit (.bool false)], args := [d1, d2, d3] }
  | _ => none }
def FnExactLevelMatrixWrongFalsely : Prop := fnExactLevelMatrixRow.holds Try.pinned (OpenSpec.ofChange fnExactLevelMatrixWrong)

/- THE SECOND FORM. 'bulk': how many values and letters a reading holds, each counted each time it is reached (what is shared counts as often as it is met; a slice's spare places count too). A statement '..UptoSaid' is the law's where the arguments, and the package variables that the reading takes, are together of bulk at most 1048576: NARROWER than '..Said'. Prove '..Said' where nothing that the law and all that it calls make is longer than what came in: it says more and counts as full. Else prove '..UptoSaid'. A law counts once. -/
mutual
def uptoBulk {H : Type} : DataW H → Nat
  | .lit (.string bytes) => bytes.length + 1
  | .lit _ => 1
  | .nil => 1
  | .ptr d => uptoBulk d + 1
  | .slice elems spare => uptoBulkAll elems + uptoBulkAll spare + 1
  | .agg parts => uptoBulkAll parts + 1
  | .iface _ d => uptoBulk d + 1
  | .map entries => uptoBulkEntries entries + 1
  | .held _ => 1
def uptoBulkAll {H : Type} : List (DataW H) → Nat
  | [] => 0
  | d :: r => uptoBulk d + uptoBulkAll r
def uptoBulkEntries {H : Type} : List (Lit × DataW H) → Nat
  | [] => 0
  | x :: r => uptoBulkEntry x + uptoBulkEntries r
def uptoBulkEntry {H : Type} : Lit × DataW H → Nat
  | (.string bytes, d) => bytes.length + uptoBulk d + 1
  | (_, d) => uptoBulk d + 1
 end
def uptoSmall : (H : Type) → List (DataW H) → Bool := fun _ ds => decide (uptoBulkAll ds ≤ 1048576)
def OpenSpec.upto (s : _root_.Go.ChangeSpec) : _root_.Go.OpenSpec := { _root_.Go.OpenSpec.ofChange s with cond := some uptoSmall }

/-- 'laws.FnExactDelayChallenge', WHERE WHAT IT READS IS OF BULK AT MOST 1048576: true; the input reads as it did. -/
def fnExactDelayChallengeUptoRow : OpenClaim := { program := "ytninagdclibmnaa", sum := "5de2e4e804a333641a25f48a04be3918432a98f8d4b9c885fa2d322c41cbe931", func := "loop.example/g01066/laws.FnExactDelayChallenge", spec := "fnExactDelayChallenge", apart := false, narrowed := true }
def FnExactDelayChallengeUptoSaid : Prop := fnExactDelayChallengeUptoRow.holds Try.pinned (OpenSpec.upto fnExactDelayChallengeSpec)

/-- 'laws.FnExactHalvingChallenge', WHERE WHAT IT READS IS OF BULK AT MOST 1048576: true; the input reads as it did. -/
def fnExactHalvingChallengeUptoRow : OpenClaim := { program := "ytninagdclibmnaa", sum := "5de2e4e804a333641a25f48a04be3918432a98f8d4b9c885fa2d322c41cbe931", func := "loop.example/g01066/laws.FnExactHalvingChallenge", spec := "fnExactHalvingChallenge", apart := false, narrowed := true }
def FnExactHalvingChallengeUptoSaid : Prop := fnExactHalvingChallengeUptoRow.holds Try.pinned (OpenSpec.upto fnExactHalvingChallengeSpec)

/-- 'laws.FnExactSquareRepeatedly', WHERE WHAT IT READS IS OF BULK AT MOST 1048576: true; the input reads as it did. -/
def fnExactSquareRepeatedlyUptoRow : OpenClaim := { program := "ytninagdclibmnaa", sum := "5de2e4e804a333641a25f48a04be3918432a98f8d4b9c885fa2d322c41cbe931", func := "loop.example/g01066/laws.FnExactSquareRepeatedly", spec := "fnExactSquareRepeatedly", apart := false, narrowed := true }
def FnExactSquareRepeatedlyUptoSaid : Prop := fnExactSquareRepeatedlyUptoRow.holds Try.pinned (OpenSpec.upto fnExactSquareRepeatedlySpec)

/-- 'laws.FnExactSquareTrail', WHERE WHAT IT READS IS OF BULK AT MOST 1048576: true; the input reads as it did. -/
def fnExactSquareTrailUptoRow : OpenClaim := { program := "ytninagdclibmnaa", sum := "5de2e4e804a333641a25f48a04be3918432a98f8d4b9c885fa2d322c41cbe931", func := "loop.example/g01066/laws.FnExactSquareTrail", spec := "fnExactSquareTrail", apart := false, narrowed := true }
def FnExactSquareTrailUptoSaid : Prop := fnExactSquareTrailUptoRow.holds Try.pinned (OpenSpec.upto fnExactSquareTrailSpec)

/-- 'laws.FnExactDelayProof', WHERE WHAT IT READS IS OF BULK AT MOST 1048576: true; the input reads as it did. -/
def fnExactDelayProofUptoRow : OpenClaim := { program := "ytninagdclibmnaa", sum := "5de2e4e804a333641a25f48a04be3918432a98f8d4b9c885fa2d322c41cbe931", func := "loop.example/g01066/laws.FnExactDelayProof", spec := "fnExactDelayProof", apart := false, narrowed := true }
def FnExactDelayProofUptoSaid : Prop := fnExactDelayProofUptoRow.holds Try.pinned (OpenSpec.upto fnExactDelayProofSpec)

/-- 'laws.FnExactVerifyDelay', WHERE WHAT IT READS IS OF BULK AT MOST 1048576: true; the input reads as it did. -/
def fnExactVerifyDelayUptoRow : OpenClaim := { program := "ytninagdclibmnaa", sum := "5de2e4e804a333641a25f48a04be3918432a98f8d4b9c885fa2d322c41cbe931", func := "loop.example/g01066/laws.FnExactVerifyDelay", spec := "fnExactVerifyDelay", apart := false, narrowed := true }
def FnExactVerifyDelayUptoSaid : Prop := fnExactVerifyDelayUptoRow.holds Try.pinned (OpenSpec.upto fnExactVerifyDelaySpec)

/-- 'laws.FnExactHalvingProof', WHERE WHAT IT READS IS OF BULK AT MOST 1048576: true; the input reads as it did. -/
def fnExactHalvingProofUptoRow : OpenClaim := { program := "ytninagdclibmnaa", sum := "5de2e4e804a333641a25f48a04be3918432a98f8d4b9c885fa2d322c41cbe931", func := "loop.example/g01066/laws.FnExactHalvingProof", spec := "fnExactHalvingProof", apart := false, narrowed := true }
def FnExactHalvingProofUptoSaid : Prop := fnExactHalvingProofUptoRow.holds Try.pinned (OpenSpec.upto fnExactHalvingProofSpec)

/-- 'laws.FnExactVerifyHalving', WHERE WHAT IT READS IS OF BULK AT MOST 1048576: true; the input reads as it did. -/
def fnExactVerifyHalvingUptoRow : OpenClaim := { program := "ytninagdclibmnaa", sum := "5de2e4e804a333641a25f48a04be3918432a98f8d4b9c885fa2d322c41cbe931", func := "loop.example/g01066/laws.FnExactVerifyHalving", spec := "fnExactVerifyHalving", apart := false, narrowed := true }
def FnExactVerifyHalvingUptoSaid : Prop := fnExactVerifyHalvingUptoRow.holds Try.pinned (OpenSpec.upto fnExactVerifyHalvingSpec)

/-- 'laws.FnExactSmallOrderForgery', WHERE WHAT IT READS IS OF BULK AT MOST 1048576: true; the input reads as it did. -/
def fnExactSmallOrderForgeryUptoRow : OpenClaim := { program := "ytninagdclibmnaa", sum := "5de2e4e804a333641a25f48a04be3918432a98f8d4b9c885fa2d322c41cbe931", func := "loop.example/g01066/laws.FnExactSmallOrderForgery", spec := "fnExactSmallOrderForgery", apart := false, narrowed := true }
def FnExactSmallOrderForgeryUptoSaid : Prop := fnExactSmallOrderForgeryUptoRow.holds Try.pinned (OpenSpec.upto fnExactSmallOrderForgerySpec)

/-- 'laws.FnExactLevelForm', WHERE WHAT IT READS IS OF BULK AT MOST 1048576: true; the input reads as it did. -/
def fnExactLevelFormUptoRow : OpenClaim := { program := "ytninagdclibmnaa", sum := "5de2e4e804a333641a25f48a04be3918432a98f8d4b9c885fa2d322c41cbe931", func := "loop.example/g01066/laws.FnExactLevelForm", spec := "fnExactLevelForm", apart := false, narrowed := true }
def FnExactLevelFormUptoSaid : Prop := fnExactLevelFormUptoRow.holds Try.pinned (OpenSpec.upto fnExactLevelFormSpec)

/-- 'laws.FnExactLevelClasses', WHERE WHAT IT READS IS OF BULK AT MOST 1048576: true; the input reads as it did. -/
def fnExactLevelClassesUptoRow : OpenClaim := { program := "ytninagdclibmnaa", sum := "5de2e4e804a333641a25f48a04be3918432a98f8d4b9c885fa2d322c41cbe931", func := "loop.example/g01066/laws.FnExactLevelClasses", spec := "fnExactLevelClasses", apart := false, narrowed := true }
def FnExactLevelClassesUptoSaid : Prop := fnExactLevelClassesUptoRow.holds Try.pinned (OpenSpec.upto fnExactLevelClassesSpec)

/-- 'laws.FnExactAreLevelEquivalent', WHERE WHAT IT READS IS OF BULK AT MOST 1048576: true; the input reads as it did. -/
def fnExactAreLevelEquivalentUptoRow : OpenClaim := { program := "ytninagdclibmnaa", sum := "5de2e4e804a333641a25f48a04be3918432a98f8d4b9c885fa2d322c41cbe931", func := "loop.example/g01066/laws.FnExactAreLevelEquivalent", spec := "fnExactAreLevelEquivalent", apart := false, narrowed := true }
def FnExactAreLevelEquivalentUptoSaid : Prop := fnExactAreLevelEquivalentUptoRow.holds Try.pinned (OpenSpec.upto fnExactAreLevelEquivalentSpec)

/-- 'laws.FnExactLevelMatrix', WHERE WHAT IT READS IS OF BULK AT MOST 1048576: true; the input reads as it did. -/
def fnExactLevelMatrixUptoRow : OpenClaim := { program := "ytninagdclibmnaa", sum := "5de2e4e804a333641a25f48a04be3918432a98f8d4b9c885fa2d322c41cbe931", func := "loop.example/g01066/laws.FnExactLevelMatrix", spec := "fnExactLevelMatrix", apart := false, narrowed := true }
def FnExactLevelMatrixUptoSaid : Prop := fnExactLevelMatrixUptoRow.holds Try.pinned (OpenSpec.upto fnExactLevelMatrixSpec)

end Rows
end Go.Proofs.Ytninagdclibmnaa
