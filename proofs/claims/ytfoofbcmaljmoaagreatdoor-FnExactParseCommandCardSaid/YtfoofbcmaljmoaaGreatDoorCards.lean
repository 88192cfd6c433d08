/-
  DERIVED. GIVEN WITH THE SEED: THE CARDS: each row of YtfoofbcmaljmoaaGreatDoorRows.lean that lists a variable, with what it lists TIED to the program's text (the seventh form; the later family's looks); each row that meets fmt, with fmt's text TOLD by the authors' own Lean function (tested against real Go, not proved from fmt's source: count such statements apart). THE CARD IS WHAT COUNTS. Prove the row's statement (the work); the ties are given (YtfoofbcmaljmoaaGreatDoorTie.lean); close each card by the builder's one call (the guide's Derived/Test/ToyasCard.lean, 'card_holds'). Laid BY PROGRAM, IN A SANDBOX (cutbox-door.mjs). By AI agents, Wed Nov 11 2026. No macro, syntax, notation, axiom, sorry.
-/
import Derived.Test.YtfoofbcmaljmoaaGreatDoorRows
import GoSem.ClaimSeven
namespace Go.Proofs.YtfoofbcmaljmoaaGreatDoor
namespace Rows

/-- THE TIED CARD OF 'laws.FnExactParseCommand'. -/
def fnExactParseCommandCard : Claim7 := { stood := { row := fnExactParseCommandRow, standIns := [], harness := (true, "4e326dcac13eccde53a56e74122fa13e650064aad878fac6a818588085122e2b"), looks := true }, kinds := [], alts := [], laidByText := true, laidKinds := [.data, .data, .data, .data, .sentinel, .sentinel, .pinned], laidTests := true, laidLooks := .later }
def FnExactParseCommandCardSaid : Prop := Claim7.holds Tryz.pinned (.plain (OpenSpec.ofChange fnExactParseCommandSpec)) fnExactParseCommandCard

/-- THE SECOND FORM's CARD OF 'laws.FnExactParseCommand'. -/
def fnExactParseCommandUptoCard : Claim7 := { stood := { row := fnExactParseCommandUptoRow, standIns := [], harness := (true, "4e326dcac13eccde53a56e74122fa13e650064aad878fac6a818588085122e2b"), looks := true }, kinds := [], alts := [], laidByText := true, laidKinds := [.data, .data, .data, .data, .sentinel, .sentinel, .pinned], laidTests := true, laidLooks := .later }
def FnExactParseCommandUptoCardSaid : Prop := Claim7.holds Tryz.pinned (.plain (OpenSpec.upto fnExactParseCommandSpec)) fnExactParseCommandUptoCard
end Rows
end Go.Proofs.YtfoofbcmaljmoaaGreatDoor
