/-
  DERIVED. GIVEN WITH THE SEED: THE CARDS: each row of YtobkcnmlmmhpoaaGreatDoorRows.lean that lists a variable, with what it lists TIED to the program's text (the seventh form; the later family's looks); each row that meets fmt, with fmt's text TOLD by the authors' own Lean function (tested against real Go, not proved from fmt's source: count such statements apart). THE CARD IS WHAT COUNTS. Prove the row's statement (the work); the ties are given (YtobkcnmlmmhpoaaGreatDoorTie.lean); close each card by the builder's one call (the guide's Derived/Test/ToyasCard.lean, 'card_holds'). Laid BY PROGRAM, IN A SANDBOX (cutbox-door.mjs). By AI agents, Wed Nov 11 2026. No macro, syntax, notation, axiom, sorry.
-/
import Derived.Test.YtobkcnmlmmhpoaaGreatDoorRows
import GoSem.ClaimSeven
namespace Go.Proofs.YtobkcnmlmmhpoaaGreatDoor
namespace Rows

/-- THE TIED CARD OF 'laws.FnTables'. -/
def fnTablesCard : Claim7 := { stood := { row := fnTablesRow, standIns := [], harness := (true, "9b9896be07a78954c33d49e3eef857a4eee33bb3def13d4e8383feec86364862"), looks := true }, kinds := [], alts := [], laidByText := true, laidKinds := [.data, .data, .data, .data, .sentinel, .sentinel, .pinned], laidTests := true, laidLooks := .later }
def FnTablesCardSaid : Prop := Claim7.holds Tryz.pinned (.plain (OpenSpec.ofChange fnTablesSpec)) fnTablesCard

/-- THE SECOND FORM's CARD OF 'laws.FnTables'. -/
def fnTablesUptoCard : Claim7 := { stood := { row := fnTablesUptoRow, standIns := [], harness := (true, "9b9896be07a78954c33d49e3eef857a4eee33bb3def13d4e8383feec86364862"), looks := true }, kinds := [], alts := [], laidByText := true, laidKinds := [.data, .data, .data, .data, .sentinel, .sentinel, .pinned], laidTests := true, laidLooks := .later }
def FnTablesUptoCardSaid : Prop := Claim7.holds Tryz.pinned (.plain (OpenSpec.upto fnTablesSpec)) fnTablesUptoCard
end Rows
end Go.Proofs.YtobkcnmlmmhpoaaGreatDoor
