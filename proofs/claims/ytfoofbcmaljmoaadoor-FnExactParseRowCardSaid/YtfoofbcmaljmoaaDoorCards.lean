/-
  DERIVED. GIVEN WITH THE SEED: THE CARDS: each row of YtfoofbcmaljmoaaDoorRows.lean that lists a variable, with what it lists TIED to the program's text (the seventh form; the later family's looks); each row that meets fmt, with fmt's text TOLD by the authors' own Lean function (tested against real Go, not proved from fmt's source: count such statements apart). THE CARD IS WHAT COUNTS. Prove the row's statement (the work); the ties are given (YtfoofbcmaljmoaaDoorTie.lean); close each card by the builder's one call (the guide's Derived/Test/ToyasCard.lean, 'card_holds'). Laid BY PROGRAM, IN A SANDBOX (cutbox-door.mjs). By AI agents, Wed Nov 11 2026. No macro, syntax, notation, axiom, sorry.
-/
import Derived.Test.YtfoofbcmaljmoaaDoorRows
import GoSem.ClaimSeven
namespace Go.Proofs.YtfoofbcmaljmoaaDoor
namespace Rows

/-- THE TIED CARD OF 'laws.FnExactParseRow'. -/
def fnExactParseRowCard : Claim7 := { stood := { row := fnExactParseRowRow, standIns := [], harness := (true, "933364ef5020c3c960f93317831ac645a891ed49015dab9906d8ebb7c7f811ef"), looks := true }, kinds := [], alts := [], laidByText := true, laidKinds := [.data, .data, .data, .data, .sentinel, .sentinel, .pinned], laidTests := true, laidLooks := .later }
def FnExactParseRowCardSaid : Prop := Claim7.holds Tryd.pinned (.plain (OpenSpec.ofChange fnExactParseRowSpec)) fnExactParseRowCard

/-- THE SECOND FORM's CARD OF 'laws.FnExactParseRow'. -/
def fnExactParseRowUptoCard : Claim7 := { stood := { row := fnExactParseRowUptoRow, standIns := [], harness := (true, "933364ef5020c3c960f93317831ac645a891ed49015dab9906d8ebb7c7f811ef"), looks := true }, kinds := [], alts := [], laidByText := true, laidKinds := [.data, .data, .data, .data, .sentinel, .sentinel, .pinned], laidTests := true, laidLooks := .later }
def FnExactParseRowUptoCardSaid : Prop := Claim7.holds Tryd.pinned (.plain (OpenSpec.upto fnExactParseRowSpec)) fnExactParseRowUptoCard
end Rows
end Go.Proofs.YtfoofbcmaljmoaaDoor
