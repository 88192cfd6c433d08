/-
  DERIVED. GIVEN WITH THE SEED: THE CARDS: each row of YtdffleonelapfaaDoorRows.lean that lists a variable, with what it lists TIED to the program's text (the seventh form; the later family's looks); each row that meets fmt, with fmt's text TOLD by the authors' own Lean function (tested against real Go, not proved from fmt's source: count such statements apart). THE CARD IS WHAT COUNTS. Prove the row's statement (the work); the ties are given (YtdffleonelapfaaDoorTie.lean); close each card by the builder's one call (the guide's Derived/Test/ToyasCard.lean, 'card_holds'). Laid BY PROGRAM, IN A SANDBOX (cutbox-door.mjs). By AI agents, Wed Nov 11 2026. No macro, syntax, notation, axiom, sorry.
-/
import Derived.Test.YtdffleonelapfaaDoorRows
import GoSem.ClaimSeven
namespace Go.Proofs.YtdffleonelapfaaDoor
namespace Rows

/-- THE TIED CARD OF 'laws.FnExactRowText'. -/
def fnExactRowTextCard : Claim7 := { stood := { row := fnExactRowTextRow, standIns := [], harness := (true, "59622d18de7b29c8ef72f30ec4d54f66f89254904ff0519388a0bb4dd2fe009a"), looks := false }, kinds := [], alts := [], laidByText := true, laidKinds := [.data, .data, .data], laidTests := true, laidLooks := .later }
def FnExactRowTextCardSaid : Prop := Claim7.holds Tryd.pinned (.plain (OpenSpec.ofChange fnExactRowTextSpec)) fnExactRowTextCard

/-- THE TIED CARD OF 'laws.FnExactCommandText'. -/
def fnExactCommandTextCard : Claim7 := { stood := { row := fnExactCommandTextRow, standIns := [], harness := (true, "59622d18de7b29c8ef72f30ec4d54f66f89254904ff0519388a0bb4dd2fe009a"), looks := false }, kinds := [], alts := [], laidByText := true, laidKinds := [.data, .data, .data], laidTests := true, laidLooks := .later }
def FnExactCommandTextCardSaid : Prop := Claim7.holds Tryd.pinned (.plain (OpenSpec.ofChange fnExactCommandTextSpec)) fnExactCommandTextCard

/-- THE TIED CARD OF 'laws.FnExactRecordText'. -/
def fnExactRecordTextCard : Claim7 := { stood := { row := fnExactRecordTextRow, standIns := [], harness := (true, "59622d18de7b29c8ef72f30ec4d54f66f89254904ff0519388a0bb4dd2fe009a"), looks := false }, kinds := [], alts := [], laidByText := true, laidKinds := [.data, .data, .data], laidTests := true, laidLooks := .later }
def FnExactRecordTextCardSaid : Prop := Claim7.holds Tryd.pinned (.plain (OpenSpec.ofChange fnExactRecordTextSpec)) fnExactRecordTextCard

/-- THE TIED CARD OF 'laws.FnExactJournalText'. -/
def fnExactJournalTextCard : Claim7 := { stood := { row := fnExactJournalTextRow, standIns := [], harness := (true, "59622d18de7b29c8ef72f30ec4d54f66f89254904ff0519388a0bb4dd2fe009a"), looks := false }, kinds := [], alts := [], laidByText := true, laidKinds := [.data, .data, .data], laidTests := true, laidLooks := .later }
def FnExactJournalTextCardSaid : Prop := Claim7.holds Tryd.pinned (.plain (OpenSpec.ofChange fnExactJournalTextSpec)) fnExactJournalTextCard

/-- THE SECOND FORM's CARD OF 'laws.FnExactRowText'. -/
def fnExactRowTextUptoCard : Claim7 := { stood := { row := fnExactRowTextUptoRow, standIns := [], harness := (true, "59622d18de7b29c8ef72f30ec4d54f66f89254904ff0519388a0bb4dd2fe009a"), looks := false }, kinds := [], alts := [], laidByText := true, laidKinds := [.data, .data, .data], laidTests := true, laidLooks := .later }
def FnExactRowTextUptoCardSaid : Prop := Claim7.holds Tryd.pinned (.plain (OpenSpec.upto fnExactRowTextSpec)) fnExactRowTextUptoCard

/-- THE SECOND FORM's CARD OF 'laws.FnExactCommandText'. -/
def fnExactCommandTextUptoCard : Claim7 := { stood := { row := fnExactCommandTextUptoRow, standIns := [], harness := (true, "59622d18de7b29c8ef72f30ec4d54f66f89254904ff0519388a0bb4dd2fe009a"), looks := false }, kinds := [], alts := [], laidByText := true, laidKinds := [.data, .data, .data], laidTests := true, laidLooks := .later }
def FnExactCommandTextUptoCardSaid : Prop := Claim7.holds Tryd.pinned (.plain (OpenSpec.upto fnExactCommandTextSpec)) fnExactCommandTextUptoCard

/-- THE SECOND FORM's CARD OF 'laws.FnExactRecordText'. -/
def fnExactRecordTextUptoCard : Claim7 := { stood := { row := fnExactRecordTextUptoRow, standIns := [], harness := (true, "59622d18de7b29c8ef72f30ec4d54f66f89254904ff0519388a0bb4dd2fe009a"), looks := false }, kinds := [], alts := [], laidByText := true, laidKinds := [.data, .data, .data], laidTests := true, laidLooks := .later }
def FnExactRecordTextUptoCardSaid : Prop := Claim7.holds Tryd.pinned (.plain (OpenSpec.upto fnExactRecordTextSpec)) fnExactRecordTextUptoCard

/-- THE SECOND FORM's CARD OF 'laws.FnExactJournalText'. -/
def fnExactJournalTextUptoCard : Claim7 := { stood := { row := fnExactJournalTextUptoRow, standIns := [], harness := (true, "59622d18de7b29c8ef72f30ec4d54f66f89254904ff0519388a0bb4dd2fe009a"), looks := false }, kinds := [], alts := [], laidByText := true, laidKinds := [.data, .data, .data], laidTests := true, laidLooks := .later }
def FnExactJournalTextUptoCardSaid : Prop := Claim7.holds Tryd.pinned (.plain (OpenSpec.upto fnExactJournalTextSpec)) fnExactJournalTextUptoCard
end Rows
end Go.Proofs.YtdffleonelapfaaDoor
