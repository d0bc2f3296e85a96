/-
  DERIVED. GIVEN WITH THE SEED: THE CARDS: each row of YtkknfajchefgaaaGreatDoorRows.lean that lists a variable, with what it lists TIED to the program's text (the seventh form; the later family's looks); each row that meets fmt, with fmt's text TOLD by the authors' own Lean function (tested against real Go, not proved from fmt's source: count such statements apart). THE CARD IS WHAT COUNTS. Prove the row's statement (the work); the ties are given (YtkknfajchefgaaaGreatDoorTie.lean); close each card by the builder's one call (the guide's Derived/Test/ToyasCard.lean, 'card_holds'). Laid BY PROGRAM, IN A SANDBOX (cutbox-door.mjs). By AI agents, Wed Nov 11 2026. No macro, syntax, notation, axiom, sorry.
-/
import Derived.Test.YtkknfajchefgaaaGreatDoorRows
import GoSem.ClaimSeven
namespace Go.Proofs.YtkknfajchefgaaaGreatDoor
namespace Rows

/-- THE TIED CARD OF 'hansardlaw59.ReportsBack'. -/
def reportsBackCard : Claim7 := { stood := { row := reportsBackRow, standIns := [], harness := (true, "f54491737cca46d765bd52eaad018dc9140f54dbe6d2a9a424050900d6ebde01"), looks := true }, kinds := [], alts := [], laidByText := true, laidKinds := [.data, .data, .data, .data, .sentinel, .sentinel, .listed, .data, .pinned], laidTests := true, laidLooks := .later }
def ReportsBackCardSaid : Prop := Claim7.holds Tryz.pinned (.plain (OpenSpec.ofChange reportsBackSpec)) reportsBackCard

/-- THE TIED CARD OF 'hansardlaw59.ReportsWrong'. -/
def reportsWrongCard : Claim7 := { stood := { row := reportsWrongRow, standIns := [], harness := (true, "f54491737cca46d765bd52eaad018dc9140f54dbe6d2a9a424050900d6ebde01"), looks := true }, kinds := [], alts := [], laidByText := true, laidKinds := [.data, .data, .data, .data, .sentinel, .sentinel, .listed, .data, .pinned], laidTests := true, laidLooks := .later }
def ReportsWrongCardSaid : Prop := Claim7.holds Tryz.pinned (.plain (OpenSpec.ofChange reportsWrongSpec)) reportsWrongCard

/-- THE TIED CARD OF 'hansardlaw59.ReportsLines'. -/
def reportsLinesCard : Claim7 := { stood := { row := reportsLinesRow, standIns := [], harness := (true, "f54491737cca46d765bd52eaad018dc9140f54dbe6d2a9a424050900d6ebde01"), looks := true }, kinds := [], alts := [], laidByText := true, laidKinds := [.data, .data, .data, .data, .sentinel, .sentinel, .listed, .data, .pinned], laidTests := true, laidLooks := .later }
def ReportsLinesCardSaid : Prop := Claim7.holds Tryz.pinned (.plain (OpenSpec.ofChange reportsLinesSpec)) reportsLinesCard

/-- THE SECOND FORM's CARD OF 'hansardlaw59.ReportsBack'. -/
def reportsBackUptoCard : Claim7 := { stood := { row := reportsBackUptoRow, standIns := [], harness := (true, "f54491737cca46d765bd52eaad018dc9140f54dbe6d2a9a424050900d6ebde01"), looks := true }, kinds := [], alts := [], laidByText := true, laidKinds := [.data, .data, .data, .data, .sentinel, .sentinel, .listed, .data, .pinned], laidTests := true, laidLooks := .later }
def ReportsBackUptoCardSaid : Prop := Claim7.holds Tryz.pinned (.plain (OpenSpec.upto reportsBackSpec)) reportsBackUptoCard

/-- THE SECOND FORM's CARD OF 'hansardlaw59.ReportsWrong'. -/
def reportsWrongUptoCard : Claim7 := { stood := { row := reportsWrongUptoRow, standIns := [], harness := (true, "f54491737cca46d765bd52eaad018dc9140f54dbe6d2a9a424050900d6ebde01"), looks := true }, kinds := [], alts := [], laidByText := true, laidKinds := [.data, .data, .data, .data, .sentinel, .sentinel, .listed, .data, .pinned], laidTests := true, laidLooks := .later }
def ReportsWrongUptoCardSaid : Prop := Claim7.holds Tryz.pinned (.plain (OpenSpec.upto reportsWrongSpec)) reportsWrongUptoCard

/-- THE SECOND FORM's CARD OF 'hansardlaw59.ReportsLines'. -/
def reportsLinesUptoCard : Claim7 := { stood := { row := reportsLinesUptoRow, standIns := [], harness := (true, "f54491737cca46d765bd52eaad018dc9140f54dbe6d2a9a424050900d6ebde01"), looks := true }, kinds := [], alts := [], laidByText := true, laidKinds := [.data, .data, .data, .data, .sentinel, .sentinel, .listed, .data, .pinned], laidTests := true, laidLooks := .later }
def ReportsLinesUptoCardSaid : Prop := Claim7.holds Tryz.pinned (.plain (OpenSpec.upto reportsLinesSpec)) reportsLinesUptoCard
end Rows
end Go.Proofs.YtkknfajchefgaaaGreatDoor
