/-
  DERIVED. GIVEN WITH THE SEED: THE CARDS: each row of YtkgloohlmogakaaGreatDoorRows.lean that lists a variable, with what it lists TIED to the program's text (the seventh form; the later family's looks); each row that meets fmt, with fmt's text TOLD by the authors' own Lean function (tested against real Go, not proved from fmt's source: count such statements apart). THE CARD IS WHAT COUNTS. Prove the row's statement (the work); the ties are given (YtkgloohlmogakaaGreatDoorTie.lean); close each card by the builder's one call (the guide's Derived/Test/ToyasCard.lean, 'card_holds'). Laid BY PROGRAM, IN A SANDBOX (cutbox-door.mjs). By AI agents, Wed Nov 11 2026. No macro, syntax, notation, axiom, sorry.
-/
import Derived.Test.YtkgloohlmogakaaGreatDoorRows
import GoSem.ClaimSeven
namespace Go.Proofs.YtkgloohlmogakaaGreatDoor
namespace Rows

/-- THE TIED CARD OF 'hansardlaw58.PlantSpec'. -/
def plantSpecCard : Claim7 := { stood := { row := plantSpecRow, standIns := [], harness := (true, "1f2f78b1e83fc727b771b36d3cd609e114f8d5a48bd44ec097862298501e8100"), looks := true }, kinds := [], alts := [], laidByText := true, laidKinds := [.data, .listed, .data, .pinned], laidTests := true, laidLooks := .later }
def PlantSpecCardSaid : Prop := Claim7.holds Tryz.pinned (.plain (OpenSpec.ofChange plantSpecSpec)) plantSpecCard

/-- THE TIED CARD OF 'hansardlaw58.PlantCrashSpec'. -/
def plantCrashSpecCard : Claim7 := { stood := { row := plantCrashSpecRow, standIns := [], harness := (true, "1f2f78b1e83fc727b771b36d3cd609e114f8d5a48bd44ec097862298501e8100"), looks := true }, kinds := [], alts := [], laidByText := true, laidKinds := [.data, .listed, .data, .pinned], laidTests := true, laidLooks := .later }
def PlantCrashSpecCardSaid : Prop := Claim7.holds Tryz.pinned (.plain (OpenSpec.ofChange plantCrashSpecSpec)) plantCrashSpecCard

/-- THE TIED CARD OF 'hansardlaw58.PlantKept'. -/
def plantKeptCard : Claim7 := { stood := { row := plantKeptRow, standIns := [], harness := (true, "1f2f78b1e83fc727b771b36d3cd609e114f8d5a48bd44ec097862298501e8100"), looks := true }, kinds := [], alts := [], laidByText := true, laidKinds := [.data, .listed, .data, .pinned], laidTests := true, laidLooks := .later }
def PlantKeptCardSaid : Prop := Claim7.holds Tryz.pinned (.plain (OpenSpec.ofChange plantKeptSpec)) plantKeptCard

/-- THE TIED CARD OF 'hansardlaw58.PlantTwice'. -/
def plantTwiceCard : Claim7 := { stood := { row := plantTwiceRow, standIns := [], harness := (true, "1f2f78b1e83fc727b771b36d3cd609e114f8d5a48bd44ec097862298501e8100"), looks := true }, kinds := [], alts := [], laidByText := true, laidKinds := [.data, .listed, .data, .pinned], laidTests := true, laidLooks := .later }
def PlantTwiceCardSaid : Prop := Claim7.holds Tryz.pinned (.plain (OpenSpec.ofChange plantTwiceSpec)) plantTwiceCard

/-- THE SECOND FORM's CARD OF 'hansardlaw58.PlantSpec'. -/
def plantSpecUptoCard : Claim7 := { stood := { row := plantSpecUptoRow, standIns := [], harness := (true, "1f2f78b1e83fc727b771b36d3cd609e114f8d5a48bd44ec097862298501e8100"), looks := true }, kinds := [], alts := [], laidByText := true, laidKinds := [.data, .listed, .data, .pinned], laidTests := true, laidLooks := .later }
def PlantSpecUptoCardSaid : Prop := Claim7.holds Tryz.pinned (.plain (OpenSpec.upto plantSpecSpec)) plantSpecUptoCard

/-- THE SECOND FORM's CARD OF 'hansardlaw58.PlantCrashSpec'. -/
def plantCrashSpecUptoCard : Claim7 := { stood := { row := plantCrashSpecUptoRow, standIns := [], harness := (true, "1f2f78b1e83fc727b771b36d3cd609e114f8d5a48bd44ec097862298501e8100"), looks := true }, kinds := [], alts := [], laidByText := true, laidKinds := [.data, .listed, .data, .pinned], laidTests := true, laidLooks := .later }
def PlantCrashSpecUptoCardSaid : Prop := Claim7.holds Tryz.pinned (.plain (OpenSpec.upto plantCrashSpecSpec)) plantCrashSpecUptoCard

/-- THE SECOND FORM's CARD OF 'hansardlaw58.PlantKept'. -/
def plantKeptUptoCard : Claim7 := { stood := { row := plantKeptUptoRow, standIns := [], harness := (true, "1f2f78b1e83fc727b771b36d3cd609e114f8d5a48bd44ec097862298501e8100"), looks := true }, kinds := [], alts := [], laidByText := true, laidKinds := [.data, .listed, .data, .pinned], laidTests := true, laidLooks := .later }
def PlantKeptUptoCardSaid : Prop := Claim7.holds Tryz.pinned (.plain (OpenSpec.upto plantKeptSpec)) plantKeptUptoCard

/-- THE SECOND FORM's CARD OF 'hansardlaw58.PlantTwice'. -/
def plantTwiceUptoCard : Claim7 := { stood := { row := plantTwiceUptoRow, standIns := [], harness := (true, "1f2f78b1e83fc727b771b36d3cd609e114f8d5a48bd44ec097862298501e8100"), looks := true }, kinds := [], alts := [], laidByText := true, laidKinds := [.data, .listed, .data, .pinned], laidTests := true, laidLooks := .later }
def PlantTwiceUptoCardSaid : Prop := Claim7.holds Tryz.pinned (.plain (OpenSpec.upto plantTwiceSpec)) plantTwiceUptoCard
end Rows
end Go.Proofs.YtkgloohlmogakaaGreatDoor
