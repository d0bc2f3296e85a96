/-
  DERIVED. GIVEN WITH THE SEED: THE CARDS: each row of YtiolflfjekiboaaGreatDoorRows.lean that lists a variable, with what it lists TIED to the program's text (the seventh form; the later family's looks); each row that meets fmt, with fmt's text TOLD by the authors' own Lean function (tested against real Go, not proved from fmt's source: count such statements apart). THE CARD IS WHAT COUNTS. Prove the row's statement (the work); the ties are given (YtiolflfjekiboaaGreatDoorTie.lean); close each card by the builder's one call (the guide's Derived/Test/ToyasCard.lean, 'card_holds'). Laid BY PROGRAM, IN A SANDBOX (cutbox-door.mjs). By AI agents, Wed Nov 11 2026. No macro, syntax, notation, axiom, sorry.
-/
import Derived.Test.YtiolflfjekiboaaGreatDoorRows
import GoSem.ClaimSeven
namespace Go.Proofs.YtiolflfjekiboaaGreatDoor
namespace Rows

/-- THE TIED CARD OF 'hansardlaw25.GrammarSpec'. -/
def grammarSpecCard : Claim7 := { stood := { row := grammarSpecRow, standIns := [], harness := (true, "43123bcce92733a83bfe6fe4a667aa00c4669e4a910df4de87353245979eca36"), looks := true }, kinds := [], alts := [], laidByText := true, laidKinds := [.data, .data, .data, .sentinel, .sentinel], laidTests := true, laidLooks := .later }
def GrammarSpecCardSaid : Prop := Claim7.holds Tryz.pinned (.plain (OpenSpec.ofChange grammarSpecSpec)) grammarSpecCard

/-- THE TIED CARD OF 'hansardlaw25.GrammarPrintSpec'. -/
def grammarPrintSpecCard : Claim7 := { stood := { row := grammarPrintSpecRow, standIns := [], harness := (true, "43123bcce92733a83bfe6fe4a667aa00c4669e4a910df4de87353245979eca36"), looks := true }, kinds := [], alts := [], laidByText := true, laidKinds := [.data, .data, .data, .sentinel, .sentinel], laidTests := true, laidLooks := .later }
def GrammarPrintSpecCardSaid : Prop := Claim7.holds Tryz.pinned (.plain (OpenSpec.ofChange grammarPrintSpecSpec)) grammarPrintSpecCard

/-- THE TIED CARD OF 'hansardlaw25.GrammarBack'. -/
def grammarBackCard : Claim7 := { stood := { row := grammarBackRow, standIns := [], harness := (true, "43123bcce92733a83bfe6fe4a667aa00c4669e4a910df4de87353245979eca36"), looks := true }, kinds := [], alts := [], laidByText := true, laidKinds := [.data, .data, .data, .sentinel, .sentinel], laidTests := true, laidLooks := .later }
def GrammarBackCardSaid : Prop := Claim7.holds Tryz.pinned (.plain (OpenSpec.ofChange grammarBackSpec)) grammarBackCard

/-- THE TIED CARD OF 'hansardlaw25.GrammarSpaces'. -/
def grammarSpacesCard : Claim7 := { stood := { row := grammarSpacesRow, standIns := [], harness := (true, "43123bcce92733a83bfe6fe4a667aa00c4669e4a910df4de87353245979eca36"), looks := true }, kinds := [], alts := [], laidByText := true, laidKinds := [.data, .data, .data, .sentinel, .sentinel], laidTests := true, laidLooks := .later }
def GrammarSpacesCardSaid : Prop := Claim7.holds Tryz.pinned (.plain (OpenSpec.ofChange grammarSpacesSpec)) grammarSpacesCard

/-- THE TIED CARD OF 'hansardlaw25.GrammarChange'. -/
def grammarChangeCard : Claim7 := { stood := { row := grammarChangeRow, standIns := [], harness := (true, "43123bcce92733a83bfe6fe4a667aa00c4669e4a910df4de87353245979eca36"), looks := true }, kinds := [], alts := [], laidByText := true, laidKinds := [.data, .data, .data, .sentinel, .sentinel], laidTests := true, laidLooks := .later }
def GrammarChangeCardSaid : Prop := Claim7.holds Tryz.pinned (.plain (OpenSpec.ofChange grammarChangeSpec)) grammarChangeCard

/-- THE TIED CARD OF 'hansardlaw25.GrammarCut'. -/
def grammarCutCard : Claim7 := { stood := { row := grammarCutRow, standIns := [], harness := (true, "43123bcce92733a83bfe6fe4a667aa00c4669e4a910df4de87353245979eca36"), looks := true }, kinds := [], alts := [], laidByText := true, laidKinds := [.data, .data, .data, .sentinel, .sentinel], laidTests := true, laidLooks := .later }
def GrammarCutCardSaid : Prop := Claim7.holds Tryz.pinned (.plain (OpenSpec.ofChange grammarCutSpec)) grammarCutCard

/-- THE TIED CARD OF 'hansardlaw25.GrammarMore'. -/
def grammarMoreCard : Claim7 := { stood := { row := grammarMoreRow, standIns := [], harness := (true, "43123bcce92733a83bfe6fe4a667aa00c4669e4a910df4de87353245979eca36"), looks := true }, kinds := [], alts := [], laidByText := true, laidKinds := [.data, .data, .data, .sentinel, .sentinel], laidTests := true, laidLooks := .later }
def GrammarMoreCardSaid : Prop := Claim7.holds Tryz.pinned (.plain (OpenSpec.ofChange grammarMoreSpec)) grammarMoreCard

/-- THE SECOND FORM's CARD OF 'hansardlaw25.GrammarSpec'. -/
def grammarSpecUptoCard : Claim7 := { stood := { row := grammarSpecUptoRow, standIns := [], harness := (true, "43123bcce92733a83bfe6fe4a667aa00c4669e4a910df4de87353245979eca36"), looks := true }, kinds := [], alts := [], laidByText := true, laidKinds := [.data, .data, .data, .sentinel, .sentinel], laidTests := true, laidLooks := .later }
def GrammarSpecUptoCardSaid : Prop := Claim7.holds Tryz.pinned (.plain (OpenSpec.upto grammarSpecSpec)) grammarSpecUptoCard

/-- THE SECOND FORM's CARD OF 'hansardlaw25.GrammarPrintSpec'. -/
def grammarPrintSpecUptoCard : Claim7 := { stood := { row := grammarPrintSpecUptoRow, standIns := [], harness := (true, "43123bcce92733a83bfe6fe4a667aa00c4669e4a910df4de87353245979eca36"), looks := true }, kinds := [], alts := [], laidByText := true, laidKinds := [.data, .data, .data, .sentinel, .sentinel], laidTests := true, laidLooks := .later }
def GrammarPrintSpecUptoCardSaid : Prop := Claim7.holds Tryz.pinned (.plain (OpenSpec.upto grammarPrintSpecSpec)) grammarPrintSpecUptoCard

/-- THE SECOND FORM's CARD OF 'hansardlaw25.GrammarBack'. -/
def grammarBackUptoCard : Claim7 := { stood := { row := grammarBackUptoRow, standIns := [], harness := (true, "43123bcce92733a83bfe6fe4a667aa00c4669e4a910df4de87353245979eca36"), looks := true }, kinds := [], alts := [], laidByText := true, laidKinds := [.data, .data, .data, .sentinel, .sentinel], laidTests := true, laidLooks := .later }
def GrammarBackUptoCardSaid : Prop := Claim7.holds Tryz.pinned (.plain (OpenSpec.upto grammarBackSpec)) grammarBackUptoCard

/-- THE SECOND FORM's CARD OF 'hansardlaw25.GrammarSpaces'. -/
def grammarSpacesUptoCard : Claim7 := { stood := { row := grammarSpacesUptoRow, standIns := [], harness := (true, "43123bcce92733a83bfe6fe4a667aa00c4669e4a910df4de87353245979eca36"), looks := true }, kinds := [], alts := [], laidByText := true, laidKinds := [.data, .data, .data, .sentinel, .sentinel], laidTests := true, laidLooks := .later }
def GrammarSpacesUptoCardSaid : Prop := Claim7.holds Tryz.pinned (.plain (OpenSpec.upto grammarSpacesSpec)) grammarSpacesUptoCard

/-- THE SECOND FORM's CARD OF 'hansardlaw25.GrammarChange'. -/
def grammarChangeUptoCard : Claim7 := { stood := { row := grammarChangeUptoRow, standIns := [], harness := (true, "43123bcce92733a83bfe6fe4a667aa00c4669e4a910df4de87353245979eca36"), looks := true }, kinds := [], alts := [], laidByText := true, laidKinds := [.data, .data, .data, .sentinel, .sentinel], laidTests := true, laidLooks := .later }
def GrammarChangeUptoCardSaid : Prop := Claim7.holds Tryz.pinned (.plain (OpenSpec.upto grammarChangeSpec)) grammarChangeUptoCard

/-- THE SECOND FORM's CARD OF 'hansardlaw25.GrammarCut'. -/
def grammarCutUptoCard : Claim7 := { stood := { row := grammarCutUptoRow, standIns := [], harness := (true, "43123bcce92733a83bfe6fe4a667aa00c4669e4a910df4de87353245979eca36"), looks := true }, kinds := [], alts := [], laidByText := true, laidKinds := [.data, .data, .data, .sentinel, .sentinel], laidTests := true, laidLooks := .later }
def GrammarCutUptoCardSaid : Prop := Claim7.holds Tryz.pinned (.plain (OpenSpec.upto grammarCutSpec)) grammarCutUptoCard

/-- THE SECOND FORM's CARD OF 'hansardlaw25.GrammarMore'. -/
def grammarMoreUptoCard : Claim7 := { stood := { row := grammarMoreUptoRow, standIns := [], harness := (true, "43123bcce92733a83bfe6fe4a667aa00c4669e4a910df4de87353245979eca36"), looks := true }, kinds := [], alts := [], laidByText := true, laidKinds := [.data, .data, .data, .sentinel, .sentinel], laidTests := true, laidLooks := .later }
def GrammarMoreUptoCardSaid : Prop := Claim7.holds Tryz.pinned (.plain (OpenSpec.upto grammarMoreSpec)) grammarMoreUptoCard
end Rows
end Go.Proofs.YtiolflfjekiboaaGreatDoor
