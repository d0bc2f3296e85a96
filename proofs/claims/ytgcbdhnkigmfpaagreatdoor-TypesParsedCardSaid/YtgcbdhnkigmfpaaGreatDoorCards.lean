/-
  DERIVED. GIVEN WITH THE SEED: THE CARDS: each row of YtgcbdhnkigmfpaaGreatDoorRows.lean that lists a variable, with what it lists TIED to the program's text (the seventh form; the later family's looks); each row that meets fmt, with fmt's text TOLD by the authors' own Lean function (tested against real Go, not proved from fmt's source: count such statements apart). THE CARD IS WHAT COUNTS. Prove the row's statement (the work); the ties are given (YtgcbdhnkigmfpaaGreatDoorTie.lean); close each card by the builder's one call (the guide's Derived/Test/ToyasCard.lean, 'card_holds'). Laid BY PROGRAM, IN A SANDBOX (cutbox-door.mjs). By AI agents, Wed Nov 11 2026. No macro, syntax, notation, axiom, sorry.
-/
import Derived.Test.YtgcbdhnkigmfpaaGreatDoorRows
import GoSem.ClaimSeven
namespace Go.Proofs.YtgcbdhnkigmfpaaGreatDoor
namespace Rows

/-- THE TIED CARD OF 'hansardlaw26.TypesParsed'. -/
def typesParsedCard : Claim7 := { stood := { row := typesParsedRow, standIns := [], harness := (true, "0ac8f1cd5ee8bf571c6cdb584230cc85c02a21174df919119c112241a76c58ac"), looks := true }, kinds := [], alts := [], laidByText := true, laidKinds := [.data, .data, .data, .sentinel, .sentinel, .listed, .data], laidTests := true, laidLooks := .later }
def TypesParsedCardSaid : Prop := Claim7.holds Tryz.pinned (.plain (OpenSpec.ofChange typesParsedSpec)) typesParsedCard

/-- THE SECOND FORM's CARD OF 'hansardlaw26.TypesParsed'. -/
def typesParsedUptoCard : Claim7 := { stood := { row := typesParsedUptoRow, standIns := [], harness := (true, "0ac8f1cd5ee8bf571c6cdb584230cc85c02a21174df919119c112241a76c58ac"), looks := true }, kinds := [], alts := [], laidByText := true, laidKinds := [.data, .data, .data, .sentinel, .sentinel, .listed, .data], laidTests := true, laidLooks := .later }
def TypesParsedUptoCardSaid : Prop := Claim7.holds Tryz.pinned (.plain (OpenSpec.upto typesParsedSpec)) typesParsedUptoCard
end Rows
end Go.Proofs.YtgcbdhnkigmfpaaGreatDoor
