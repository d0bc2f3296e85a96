/-
  DERIVED. GIVEN WITH THE SEED: THE CARDS: each row of YtjeeajcllokafaaDoorRows.lean that lists a variable, with what it lists TIED to the program's text (the seventh form; the later family's looks); each row that meets fmt, with fmt's text TOLD by the authors' own Lean function (tested against real Go, not proved from fmt's source: count such statements apart). THE CARD IS WHAT COUNTS. Prove the row's statement (the work); the ties are given (YtjeeajcllokafaaDoorTie.lean); close each card by the builder's one call (the guide's Derived/Test/ToyasCard.lean, 'card_holds'). Laid BY PROGRAM, IN A SANDBOX (cutbox-door.mjs). By AI agents, Wed Nov 11 2026. No macro, syntax, notation, axiom, sorry.
-/
import Derived.Test.YtjeeajcllokafaaDoorRows
import GoSem.ClaimSeven
namespace Go.Proofs.YtjeeajcllokafaaDoor
namespace Rows

/-- THE TIED CARD OF 'hansardlaw26.TypesSpec'. -/
def typesSpecCard : Claim7 := { stood := { row := typesSpecRow, standIns := [], harness := (true, "a054027278d6f6b1368d18949871e1da8d3683710283fb43ca304176fdcd037a"), looks := false }, kinds := [], alts := [], laidByText := true, laidKinds := [.listed, .data], laidTests := true, laidLooks := .later }
def TypesSpecCardSaid : Prop := Claim7.holds Tryd.pinned (.plain (OpenSpec.ofChange typesSpecSpec)) typesSpecCard

/-- THE TIED CARD OF 'hansardlaw26.TypesMean'. -/
def typesMeanCard : Claim7 := { stood := { row := typesMeanRow, standIns := [], harness := (true, "a054027278d6f6b1368d18949871e1da8d3683710283fb43ca304176fdcd037a"), looks := false }, kinds := [], alts := [], laidByText := true, laidKinds := [.listed, .data], laidTests := true, laidLooks := .later }
def TypesMeanCardSaid : Prop := Claim7.holds Tryd.pinned (.plain (OpenSpec.ofChange typesMeanSpec)) typesMeanCard

/-- THE TIED CARD OF 'hansardlaw26.TypesLinear'. -/
def typesLinearCard : Claim7 := { stood := { row := typesLinearRow, standIns := [], harness := (true, "a054027278d6f6b1368d18949871e1da8d3683710283fb43ca304176fdcd037a"), looks := false }, kinds := [], alts := [], laidByText := true, laidKinds := [.listed, .data], laidTests := true, laidLooks := .later }
def TypesLinearCardSaid : Prop := Claim7.holds Tryd.pinned (.plain (OpenSpec.ofChange typesLinearSpec)) typesLinearCard

/-- THE TIED CARD OF 'hansardlaw26.TypesTwice'. -/
def typesTwiceCard : Claim7 := { stood := { row := typesTwiceRow, standIns := [], harness := (true, "a054027278d6f6b1368d18949871e1da8d3683710283fb43ca304176fdcd037a"), looks := false }, kinds := [], alts := [], laidByText := true, laidKinds := [.listed, .data], laidTests := true, laidLooks := .later }
def TypesTwiceCardSaid : Prop := Claim7.holds Tryd.pinned (.plain (OpenSpec.ofChange typesTwiceSpec)) typesTwiceCard

/-- THE TIED CARD OF 'hansardlaw26.TypesMoved'. -/
def typesMovedCard : Claim7 := { stood := { row := typesMovedRow, standIns := [], harness := (true, "a054027278d6f6b1368d18949871e1da8d3683710283fb43ca304176fdcd037a"), looks := false }, kinds := [], alts := [], laidByText := true, laidKinds := [.listed, .data], laidTests := true, laidLooks := .later }
def TypesMovedCardSaid : Prop := Claim7.holds Tryd.pinned (.plain (OpenSpec.ofChange typesMovedSpec)) typesMovedCard

/-- THE SECOND FORM's CARD OF 'hansardlaw26.TypesSpec'. -/
def typesSpecUptoCard : Claim7 := { stood := { row := typesSpecUptoRow, standIns := [], harness := (true, "a054027278d6f6b1368d18949871e1da8d3683710283fb43ca304176fdcd037a"), looks := false }, kinds := [], alts := [], laidByText := true, laidKinds := [.listed, .data], laidTests := true, laidLooks := .later }
def TypesSpecUptoCardSaid : Prop := Claim7.holds Tryd.pinned (.plain (OpenSpec.upto typesSpecSpec)) typesSpecUptoCard

/-- THE SECOND FORM's CARD OF 'hansardlaw26.TypesMean'. -/
def typesMeanUptoCard : Claim7 := { stood := { row := typesMeanUptoRow, standIns := [], harness := (true, "a054027278d6f6b1368d18949871e1da8d3683710283fb43ca304176fdcd037a"), looks := false }, kinds := [], alts := [], laidByText := true, laidKinds := [.listed, .data], laidTests := true, laidLooks := .later }
def TypesMeanUptoCardSaid : Prop := Claim7.holds Tryd.pinned (.plain (OpenSpec.upto typesMeanSpec)) typesMeanUptoCard

/-- THE SECOND FORM's CARD OF 'hansardlaw26.TypesLinear'. -/
def typesLinearUptoCard : Claim7 := { stood := { row := typesLinearUptoRow, standIns := [], harness := (true, "a054027278d6f6b1368d18949871e1da8d3683710283fb43ca304176fdcd037a"), looks := false }, kinds := [], alts := [], laidByText := true, laidKinds := [.listed, .data], laidTests := true, laidLooks := .later }
def TypesLinearUptoCardSaid : Prop := Claim7.holds Tryd.pinned (.plain (OpenSpec.upto typesLinearSpec)) typesLinearUptoCard

/-- THE SECOND FORM's CARD OF 'hansardlaw26.TypesTwice'. -/
def typesTwiceUptoCard : Claim7 := { stood := { row := typesTwiceUptoRow, standIns := [], harness := (true, "a054027278d6f6b1368d18949871e1da8d3683710283fb43ca304176fdcd037a"), looks := false }, kinds := [], alts := [], laidByText := true, laidKinds := [.listed, .data], laidTests := true, laidLooks := .later }
def TypesTwiceUptoCardSaid : Prop := Claim7.holds Tryd.pinned (.plain (OpenSpec.upto typesTwiceSpec)) typesTwiceUptoCard

/-- THE SECOND FORM's CARD OF 'hansardlaw26.TypesMoved'. -/
def typesMovedUptoCard : Claim7 := { stood := { row := typesMovedUptoRow, standIns := [], harness := (true, "a054027278d6f6b1368d18949871e1da8d3683710283fb43ca304176fdcd037a"), looks := false }, kinds := [], alts := [], laidByText := true, laidKinds := [.listed, .data], laidTests := true, laidLooks := .later }
def TypesMovedUptoCardSaid : Prop := Claim7.holds Tryd.pinned (.plain (OpenSpec.upto typesMovedSpec)) typesMovedUptoCard
end Rows
end Go.Proofs.YtjeeajcllokafaaDoor
