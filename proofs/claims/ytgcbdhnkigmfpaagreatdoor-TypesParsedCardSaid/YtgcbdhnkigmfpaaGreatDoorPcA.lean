/-
  Grammars that were printed and parsed are resolved as they were before: TypesParsed returns true and leaves its arguments as they were. No condition but that the listed variables of the library hold what the program's text lays (tied by the card).
-/
import Derived.Test.YtgcbdhnkigmfpaaGreatDoorPx
import Derived.Test.YtgcbdhnkigmfpaaGreatDoorRows
import Derived.Test.YtgcbdhnkigmfpaaGreatDoorCards
import Derived.Test.YtgcbdhnkigmfpaaGreatDoorTie
import Derived.SevenTiedAt
import Derived.JoinedOf
import Derived.LaidLaws
namespace Go.Proofs.YtgcbdhnkigmfpaaGreatDoor.typesParsed
open Go.ChangeShapes Go.WideShapes Go.ChangeAt Go.RowKit
set_option linter.unusedVariables false

theorem own : ownKnob Tryz.prog.godebug = none := by kernel_rfl
theorem fine : Go.V.Fine Tryz.prog := Go.V.fine_of (by kernel_rfl) (by kernel_rfl) (by kernel_rfl)

set_option maxRecDepth 100000 in
theorem lifted (os : Os) (started : os.Started) (H : Type) (enc : TypeId × Value → H) :
    ReturnsInHanded {} Tryz.checked os 3 .any (fun w args => (Rows.typesParsedSpec.pre enc Tryz.prog Tryz.f3 [] false w args ∧ laidMetH Tryz.prog Go.V.Ty.laidL w) ∧ sizedMet enc Tryz.prog Tryz.f3 (OpenSpec.ofChange Rows.typesParsedSpec) false w args) (Rows.typesParsedSpec.post enc Tryz.prog Tryz.f3 false true false false) := by
  refine returnsInHanded_of_change_and (C := Tryz.checked) (X := fun w _ => laidMetH Tryz.prog Go.V.Ty.laidL w) (fun _ _ _ hh h => laidMetH.of_heap hh h) own started (by kernel_rfl) Tryz.func3
    (ChangeSpec.witness_shaped (enc := enc) (C := Tryz.checked) (os := os) (X := fun w _ => laidMetH Tryz.prog Go.V.Ty.laidL w) false (Go.V.Ty.laidWorld os) #[.agg #[.string ⟨#[]⟩, .slice none 0 0, .string ⟨#[]⟩, .int .i64 0, .slice none 0 0, .slice none 0 0]] 8 rfl (World.shaped_of_RefB (by kernel_rfl) (by kernel_rfl)) (by kernel_rfl) (by kernel_rfl) (by kernel_rfl) (Go.V.Ty.laid_met os _)) ?_
  intro W base args ds gs before hval0 hW hcnd hwt hL _
  exact Go.V.law_calls (n := 8) (ss := [Go.V.Ty.shGram]) (tb := 4) (handsOn := false) fine Tryz.func3 rfl (by kernel_rfl) (Go.V.params_lt (by kernel_rfl)) (by kernel_rfl) rfl Tryz.underlying4 rfl
    (fun ds hl => match ds, hl with | [_], _ => rfl) Go.V.Ty.parsed_all W (Go.V.Ty.glo_of_laid hL) base args ds gs before hval0 hW hwt

theorem over : Rows.typesParsedRow.holds Tryz.pinned (OpenSpec.ofChange Rows.typesParsedSpec) :=
  OpenClaim.holds_of_wide 3 Tryz.f3 rfl rfl rfl rfl rfl rfl rfl ⟨rfl, rfl, rfl, rfl, rfl⟩ rfl rfl rfl rfl rfl (by kernel_rfl) Tryz.func3 (by kernel_rfl)
    (of_decide_eq_true (by kernel_rfl)) (by unfold Func.isWrapper; first | (rw [if_pos (by decide +kernel)]; kernel_rfl) | (rw [if_neg (by decide +kernel)]; exact ⟨rfl, rfl⟩))
    (fun os started H enc _ => lifted os started H enc)

theorem noStand : (Tryz.f3.params.toList.all fun t => Tryz.prog.wantsStandIn t == false) = true := by kernel_rfl
theorem proved : Rows.TypesParsedCardSaid :=
  Claim7.holds_tied_plain_at .later [] [.data, .data, .data, .sentinel, .sentinel, .listed, .data] true (true, "0ac8f1cd5ee8bf571c6cdb584230cc85c02a21174df919119c112241a76c58ac") true
    over (fun _ h => by cases h) (by kernel_rfl) (fun _ h => by cases h) typesParsed_row_tie rfl ⟨rfl, rfl⟩ (by kernel_rfl) rfl
    (fun f fn hf hfn => by
      obtain rfl : f = 3 := Option.some.inj ((show Tryz.prog.funcNamed "hansard/hansardlaw26.TypesParsed" = some 3 by kernel_rfl).symm.trans hf) |>.symm
      obtain rfl : fn = Tryz.f3 := (Option.some.inj (Tryz.func3.symm.trans hfn)).symm
      exact ⟨by kernel_rfl, fun j t ht => by
        have h := List.all_eq_true.1 noStand t (List.mem_of_getElem? (by rw [Array.getElem?_toList]; exact ht))
        exact beq_iff_eq.1 h⟩)
    (by kernel_rfl)
#print axioms proved
end Go.Proofs.YtgcbdhnkigmfpaaGreatDoor.typesParsed
