/-
  Print agrees with the specification: GrammarPrintSpec returns true and leaves its argument as it was. No condition but that the listed variables of the library hold what the program's text lays (tied by the card).
-/
import Derived.Test.YtiolflfjekiboaaGreatDoorHm
import Derived.Test.YtiolflfjekiboaaGreatDoorRows
import Derived.Test.YtiolflfjekiboaaGreatDoorCards
import Derived.Test.YtiolflfjekiboaaGreatDoorTie
import Derived.SevenTiedAt
import Derived.JoinedOf
namespace Go.Proofs.YtiolflfjekiboaaGreatDoor.grammarPrintSpec
open Go.ChangeShapes Go.WideShapes Go.ChangeAt Go.RowKit
set_option linter.unusedVariables false

theorem own : ownKnob Tryz.prog.godebug = none := by kernel_rfl
theorem fine : Go.V.Fine Tryz.prog := Go.V.fine_of (by kernel_rfl) (by kernel_rfl) (by kernel_rfl)

set_option maxRecDepth 100000 in
theorem lifted (os : Os) (started : os.Started) (H : Type) (enc : TypeId × Value → H) :
    ReturnsInHanded {} Tryz.checked os 4 .any (fun w args => (Rows.grammarPrintSpecSpec.pre enc Tryz.prog Tryz.f4 [] false w args ∧ laidMetH Tryz.prog Go.V.Lx.laidL w) ∧ sizedMet enc Tryz.prog Tryz.f4 (OpenSpec.ofChange Rows.grammarPrintSpecSpec) false w args) (Rows.grammarPrintSpecSpec.post enc Tryz.prog Tryz.f4 false true false false) := by
  refine returnsInHanded_of_change_and (C := Tryz.checked) (X := fun w _ => laidMetH Tryz.prog Go.V.Lx.laidL w) (fun _ _ _ hh h => laidMetH.of_heap hh h) own started (by kernel_rfl) Tryz.func4
    (ChangeSpec.witness_at (enc := enc) (C := Tryz.checked) (os := os) (X := fun w _ => laidMetH Tryz.prog Go.V.Lx.laidL w) false (Go.V.Lx.laidWorld os) #[.agg #[.string ⟨#[]⟩, .slice none 0 0, .string ⟨#[]⟩, .int .i64 0, .slice none 0 0, .slice none 0 0]] 8 rfl (by kernel_rfl) (by kernel_rfl) (by kernel_rfl) (by kernel_rfl) (by kernel_rfl) (Go.V.Lx.laid_met os _)) ?_
  intro W base args ds gs before hval0 hW hcnd hwt hL _
  exact Go.V.law_calls (n := 8) (ss := [Go.V.Gr.shGram]) (tb := 4) (handsOn := false) fine Tryz.func4 rfl (by kernel_rfl) (Go.V.params_lt (by kernel_rfl)) (by kernel_rfl) rfl Tryz.underlying4 rfl
    (fun ds hl => match ds, hl with | [_], _ => rfl) Go.V.Gr.printSpec_all W (Go.V.Lx.glo_of_laid hL) base args ds gs before hval0 hW hwt

theorem over : Rows.grammarPrintSpecRow.holds Tryz.pinned (OpenSpec.ofChange Rows.grammarPrintSpecSpec) :=
  OpenClaim.holds_of_wide 4 Tryz.f4 rfl rfl rfl rfl rfl rfl rfl ⟨rfl, rfl, rfl, rfl, rfl⟩ rfl rfl rfl rfl rfl (by kernel_rfl) Tryz.func4 (by kernel_rfl)
    (of_decide_eq_true (by kernel_rfl)) (by unfold Func.isWrapper; first | (rw [if_pos (by decide +kernel)]; kernel_rfl) | (rw [if_neg (by decide +kernel)]; exact ⟨rfl, rfl⟩))
    (fun os started H enc _ => lifted os started H enc)

theorem noStand : (Tryz.f4.params.toList.all fun t => Tryz.prog.wantsStandIn t == false) = true := by kernel_rfl
theorem proved : Rows.GrammarPrintSpecCardSaid :=
  Claim7.holds_tied_plain_at .later [] [.data, .data, .data, .sentinel, .sentinel] true (true, "43123bcce92733a83bfe6fe4a667aa00c4669e4a910df4de87353245979eca36") true
    over (fun _ h => by cases h) (by kernel_rfl) (fun _ h => by cases h) grammarPrintSpec_row_tie rfl ⟨rfl, rfl⟩ (by kernel_rfl) rfl
    (fun f fn hf hfn => by
      obtain rfl : f = 4 := Option.some.inj ((show Tryz.prog.funcNamed "hansard/hansardlaw25.GrammarPrintSpec" = some 4 by kernel_rfl).symm.trans hf) |>.symm
      obtain rfl : fn = Tryz.f4 := (Option.some.inj (Tryz.func4.symm.trans hfn)).symm
      exact ⟨by kernel_rfl, fun j t ht => by
        have h := List.all_eq_true.1 noStand t (List.mem_of_getElem? (by rw [Array.getElem?_toList]; exact ht))
        exact beq_iff_eq.1 h⟩)
    (by kernel_rfl)
#print axioms proved
end Go.Proofs.YtiolflfjekiboaaGreatDoor.grammarPrintSpec
