/-
  A beginning of an accepted source is accepted or ends too early: GrammarCut returns true and leaves its arguments as they were. No condition but that the listed variables of the library hold what the program's text lays (tied by the card).
-/
import Derived.Test.YtiolflfjekiboaaGreatDoorHa
import Derived.Test.YtiolflfjekiboaaGreatDoorRows
import Derived.Test.YtiolflfjekiboaaGreatDoorCards
import Derived.Test.YtiolflfjekiboaaGreatDoorTie
import Derived.SevenTiedAt
import Derived.JoinedOf
namespace Go.Proofs.YtiolflfjekiboaaGreatDoor.grammarCut
open Go.ChangeShapes Go.WideShapes Go.ChangeAt Go.RowKit
set_option linter.unusedVariables false

theorem own : ownKnob Tryz.prog.godebug = none := by kernel_rfl
theorem fine : Go.V.Fine Tryz.prog := Go.V.fine_of (by kernel_rfl) (by kernel_rfl) (by kernel_rfl)

set_option maxRecDepth 100000 in
theorem lifted (os : Os) (started : os.Started) (H : Type) (enc : TypeId × Value → H) :
    ReturnsInHanded {} Tryz.checked os 8 .any (fun w args => (Rows.grammarCutSpec.pre enc Tryz.prog Tryz.f8 [] false w args ∧ laidMetH Tryz.prog Go.V.Lx.laidL w) ∧ sizedMet enc Tryz.prog Tryz.f8 (OpenSpec.ofChange Rows.grammarCutSpec) false w args) (Rows.grammarCutSpec.post enc Tryz.prog Tryz.f8 false true false false) := by
  refine returnsInHanded_of_change_and (C := Tryz.checked) (X := fun w _ => laidMetH Tryz.prog Go.V.Lx.laidL w) (fun _ _ _ hh h => laidMetH.of_heap hh h) own started (by kernel_rfl) Tryz.func8
    (ChangeSpec.witness_at (enc := enc) (C := Tryz.checked) (os := os) (X := fun w _ => laidMetH Tryz.prog Go.V.Lx.laidL w) false (Go.V.Lx.laidWorld os) #[.string ⟨#[]⟩, .int .i64 0] 8 rfl (by kernel_rfl) (by kernel_rfl) (by kernel_rfl) (by kernel_rfl) (by kernel_rfl) (Go.V.Lx.laid_met os _)) ?_
  intro W base args ds gs before hval0 hW hcnd hwt hL _
  exact Go.V.law_calls (n := 8) (ss := [.str, .int .i64]) (tb := 4) (handsOn := false) fine Tryz.func8 rfl (by kernel_rfl) (Go.V.params_lt (by kernel_rfl)) (by kernel_rfl) rfl Tryz.underlying4 rfl
    (fun ds hl => match ds, hl with | [_, _], _ => rfl) Go.V.Gr.cut_all W (Go.V.Lx.glo_of_laid hL) base args ds gs before hval0 hW hwt

theorem over : Rows.grammarCutRow.holds Tryz.pinned (OpenSpec.ofChange Rows.grammarCutSpec) :=
  OpenClaim.holds_of_wide 8 Tryz.f8 rfl rfl rfl rfl rfl rfl rfl ⟨rfl, rfl, rfl, rfl, rfl⟩ rfl rfl rfl rfl rfl (by kernel_rfl) Tryz.func8 (by kernel_rfl)
    (of_decide_eq_true (by kernel_rfl)) (by unfold Func.isWrapper; first | (rw [if_pos (by decide +kernel)]; kernel_rfl) | (rw [if_neg (by decide +kernel)]; exact ⟨rfl, rfl⟩))
    (fun os started H enc _ => lifted os started H enc)

theorem noStand : (Tryz.f8.params.toList.all fun t => Tryz.prog.wantsStandIn t == false) = true := by kernel_rfl
theorem proved : Rows.GrammarCutCardSaid :=
  Claim7.holds_tied_plain_at .later [] [.data, .data, .data, .sentinel, .sentinel] true (true, "43123bcce92733a83bfe6fe4a667aa00c4669e4a910df4de87353245979eca36") true
    over (fun _ h => by cases h) (by kernel_rfl) (fun _ h => by cases h) grammarCut_row_tie rfl ⟨rfl, rfl⟩ (by kernel_rfl) rfl
    (fun f fn hf hfn => by
      obtain rfl : f = 8 := Option.some.inj ((show Tryz.prog.funcNamed "hansard/hansardlaw25.GrammarCut" = some 8 by kernel_rfl).symm.trans hf) |>.symm
      obtain rfl : fn = Tryz.f8 := (Option.some.inj (Tryz.func8.symm.trans hfn)).symm
      exact ⟨by kernel_rfl, fun j t ht => by
        have h := List.all_eq_true.1 noStand t (List.mem_of_getElem? (by rw [Array.getElem?_toList]; exact ht))
        exact beq_iff_eq.1 h⟩)
    (by kernel_rfl)
#print axioms proved
end Go.Proofs.YtiolflfjekiboaaGreatDoor.grammarCut
