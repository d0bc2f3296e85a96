/-
  The whole original and the whole cut: CutsWhole returns true for all arguments and leaves them as they were. No condition.
-/
import Derived.Test.YtfhbndbngdglfaaCk
import Derived.Test.YtfhbndbngdglfaaRows
namespace Go.Proofs.Ytfhbndbngdglfaa.cutsWhole
open Go.ChangeShapes Go.WideShapes Go.ChangeAt Go.RowKit
set_option linter.unusedVariables false

theorem own : ownKnob Try.prog.godebug = none := by kernel_rfl
theorem fine : Go.V.Fine Try.prog := Go.V.fine_of (by kernel_rfl) (by kernel_rfl) (by kernel_rfl)

set_option maxRecDepth 100000 in
theorem lifted (os : Os) (started : os.Started) (H : Type) (enc : TypeId × Value → H) :
    ReturnsInHanded {} Try.checked os 8 .any (Rows.cutsWholeSpec.pre6 enc Try.prog Try.f8 Rows.cutsWholeRow.domain false) (Rows.cutsWholeSpec.post enc Try.prog Try.f8 false true false false) := by
  refine returnsInHanded_of_change (C := Try.checked) own started (by kernel_rfl) Try.func8
    (ChangeSpec.witness6 (enc := enc) (C := Try.checked) false ⟨#[], #[.slice none 0 0, .int .i64 0], []⟩ 8 (by kernel_rfl) (by kernel_rfl) (by kernel_rfl) (by kernel_rfl)) ?_
  intro W base args ds gs before hval0 hW hcnd _
  exact Go.V.law_calls (n := 8) (ss := [Go.V.Cu.shSpans, .int .i64]) (tb := 4) (handsOn := false) fine Try.func8 rfl (by kernel_rfl) (Go.V.params_lt (by kernel_rfl)) (by kernel_rfl) rfl Try.underlying4 rfl
    (fun ds hl => match ds, hl with | [_, _], _ => rfl) Go.V.Cu.whole_all W base args ds gs before hval0 hW

theorem over : Rows.cutsWholeRow.holds Try.pinned (OpenSpec.ofChange Rows.cutsWholeSpec) :=
  OpenClaim.holds_of_wide 8 Try.f8 rfl rfl rfl rfl rfl rfl rfl ⟨rfl, rfl, rfl, rfl, rfl⟩ rfl rfl rfl rfl rfl (by kernel_rfl) Try.func8 (by kernel_rfl)
    (of_decide_eq_true (by kernel_rfl)) (by unfold Func.isWrapper; first | (rw [if_pos (by decide +kernel)]; kernel_rfl) | (rw [if_neg (by decide +kernel)]; exact ⟨rfl, rfl⟩))
    (fun os started H enc _ => lifted os started H enc)

theorem proved : Rows.CutsWholeSaid := over
#print axioms proved
end Go.Proofs.Ytfhbndbngdglfaa.cutsWhole
