/-
  For every source, Lex agrees with the specification: LexSpec returns true and leaves its argument as it was. No condition but that the listed variables of the library hold what the program's text lays (tied by the card).
-/
import Derived.Test.YtbnniokcdilpgaaDoorLx
import Derived.Test.YtbnniokcdilpgaaDoorRows
import Derived.Test.YtbnniokcdilpgaaDoorCards
import Derived.Test.YtbnniokcdilpgaaDoorTie
import Derived.SevenTiedAt
import Derived.JoinedOf
namespace Go.Proofs.YtbnniokcdilpgaaDoor.lexSpec
open Go.ChangeShapes Go.WideShapes Go.ChangeAt Go.RowKit
set_option linter.unusedVariables false

theorem own : ownKnob Tryd.prog.godebug = none := by kernel_rfl
theorem fine : Go.V.Fine Tryd.prog := Go.V.fine_of (by kernel_rfl) (by kernel_rfl) (by kernel_rfl)

set_option maxRecDepth 100000 in
theorem lifted (os : Os) (started : os.Started) (H : Type) (enc : TypeId × Value → H) :
    ReturnsInHanded {} Tryd.checked os 3 .any (fun w args => (Rows.lexSpecSpec.pre enc Tryd.prog Tryd.f3 [] false w args ∧ laidMetH Tryd.prog Go.V.Lx.laidL w) ∧ sizedMet enc Tryd.prog Tryd.f3 (OpenSpec.ofChange Rows.lexSpecSpec) false w args) (Rows.lexSpecSpec.post enc Tryd.prog Tryd.f3 false true false false) := by
  refine returnsInHanded_of_change_and (C := Tryd.checked) (X := fun w _ => laidMetH Tryd.prog Go.V.Lx.laidL w) (fun _ _ _ hh h => laidMetH.of_heap hh h) own started (by kernel_rfl) Tryd.func3
    (ChangeSpec.witness_at (enc := enc) (C := Tryd.checked) (os := os) (X := fun w _ => laidMetH Tryd.prog Go.V.Lx.laidL w) false (Go.V.Lx.laidWorld os) #[.string ⟨#[]⟩] 8 rfl (by kernel_rfl) (by kernel_rfl) (by kernel_rfl) (by kernel_rfl) (by kernel_rfl) (Go.V.Lx.laid_met os _)) ?_
  intro W base args ds gs before hval0 hW hcnd hwt hL _
  exact Go.V.law_calls (n := 8) (ss := [.str]) (tb := 4) (handsOn := false) fine Tryd.func3 rfl (by kernel_rfl) (Go.V.params_lt (by kernel_rfl)) (by kernel_rfl) rfl Tryd.underlying4 rfl
    (fun ds hl => match ds, hl with | [_], _ => rfl) Go.V.Lx.lexSpec_all W (Go.V.Lx.glo_of_laid hL) base args ds gs before hval0 hW hwt

theorem over : Rows.lexSpecRow.holds Tryd.pinned (OpenSpec.ofChange Rows.lexSpecSpec) :=
  OpenClaim.holds_of_wide 3 Tryd.f3 rfl rfl rfl rfl rfl rfl rfl ⟨rfl, rfl, rfl, rfl, rfl⟩ rfl rfl rfl rfl rfl (by kernel_rfl) Tryd.func3 (by kernel_rfl)
    (of_decide_eq_true (by kernel_rfl)) (by unfold Func.isWrapper; first | (rw [if_pos (by decide +kernel)]; kernel_rfl) | (rw [if_neg (by decide +kernel)]; exact ⟨rfl, rfl⟩))
    (fun os started H enc _ => lifted os started H enc)

theorem noStand : (Tryd.f3.params.toList.all fun t => Tryd.prog.wantsStandIn t == false) = true := by kernel_rfl
theorem proved : Rows.LexSpecCardSaid :=
  Claim7.holds_tied_plain_at .later [] [.data, .data, .data, .sentinel, .sentinel] true (true, "56136fef38812d18ba538e1165c66363f05c2ad1d13f21c53a4745f2a029bc8f") true
    over (fun _ h => by cases h) (by kernel_rfl) (fun _ h => by cases h) lexSpec_row_tie rfl ⟨rfl, rfl⟩ (by kernel_rfl) rfl
    (fun f fn hf hfn => by
      obtain rfl : f = 3 := Option.some.inj ((show Tryd.prog.funcNamed "hansard/hansardlaw03.LexSpec" = some 3 by kernel_rfl).symm.trans hf) |>.symm
      obtain rfl : fn = Tryd.f3 := (Option.some.inj (Tryd.func3.symm.trans hfn)).symm
      exact ⟨by kernel_rfl, fun j t ht => by
        have h := List.all_eq_true.1 noStand t (List.mem_of_getElem? (by rw [Array.getElem?_toList]; exact ht))
        exact beq_iff_eq.1 h⟩)
    (by kernel_rfl)
#print axioms proved
end Go.Proofs.YtbnniokcdilpgaaDoor.lexSpec
