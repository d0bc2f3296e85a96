/-
  Resolve and Check match the specification: TypesSpec returns true and leaves its arguments as they were. No condition but that the listed variables of the library hold what the program's text lays (tied by the card).
-/
import Derived.Test.YtjeeajcllokafaaDoorRi
import Derived.Test.YtjeeajcllokafaaDoorRows
import Derived.Test.YtjeeajcllokafaaDoorCards
import Derived.Test.YtjeeajcllokafaaDoorTie
import Derived.SevenTiedAt
import Derived.JoinedOf
import Derived.LaidLaws
namespace Go.Proofs.YtjeeajcllokafaaDoor.typesSpec
open Go.ChangeShapes Go.WideShapes Go.ChangeAt Go.RowKit
set_option linter.unusedVariables false

theorem own : ownKnob Tryd.prog.godebug = none := by kernel_rfl
theorem fine : Go.V.Fine Tryd.prog := Go.V.fine_of (by kernel_rfl) (by kernel_rfl) (by kernel_rfl)

set_option maxRecDepth 100000 in
theorem lifted (os : Os) (started : os.Started) (H : Type) (enc : TypeId × Value → H) :
    ReturnsInHanded {} Tryd.checked os 3 .any (fun w args => (Rows.typesSpecSpec.pre enc Tryd.prog Tryd.f3 [] false w args ∧ laidMetH Tryd.prog Go.V.Ty.laidL w) ∧ sizedMet enc Tryd.prog Tryd.f3 (OpenSpec.ofChange Rows.typesSpecSpec) false w args) (Rows.typesSpecSpec.post enc Tryd.prog Tryd.f3 false true false false) := by
  refine returnsInHanded_of_change_and (C := Tryd.checked) (X := fun w _ => laidMetH Tryd.prog Go.V.Ty.laidL w) (fun _ _ _ hh h => laidMetH.of_heap hh h) own started (by kernel_rfl) Tryd.func3
    (ChangeSpec.witness_shaped (enc := enc) (C := Tryd.checked) (os := os) (X := fun w _ => laidMetH Tryd.prog Go.V.Ty.laidL w) false (Go.V.Ty.laidWorld os) #[.agg #[.string ⟨#[]⟩, .slice none 0 0, .string ⟨#[]⟩, .int .i64 0, .slice none 0 0, .slice none 0 0]] 8 rfl (World.shaped_of_RefB (by kernel_rfl) (by kernel_rfl)) (by kernel_rfl) (by kernel_rfl) (by kernel_rfl) (Go.V.Ty.laid_met os _)) ?_
  intro W base args ds gs before hval0 hW hcnd hwt hL _
  exact Go.V.law_calls (n := 8) (ss := [Go.V.Ty.shGram]) (tb := 4) (handsOn := false) fine Tryd.func3 rfl (by kernel_rfl) (Go.V.params_lt (by kernel_rfl)) (by kernel_rfl) rfl Tryd.underlying4 rfl
    (fun ds hl => match ds, hl with | [_], _ => rfl) Go.V.Ty.spec_all W (Go.V.Ty.glo_of_laid hL) base args ds gs before hval0 hW hwt

theorem over : Rows.typesSpecRow.holds Tryd.pinned (OpenSpec.ofChange Rows.typesSpecSpec) :=
  OpenClaim.holds_of_wide 3 Tryd.f3 rfl rfl rfl rfl rfl rfl rfl ⟨rfl, rfl, rfl, rfl, rfl⟩ rfl rfl rfl rfl rfl (by kernel_rfl) Tryd.func3 (by kernel_rfl)
    (of_decide_eq_true (by kernel_rfl)) (by unfold Func.isWrapper; first | (rw [if_pos (by decide +kernel)]; kernel_rfl) | (rw [if_neg (by decide +kernel)]; exact ⟨rfl, rfl⟩))
    (fun os started H enc _ => lifted os started H enc)

theorem noStand : (Tryd.f3.params.toList.all fun t => Tryd.prog.wantsStandIn t == false) = true := by kernel_rfl
theorem proved : Rows.TypesSpecCardSaid :=
  Claim7.holds_tied_plain_at .later [] [.listed, .data] true (true, "a054027278d6f6b1368d18949871e1da8d3683710283fb43ca304176fdcd037a") false
    over (fun _ h => by cases h) (by kernel_rfl) (fun _ h => by cases h) typesSpec_row_tie rfl ⟨rfl, rfl⟩ (by kernel_rfl) rfl
    (fun f fn hf hfn => by
      obtain rfl : f = 3 := Option.some.inj ((show Tryd.prog.funcNamed "hansard/hansardlaw26.TypesSpec" = some 3 by kernel_rfl).symm.trans hf) |>.symm
      obtain rfl : fn = Tryd.f3 := (Option.some.inj (Tryd.func3.symm.trans hfn)).symm
      exact ⟨by kernel_rfl, fun j t ht => by
        have h := List.all_eq_true.1 noStand t (List.mem_of_getElem? (by rw [Array.getElem?_toList]; exact ht))
        exact beq_iff_eq.1 h⟩)
    (by kernel_rfl)
#print axioms proved
end Go.Proofs.YtjeeajcllokafaaDoor.typesSpec
