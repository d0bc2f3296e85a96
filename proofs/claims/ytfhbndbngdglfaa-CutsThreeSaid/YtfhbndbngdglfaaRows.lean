/-
  No cell of these rows narrows 'for every input' (looked for: loops, veiled, ifaces, maps, wideKeys, modest, calm, conditions, laid).
  DERIVED. THE GIVEN ROWS OF THIS SEAT. 6 by the template 'for every input the law returns true; each argument reads behind the call as it read before'; 0 by the template 'total and deterministic' (their statements: YtfhbndbngdglfaaTotals.lean).
  GIVEN WITH THE SEED: the statements are not yours to turn. If you find one false, say at which input.
  Laid BY PROGRAM, IN A SANDBOX (cutbox-rows.mjs): the forced cells as the released guide's own fill.sh prints them over the translation db67ab78a7221eac… (all of the seat's roots in one cut). By AI agents, Wed Nov 11 2026. No macro, syntax, notation, axiom, sorry.
-/
import Derived.Test.YtfhbndbngdglfaaChecked
import GoSem.Claim
import GoSem.ClaimJoined
import GoSem.ClaimMapViews
import Derived.JoinedTies
import Derived.KernelRfl
namespace Go.Proofs.Ytfhbndbngdglfaa
/- THE CELL 'sum', in the pinned program and in every row, IS THE sha256 OF THE DUMP (.gsa) THAT YtfhbndbngdglfaaProg.lean LOADS. Nothing in Lean hashes anything: it is a label: what it is worth is what the hold of that sum in a sandbox is worth. -/
noncomputable def Try.pinned : Pinned := { name := "ytfhbndbngdglfaa", sum := "db67ab78a7221eac9ef86a09470aba573fe9cd8cbebb8be1cb958403e66e1415", checked := Try.checked }
namespace Rows
def none {H : Type} : Left H := { results := [], args := [] }

/-- 'hansardlaw15.CutsSpec': WHATEVER THE INPUT: true; the input reads as it did. -/
def cutsSpecSpec : ChangeSpec := { name := "cutsSpec", fn := fun _ => fun
  | [d1, d2, d3] => { results := [.lit (.bool true)], args := [d1, d2, d3] }
  | _ => none }
def cutsSpecRow : OpenClaim := { program := "ytfhbndbngdglfaa", sum := "db67ab78a7221eac9ef86a09470aba573fe9cd8cbebb8be1cb958403e66e1415", func := "hansard/hansardlaw15.CutsSpec", spec := "cutsSpec", unfollowed := true, recurses := true, apart := false }
def CutsSpecSaid : Prop := cutsSpecRow.holds Try.pinned (OpenSpec.ofChange cutsSpecSpec)

/-- ITS FALSE NEIGHBOUR: 'it returns false'. Refute it at one input. -/
def cutsSpecWrong : ChangeSpec := { name := "cutsSpec", fn := fun _ => fun
  | [d1, d2, d3] => { results := [.lit (.bool false)], args := [d1, d2, d3] }
  | _ => none }
def CutsSpecWrongFalsely : Prop := cutsSpecRow.holds Try.pinned (OpenSpec.ofChange cutsSpecWrong)

/-- 'hansardlaw15.CutsThenSpec': WHATEVER THE INPUT: true; the input reads as it did. -/
def cutsThenSpecSpec : ChangeSpec := { name := "cutsThenSpec", fn := fun _ => fun
  | [d1, d2] => { results := [.lit (.bool true)], args := [d1, d2] }
  | _ => none }
def cutsThenSpecRow : OpenClaim := { program := "ytfhbndbngdglfaa", sum := "db67ab78a7221eac9ef86a09470aba573fe9cd8cbebb8be1cb958403e66e1415", func := "hansard/hansardlaw15.CutsThenSpec", spec := "cutsThenSpec", unfollowed := true, recurses := true, apart := false }
def CutsThenSpecSaid : Prop := cutsThenSpecRow.holds Try.pinned (OpenSpec.ofChange cutsThenSpecSpec)

/-- ITS FALSE NEIGHBOUR: 'it returns false'. Refute it at one input. -/
def cutsThenSpecWrong : ChangeSpec := { name := "cutsThenSpec", fn := fun _ => fun
  | [d1, d2] => { results := [.lit (.bool false)], args := [d1, d2] }
  | _ => none }
def CutsThenSpecWrongFalsely : Prop := cutsThenSpecRow.holds Try.pinned (OpenSpec.ofChange cutsThenSpecWrong)

/-- 'hansardlaw15.CutsBack': WHATEVER THE INPUT: true; the input reads as it did. -/
def cutsBackSpec : ChangeSpec := { name := "cutsBack", fn := fun _ => fun
  | [d1, d2, d3] => { results := [.lit (.bool true)], args := [d1, d2, d3] }
  | _ => none }
def cutsBackRow : OpenClaim := { program := "ytfhbndbngdglfaa", sum := "db67ab78a7221eac9ef86a09470aba573fe9cd8cbebb8be1cb958403e66e1415", func := "hansard/hansardlaw15.CutsBack", spec := "cutsBack", unfollowed := true, recurses := true, apart := false }
def CutsBackSaid : Prop := cutsBackRow.holds Try.pinned (OpenSpec.ofChange cutsBackSpec)

/-- ITS FALSE NEIGHBOUR: 'it returns false'. Refute it at one input. -/
def cutsBackWrong : ChangeSpec := { name := "cutsBack", fn := fun _ => fun
  | [d1, d2, d3] => { results := [.lit (.bool false)], args := [d1, d2, d3] }
  | _ => none }
def CutsBackWrongFalsely : Prop := cutsBackRow.holds Try.pinned (OpenSpec.ofChange cutsBackWrong)

/-- 'hansardlaw15.CutsThen': WHATEVER THE INPUT: true; the input reads as it did. -/
def cutsThenSpec : ChangeSpec := { name := "cutsThen", fn := fun _ => fun
  | [d1, d2, d3] => { results := [.lit (.bool true)], args := [d1, d2, d3] }
  | _ => none }
def cutsThenRow : OpenClaim := { program := "ytfhbndbngdglfaa", sum := "db67ab78a7221eac9ef86a09470aba573fe9cd8cbebb8be1cb958403e66e1415", func := "hansard/hansardlaw15.CutsThen", spec := "cutsThen", unfollowed := true, recurses := true, apart := false }
def CutsThenSaid : Prop := cutsThenRow.holds Try.pinned (OpenSpec.ofChange cutsThenSpec)

/-- ITS FALSE NEIGHBOUR: 'it returns false'. Refute it at one input. -/
def cutsThenWrong : ChangeSpec := { name := "cutsThen", fn := fun _ => fun
  | [d1, d2, d3] => { results := [.lit (.bool false)], args := [d1, d2, d3] }
  | _ => none }
def CutsThenWrongFalsely : Prop := cutsThenRow.holds Try.pinned (OpenSpec.ofChange cutsThenWrong)

/-- 'hansardlaw15.CutsThree': WHATEVER THE INPUT: true; the input reads as it did. -/
def cutsThreeSpec : ChangeSpec := { name := "cutsThree", fn := fun _ => fun
  | [d1, d2, d3] => { results := [.lit (.bool true)], args := [d1, d2, d3] }
  | _ => none }
def cutsThreeRow : OpenClaim := { program := "ytfhbndbngdglfaa", sum := "db67ab78a7221eac9ef86a09470aba573fe9cd8cbebb8be1cb958403e66e1415", func := "hansard/hansardlaw15.CutsThree", spec := "cutsThree", unfollowed := true, recurses := true, apart := false }
def CutsThreeSaid : Prop := cutsThreeRow.holds Try.pinned (OpenSpec.ofChange cutsThreeSpec)

/-- ITS FALSE NEIGHBOUR: 'it returns false'. Refute it at one input. -/
def cutsThreeWrong : ChangeSpec := { name := "cutsThree", fn := fun _ => fun
  | [d1, d2, d3] => { results := [.lit (.bool false)], args := [d1, d2, d3] }
  | _ => none }
def CutsThreeWrongFalsely : Prop := cutsThreeRow.holds Try.pinned (OpenSpec.ofChange cutsThreeWrong)

/-- 'hansardlaw15.CutsWhole': WHATEVER THE INPUT: true; the input reads as it did. -/
def cutsWholeSpec : ChangeSpec := { name := "cutsWhole", fn := fun _ => fun
  | [d1, d2] => { results := [.lit (.bool true)], args := [d1, d2] }
  | _ => none }
def cutsWholeRow : OpenClaim := { program := "ytfhbndbngdglfaa", sum := "db67ab78a7221eac9ef86a09470aba573fe9cd8cbebb8be1cb958403e66e1415", func := "hansard/hansardlaw15.CutsWhole", spec := "cutsWhole", unfollowed := true, recurses := true, apart := false }
def CutsWholeSaid : Prop := cutsWholeRow.holds Try.pinned (OpenSpec.ofChange cutsWholeSpec)

/-- ITS FALSE NEIGHBOUR: 'it returns false'. Refute it at one input. -/
def cutsWholeWrong : ChangeSpec := { name := "cutsWhole", fn := fun _ => fun
  | [d1, d2] => { results := [.lit (.bool false)], args := [d1, d2] }
  | _ => none }
def CutsWholeWrongFalsely : Prop := cutsWholeRow.holds Try.pinned (OpenSpec.ofChange cutsWholeWrong)

/- THE SECOND FORM. 'bulk': how many values and letters a reading holds, each counted each time it is reached (what is shared counts as often as it is met; a slice's spare places count too). A statement '..UptoSaid' is the law's where the arguments, and the package variables that the reading takes, are together of bulk at most 1048576: NARROWER than '..Said'. Prove '..Said' where nothing that the law and all that it calls make is longer than what came in: it says more and counts as full. Else prove '..UptoSaid'. A law counts once. -/
mutual
def uptoBulk {H : Type} : DataW H → Nat
  | .lit (.string bytes) => bytes.length + 1
  | .lit _ => 1
  | .nil => 1
  | .ptr d => uptoBulk d + 1
  | .slice elems spare => uptoBulkAll elems + uptoBulkAll spare + 1
  | .agg parts => uptoBulkAll parts + 1
  | .iface _ d => uptoBulk d + 1
  | .map entries => uptoBulkEntries entries + 1
  | .held _ => 1
def uptoBulkAll {H : Type} : List (DataW H) → Nat
  | [] => 0
  | d :: r => uptoBulk d + uptoBulkAll r
def uptoBulkEntries {H : Type} : List (Lit × DataW H) → Nat
  | [] => 0
  | x :: r => uptoBulkEntry x + uptoBulkEntries r
def uptoBulkEntry {H : Type} : Lit × DataW H → Nat
  | (.string bytes, d) => bytes.length + uptoBulk d + 1
  | (_, d) => uptoBulk d + 1
 end
def uptoSmall : (H : Type) → List (DataW H) → Bool := fun _ ds => decide (uptoBulkAll ds ≤ 1048576)
def OpenSpec.upto (s : _root_.Go.ChangeSpec) : _root_.Go.OpenSpec := { _root_.Go.OpenSpec.ofChange s with cond := some uptoSmall }

/-- 'hansardlaw15.CutsSpec', WHERE WHAT IT READS IS OF BULK AT MOST 1048576: true; the input reads as it did. -/
def cutsSpecUptoRow : OpenClaim := { program := "ytfhbndbngdglfaa", sum := "db67ab78a7221eac9ef86a09470aba573fe9cd8cbebb8be1cb958403e66e1415", func := "hansard/hansardlaw15.CutsSpec", spec := "cutsSpec", unfollowed := true, recurses := true, apart := false, narrowed := true }
def CutsSpecUptoSaid : Prop := cutsSpecUptoRow.holds Try.pinned (OpenSpec.upto cutsSpecSpec)

/-- 'hansardlaw15.CutsThenSpec', WHERE WHAT IT READS IS OF BULK AT MOST 1048576: true; the input reads as it did. -/
def cutsThenSpecUptoRow : OpenClaim := { program := "ytfhbndbngdglfaa", sum := "db67ab78a7221eac9ef86a09470aba573fe9cd8cbebb8be1cb958403e66e1415", func := "hansard/hansardlaw15.CutsThenSpec", spec := "cutsThenSpec", unfollowed := true, recurses := true, apart := false, narrowed := true }
def CutsThenSpecUptoSaid : Prop := cutsThenSpecUptoRow.holds Try.pinned (OpenSpec.upto cutsThenSpecSpec)

/-- 'hansardlaw15.CutsBack', WHERE WHAT IT READS IS OF BULK AT MOST 1048576: true; the input reads as it did. -/
def cutsBackUptoRow : OpenClaim := { program := "ytfhbndbngdglfaa", sum := "db67ab78a7221eac9ef86a09470aba573fe9cd8cbebb8be1cb958403e66e1415", func := "hansard/hansardlaw15.CutsBack", spec := "cutsBack", unfollowed := true, recurses := true, apart := false, narrowed := true }
def CutsBackUptoSaid : Prop := cutsBackUptoRow.holds Try.pinned (OpenSpec.upto cutsBackSpec)

/-- 'hansardlaw15.CutsThen', WHERE WHAT IT READS IS OF BULK AT MOST 1048576: true; the input reads as it did. -/
def cutsThenUptoRow : OpenClaim := { program := "ytfhbndbngdglfaa", sum := "db67ab78a7221eac9ef86a09470aba573fe9cd8cbebb8be1cb958403e66e1415", func := "hansard/hansardlaw15.CutsThen", spec := "cutsThen", unfollowed := true, recurses := true, apart := false, narrowed := true }
def CutsThenUptoSaid : Prop := cutsThenUptoRow.holds Try.pinned (OpenSpec.upto cutsThenSpec)

/-- 'hansardlaw15.CutsThree', WHERE WHAT IT READS IS OF BULK AT MOST 1048576: true; the input reads as it did. -/
def cutsThreeUptoRow : OpenClaim := { program := "ytfhbndbngdglfaa", sum := "db67ab78a7221eac9ef86a09470aba573fe9cd8cbebb8be1cb958403e66e1415", func := "hansard/hansardlaw15.CutsThree", spec := "cutsThree", unfollowed := true, recurses := true, apart := false, narrowed := true }
def CutsThreeUptoSaid : Prop := cutsThreeUptoRow.holds Try.pinned (OpenSpec.upto cutsThreeSpec)

/-- 'hansardlaw15.CutsWhole', WHERE WHAT IT READS IS OF BULK AT MOST 1048576: true; the input reads as it did. -/
def cutsWholeUptoRow : OpenClaim := { program := "ytfhbndbngdglfaa", sum := "db67ab78a7221eac9ef86a09470aba573fe9cd8cbebb8be1cb958403e66e1415", func := "hansard/hansardlaw15.CutsWhole", spec := "cutsWhole", unfollowed := true, recurses := true, apart := false, narrowed := true }
def CutsWholeUptoSaid : Prop := cutsWholeUptoRow.holds Try.pinned (OpenSpec.upto cutsWholeSpec)

end Rows
end Go.Proofs.Ytfhbndbngdglfaa
