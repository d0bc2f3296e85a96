/-
  Types: TypesSpec of any arguments.
-/
import Derived.Test.YtjeeajcllokafaaDoorRh
import Derived.Test.YtjeeajcllokafaaDoorTz
namespace Go.V.Ty
open Go.Proofs Go.RowKit Go.V.Lx Go.V.Gr

theorem spec_all (xs : List D) (h : AllHave [shGram] xs) : CallsTo Tryd.prog 3 xs (.bool true) := by
  obtain ⟨a, _, rfl, h1, h⟩ := args_cons h
  obtain rfl := args_nil h
  obtain ⟨g, rfl, hg⟩ := has_gram h1
  exact spec_c reach_ok g hg
end Go.V.Ty
