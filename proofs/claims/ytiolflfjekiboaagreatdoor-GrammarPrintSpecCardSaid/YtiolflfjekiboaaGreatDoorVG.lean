/-
  The laid variables of packages, by the block: strconv.ErrSyntax, strconv.ErrRange: of each, that it is an error of a type; internal/strconv.uint64pow10.
-/
import Derived.Test.YtiolflfjekiboaaGreatDoorV0
import Derived.Lib.ItoaNum
namespace Go.V
def glob : Nat → Option D := fun g => if g < 2 then some (.ifc 191 .undef) else none
def globC : Nat → Option (Array Value) := fun g => if g = 3 then some (Lib.pow10Tab.map fun z => Value.int .u64 z).toArray else none
end Go.V
