/-
  The laid variables of packages, by the block: strings.asciiSpace; internal/strconv.uint64pow10; strconv.ErrSyntax, strconv.ErrRange: of each, that it is an error of a type.
-/
import Derived.Test.YtgcbdhnkigmfpaaGreatDoorV0
import Derived.Lib.ItoaNum
import Derived.Lib.LaidTab
import Derived.Lib.Space
namespace Go.V
def glob : Nat → Option D := fun g => if g = 4 then some (.ifc 211 .undef) else if g = 5 then some (.ifc 211 .undef) else none
def globC : Nat → Option (Array Value) := fun g => if g = 0 then some (Lib.asciiSpaceTab.map fun z => Value.int .u8 z).toArray else if g = 2 then some (Lib.pow10Tab.map fun z => Value.int .u64 z).toArray else none
end Go.V
