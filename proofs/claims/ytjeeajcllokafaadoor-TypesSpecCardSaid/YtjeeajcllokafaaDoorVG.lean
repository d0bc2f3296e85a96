/-
  The laid variables of packages, by the block: strings.asciiSpace.
-/
import Derived.Test.YtjeeajcllokafaaDoorV0
import Derived.Lib.LaidTab
import Derived.Lib.Space
namespace Go.V
def glob : Nat → Option D := fun _ => none
def globC : Nat → Option (Array Value) := fun g => if g = 0 then some (Lib.asciiSpaceTab.map fun z => Value.int .u8 z).toArray else none
end Go.V
