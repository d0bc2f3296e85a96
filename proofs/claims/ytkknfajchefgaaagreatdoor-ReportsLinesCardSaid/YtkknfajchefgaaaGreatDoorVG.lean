/- Lemmas on plain data and programs: part VG. -/
import Derived.Test.YtkknfajchefgaaaGreatDoorV0
import Derived.Lib.LaidTab
import Derived.Lib.Space
import Derived.Lib.ItoaNum
import GoSem.PinnedTables
set_option linter.all false
set_option maxHeartbeats 8000000
namespace Go.V
def anU:DataW Unit->D
 | .lit (.int k n)=> .int k n
 |_=> .undef
def anV:DataW Unit->List D
 | .agg l=>l.map anU
 |_=>[]
def MW:D:=.agg (anV Go.Pinned.utf8First)
def H9:D:=.agg ([128,191,160,191,128,159,144,191,128,143,0,0,0,0,0,0,0,0,0,0,0,0,0,0,0,0,0,0,0,0,0,0].map fun n:Int=>D.int .u8 n)
def E5:Nat->Option D:=fun g=>if g=1 then some MW else if g=2 then some H9 else if g=5 then some (.bK 426 .undef)else if g=6 then some (.bK 426 .undef)else none
def SH:Nat->Option (Array Value):=fun g=>if g=4 then some (Lib.asciiSpaceTab.map fun z=>Value.int .u8 z).toArray else if g=3 then some (Lib.pow10Tab.map fun z=>Value.int .u64 z).toArray else none
end Go.V
