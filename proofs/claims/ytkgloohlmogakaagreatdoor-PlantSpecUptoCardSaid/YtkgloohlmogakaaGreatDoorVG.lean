/- Lemmas on plain data and programs: part VG. -/
import Derived.Test.YtkgloohlmogakaaGreatDoorV0
import Derived.Lib.LaidTab
import Derived.Lib.Space
import GoSem.PinnedTables
set_option linter.all false
set_option maxHeartbeats 8000000
namespace Go.V
def aeX:DataW Unit->D
 | .lit (.int k n)=> .int k n
 |_=> .undef
def aeY:DataW Unit->List D
 | .agg l=>l.map aeX
 |_=>[]
def GC:D:=.agg (aeY Go.Pinned.utf8First)
def DH:D:=.agg ([128,191,160,191,128,159,144,191,128,143,0,0,0,0,0,0,0,0,0,0,0,0,0,0,0,0,0,0,0,0,0,0].map fun n:Int=>D.int .u8 n)
def Bc:Nat->Option D:=fun g=>if g=3 then some GC else if g=4 then some DH else none
def KZ:Nat->Option (Array Value):=fun g=>if g=0 then some (Lib.asciiSpaceTab.map fun z=>Value.int .u8 z).toArray else none
end Go.V
