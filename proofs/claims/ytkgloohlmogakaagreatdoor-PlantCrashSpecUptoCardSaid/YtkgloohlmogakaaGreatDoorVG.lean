/- Plain laws: VG. -/
import Derived.Test.YtkgloohlmogakaaGreatDoorV0
import Derived.Lib.LaidTab
import Derived.Lib.Space
import GoSem.PinnedTables
set_option linter.all false
set_option maxHeartbeats 8000000
namespace Go.V
def afy:DataW Unit->D
 | .lit (.int k n)=> .int k n
 |_=> .undef
def afz:DataW Unit->List D
 | .agg l=>l.map afy
 |_=>[]
def GS:D:=.agg (afz Go.Pinned.utf8First)
def DV:D:=.agg ([128,191,160,191,128,159,144,191,128,143,0,0,0,0,0,0,0,0,0,0,0,0,0,0,0,0,0,0,0,0,0,0].map fun n:Int=>D.int .u8 n)
def Bt:Nat->Option D:=fun g=>if g=3 then some GS else if g=4 then some DV else none
def Ls:Nat->Option (Array Value):=fun g=>if g=0 then some (Lib.asciiSpaceTab.map fun z=>Value.int .u8 z).toArray else none
end Go.V
