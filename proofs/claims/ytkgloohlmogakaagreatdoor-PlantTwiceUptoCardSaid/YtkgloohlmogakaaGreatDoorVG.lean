/- The laid variables of packages, by the block: strings.asciiSpace; unicode/utf8.first and acceptRanges. -/
import Derived.Test.YtkgloohlmogakaaGreatDoorV0
import Derived.Lib.LaidTab
import Derived.Lib.Space
import GoSem.PinnedTables
set_option linter.unusedSimpArgs false
set_option linter.unusedVariables false
namespace Go.V
def SH:DataW Unit->D
 | .lit (.int k n)=> .int k n
 |_=> .undef
def SI:DataW Unit->List D
 | .agg l=>l.map SH
 |_=>[]
def zN:D:=.agg (SI Go.Pinned.utf8First)
def wG:D:=.agg ([128,191,160,191,128,159,144,191,128,143,0,0,0,0,0,0,0,0,0,0,0,0,0,0,0,0,0,0,0,0,0,0].map fun n:Int=>D.int .u8 n)
def ue:Nat->Option D:=fun g=>if g=3 then some zN else if g=4 then some wG else none
def Dr:Nat->Option (Array Value):=fun g=>if g=0 then some (Lib.asciiSpaceTab.map fun z=>Value.int .u8 z).toArray else none
end Go.V
