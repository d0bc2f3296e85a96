/- Lemmas on plain data and programs: part B38. -/
import Derived.Test.YtkknfajchefgaaaGreatDoorB32
import Derived.Test.YtkknfajchefgaaaGreatDoorB36
import Derived.Test.YtkknfajchefgaaaGreatDoorB37
set_option linter.all false
set_option maxHeartbeats 8000000
set_option maxRecDepth 100000
namespace Go.V.St
open Go.Proofs Go.Proofs.Tryz Go.RowKit Go.V.Lx Go.V.Gr Go.V.Ty
abbrev oE(n:Int):D:=.bK 39 (I n)
instance(b:Bool)(n:Int):Cq 133 [.bool b,I n] True b (.aL []) (oE n):=by
 refine fnQ f133 (n:=8) [] [] fun pre bx=>?_;exact zE
instance(n a b:Int):Cq 134 [I n,I a,I b] True (aX n a b) (.aL []) (oE 540):=by
 refine fnQ f134 (n:=15) [] [] fun pre bx=>?_;exact zF
instance(l:List Int):Cq 135 [.sl 1 (l.map I)] (Lm l) (l.all fun n=>decide (n=0)) (.aL []) (oE 540):=by
 refine fnQ f135 (n:=14) [] [] fun pre bx=>?_;generalize hA:List.all l _=A;refine zW ?_;intros;refine ql l hA 6 [(3,3),(6,13)] [] pre sG (fun j x τ β hx hj hw hi cH=>?_) fun τ β hn hi ha=>?_
 ·refine zW ?_;intros;exact cH.out awj
 ·exact zE
instance(v:aV)(n:Int):Ct 198 [v.d,.bR (I n) 0] True (.bool (decide (v.no=n))):=by
 refine dp f198 [] [.tmp 3] fun pre=>?_;exact zE
def SB(n:Int)(l:List aV):Int:=j6 (fun v:aV=>decide (v.no=n)) l
instance(s:cP)(n:Int):Ct 142 [s.d,I n] (Lm s.aC) (I (SB n s.aC)):=by
 refine dp f142 [] [.tmp 4] fun pre=>?_;refine zW ?_;intros;refine ciR (ds':=[.sl 14 (s.aC.map aV.d),.fn (.func 198) [.bR (I n) 0]]) (by simp[go_sem,I1,D.cells,D.aH,D.pure,D.one,jZ,ah,cE,lv,I,Bx.none]) ?_;repeat' first|exact zQ|with_reducible apply zJ<;>intro _|refine zK ?_
 all_goals exact .refl _
def vh(so la ch qu lt ga mo:Int):Bool:=aX so 1 16&&aX la 1 32&&aX ch 1 1073741824&&aX qu 1 1073741824&&aX ga 1 1073741824&&aX lt 0 1073741824&&aX mo 1 16
def SE(h:bL):Bool:=aX h.seq 0 1048576&&lM h.sY&&decide ((h.words.length:Int)<=64)
end Go.V.St
