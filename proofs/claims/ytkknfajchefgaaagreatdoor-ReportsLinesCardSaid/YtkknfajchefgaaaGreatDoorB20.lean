/- Lemmas on plain data and programs: part B20. -/
import Derived.Test.YtkknfajchefgaaaGreatDoorB14
set_option linter.all false
set_option maxHeartbeats 8000000
set_option maxRecDepth 100000
namespace Go.V.St
open Go.Proofs Go.Proofs.Tryz Go.RowKit Go.V.Lx Go.V.Gr Go.V.Ty
def Bj(f u:Int):Bool:=decide (0<=f)&&decide (f<u)&&decide (u<=1099511627776)
def xe(h:cY):Bool:=aX h.no 0 1048576&&aX h.kind 1 5
def xf(h:cY):Bool:=Bj h.first h.last&&Bj h.from_ h.HV&&aX h.known 0 1099511627775
def xg(h:cY):Bool:=decide (h.kind=3)&&aX h.ms 1 1073741824|| !decide (h.kind=3)&&decide (h.ms=0)
def ny(h:cY):Bool:=xe h&&aX h.sp (-1) 63&&aX h.bH (-1) 31&&xf h&&xg h
def uX(n a b:Int):av prog 290 [I n,I a,I b] (.bool (aX n a b)):=by
 refine fF f290 [] [.tmp 6] ?_;repeat' first|with_reducible apply zJ<;>intro _|simp(disch:=omega) only[go_sem, *]
 all_goals first|exact .refl _|(refine aq (aaR D.bool ?_);first|(simp(disch:=omega) [*,aX];done)|(simp[aX]at *;omega)|(rw[abu];simp[aX]at *;omega))
def aca(f u:Int):av prog 294 [I f,I u] (.bool (Bj f u)):=by
 refine fF f294 [] [.tmp 4] ?_;repeat' first|with_reducible apply zJ<;>intro _|simp(disch:=omega) only[go_sem, *]
 all_goals first|exact .refl _|(refine aq (aaR D.bool ?_);first|(simp(disch:=omega) [*,Bj];done)|(simp[Bj]at *;omega)|(rw[abu];simp[Bj]at *;omega))
def aii(h:cY):av prog 289 [h.d] (.bool (xe h)):=by
 refine fF f289 [] [.tmp 2] ?_;repeat' first|with_reducible apply zJ<;>intro _|with_reducible refine pX (uX _ _ _) sG ?_|simp(disch:=omega) only[go_sem, *,cY.d]
 all_goals first|exact .refl _|(refine aq (aaR D.bool ?_);first|(simp(disch:=omega) [*,xe];done)|(simp[xe]at *;omega)|(rw[abu];simp[xe]at *;omega))
def aij(h:cY):av prog 291 [h.d] (.bool (aX h.sp (-1) 63)):=by
 refine fF f291 [] [.tmp 2] ?_;repeat' first|with_reducible apply zJ<;>intro _|with_reducible refine pX (uX _ _ _) sG ?_|simp(disch:=omega) only[go_sem, *,cY.d]
 all_goals first|exact .refl _|(refine aq (aaR D.bool ?_);first|(simp(disch:=omega) [*,];done)|(simp[]at *;omega)|(rw[abu];simp[]at *;omega))
def aik(h:cY):av prog 292 [h.d] (.bool (aX h.bH (-1) 31)):=by
 refine fF f292 [] [.tmp 2] ?_;repeat' first|with_reducible apply zJ<;>intro _|with_reducible refine pX (uX _ _ _) sG ?_|simp(disch:=omega) only[go_sem, *,cY.d]
 all_goals first|exact .refl _|(refine aq (aaR D.bool ?_);first|(simp(disch:=omega) [*,];done)|(simp[]at *;omega)|(rw[abu];simp[]at *;omega))
def ail(h:cY):av prog 293 [h.d] (.bool (xf h)):=by
 refine fF f293 [] [.tmp 2] ?_;repeat' first|with_reducible apply zJ<;>intro _|with_reducible refine pX (uX _ _ _) sG ?_|with_reducible refine pX (aca _ _) sG ?_|simp(disch:=omega) only[go_sem, *,cY.d]
 all_goals first|exact .refl _|(refine aq (aaR D.bool ?_);first|(simp(disch:=omega) [*,xf];done)|(simp[xf]at *;omega)|(rw[abu];simp[xf]at *;omega))
def aim(h:cY):av prog 295 [h.d] (.bool (xg h)):=by
 refine fF f295 [] [.tmp 2] ?_;repeat' first|with_reducible apply zJ<;>intro _|with_reducible refine pX (uX _ _ _) sG ?_|simp(disch:=omega) only[go_sem, *,cY.d]
 all_goals first|exact .refl _|(refine aq (aaR D.bool ?_);first|(simp(disch:=omega) [*,xg];done)|(simp[xg]at *;omega)|(rw[abu];simp[xg]at *;omega))
def sj:D:=.agg [.fn (.func 289) [],.fn (.func 291) [],.fn (.func 292) [],.fn (.func 293) [],.fn (.func 295) []]
def abK:av prog 251 [] sj:=by
 refine fF f251 [] [.cell 0 353] ?_;exact arQ
def Ar(h:cY):List Bool:=[xe h,aX h.sp (-1) 63,aX h.bH (-1) 31,xf h,xg h]
def Y5(h:cY):av prog 182 [h.d] (.bool (ny h)):=by
 refine fF f182 [] [.tmp 2] ?_;simp(disch:=omega) only[go_sem,cY.d];refine aI abK sG ?_;simp(disch:=omega) only[go_sem,sj];refine bB 5 (fun k σ bx=>σ 1= .loc 1 1 0 0/\bx 1=⟨1,1,10,94,[h.d]⟩/\σ 5=sj/\σ 6=I k/\((Ar h).take k).all id=true) ?_ ?_ ?_
 ·simp[go_sem,aM,ah,Bx.none,sj]
 ·rintro k σ bx hk ⟨h1,b1,h5,h6,hn⟩;obtain rfl|rfl|rfl|rfl|rfl:k=0\/k=1\/k=2\/k=3\/k=4:=oM
  ·have h6:σ 6=I 0:=h6;repeat' first|with_reducible apply zJ<;>intro _|with_reducible refine pX (aii h) sG ?_|simp(disch:=omega) only[go_sem, *,sj,cY.d,h1,b1,h5,h6]
   ·simp_all[Ar,wr]
   simp_all[aq,ny]
  ·have h6:σ 6=I 1:=h6;repeat' first|with_reducible apply zJ<;>intro _|with_reducible refine pX (aij h) sG ?_|simp(disch:=omega) only[go_sem, *,sj,cY.d,h1,b1,h5,h6]
   ·simp_all[Ar,wr]
   simp_all[aq,ny]
  ·have h6:σ 6=I 2:=h6;repeat' first|with_reducible apply zJ<;>intro _|with_reducible refine pX (aik h) sG ?_|simp(disch:=omega) only[go_sem, *,sj,cY.d,h1,b1,h5,h6]
   ·simp_all[Ar,wr]
   simp_all[aq,ny]
  ·have h6:σ 6=I 3:=h6;repeat' first|with_reducible apply zJ<;>intro _|with_reducible refine pX (ail h) sG ?_|simp(disch:=omega) only[go_sem, *,sj,cY.d,h1,b1,h5,h6]
   ·simp_all[Ar,wr]
   simp_all[aq,ny]
  ·have h6:σ 6=I 4:=h6;repeat' first|with_reducible apply zJ<;>intro _|with_reducible refine pX (aim h) sG ?_|simp(disch:=omega) only[go_sem, *,sj,cY.d,h1,b1,h5,h6]
   ·simp_all[Ar,wr]
   simp_all[aq,ny]
 ·rintro σ bx ⟨h1,b1,h5,h6,hn⟩;have h6:σ 6=I 5:=h6;repeat' first|with_reducible apply zJ<;>intro _|simp(disch:=omega) only[go_sem, *,h6]
  simp_all[aq,Ar,ny]
def sK(l:List cY):Int:=if 1024<l.length then 2 else if gY ny cY.no (-1) l then 0 else 350
def YZ(l:List cY):av prog 138 [.sl 10 (l.map cY.d)] (I (sK l)):=by
 refine fF f138 [] [.tmp 2] ?_;simp(disch:=omega) only[go_sem];refine aW (fun h1=>?_) (fun h1=>?_)
 ·simp(disch:=omega) only[go_sem];exact aq (aaR I (by unfold sK;grind))
 have hle:l.length<=1024:=oM;have e:sK l=if gY ny cY.no (-1) l then 0 else 350:=by simp_all[sK,aaw]
 rw[e];simp(disch:=omega) only[go_sem];refine bB l.length (fun k σ bx=>σ 9= .sl 10 (l.map cY.d)/\σ 10=I l.length/\σ 11=I k/\σ 3=I (qO cY.no (-1) (l.take k))/\gY ny cY.no (-1) (l.take k)=true) ?_ ?_ ?_
 ·simp[go_sem,aM,ah,qO,gY]
 ·rintro k σ bx hk ⟨q9,ve,Ot,q3,hn⟩;obtain⟨x,hx⟩:=bk hk;have au:(k:Int)<(l.length:Int):=oM;repeat' first|with_reducible apply zJ<;>intro _|with_reducible refine pX (Y5 x) sG ?_|simp(disch:=omega) only[go_sem, *,q9,ve,Ot,q3,au,hx,cY.d]
  all_goals first|exact aq (aaR I (by rw[ZU hx awN];rfl))|(rw[aR oM];simp_all[Ha,TJ])
 ·rintro σ bx ⟨q9,ve,Ot,q3,hn⟩;have au:¬(l.length:Int)<(l.length:Int):=oM;simp(disch:=omega) only[go_sem,ve,Ot,au];exact av3
end Go.V.St
