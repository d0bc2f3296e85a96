/- Lemmas on plain data and programs: part B36. -/
import Derived.Test.YtkknfajchefgaaaGreatDoorB34
import Derived.Test.YtkknfajchefgaaaGreatDoorB35
set_option linter.all false
set_option maxHeartbeats 8000000
set_option maxRecDepth 100000
namespace Go.V.St
open Go.Proofs Go.Proofs.Tryz Go.RowKit Go.V.Lx Go.V.Gr Go.V.Ty
def LR(x:Sign):Bool:=decide ((iA x.t).2=0)&& !decide (((iA x.t).1.length:Int)<1)&& !decide ((4:Int)<(iA x.t).1.length)&& !decide ((x.c.length:Int)<1)&& !decide ((4:Int)<x.c.length)&&x.c.all fun n=>aX n 0 63
def D8(seen:List ae)(x:Sign):Option (List ae):=if LR x&& !seen.contains x.t then some (seen++[x.t])else none
def HK(l:List Sign):Int:=if 64<(l.length:Int)then 2 else if(l.foldlM D8 []).isSome&& !decide ((l.length:Int)=0)then 0 else 120
def SSet(ks:List ae)(es:List D):Prop:=∃l:List (ae×Int),es=l.map (fun e=> .aL [.str e.1,.bool true,.int .i64 e.2])/\ks=l.map (·.1)
theorem Dq(k:ae):∀(l:List (ae×Int)) (i:Nat),(l.map (·.1)).contains k=true/\(∃j,dX .str (.str k) (l.map fun e=> .aL [.str e.1,.bool true,.int .i64 e.2]) i=some (some (j,.bool true)))\/(l.map (·.1)).contains k=false/\dX .str (.str k) (l.map fun e=> .aL [.str e.1,.bool true,.int .i64 e.2]) i=some none
 |[],i=> .inr ⟨rfl,rfl⟩
 |e::l,i=>by
  by_cases h:k=e.1
  ·grind [dX,oq]
  ·have hb:(k==e.1)=false:=awN
   rcases Dq k l (i+1)with⟨h1,j,h2⟩|⟨h1,h2⟩<;>grind [dX,oq]
theorem SSet.look{ks:List ae}{es:List D}(h:SSet ks es)(k:ae):vJ (some (.bool false)) false (dX .str (.str k) es 0)=some (.bool (ks.contains k)):=by
 obtain⟨l,rfl,rfl⟩:=h;rcases Dq k l 0 with⟨h1,j,h2⟩|⟨h1,h2⟩<;>rw[h1,h2]<;>rfl
theorem SSet.ah{ks:List ae}{es:List D}(h:SSet ks es){k:ae}(hk:ks.contains k=false)(c:Int):∃es',nj .str (.str k) (.bool true) c es=some (.int .i64 (c+1)::es')/\SSet (ks++[k]) es':=by
 obtain⟨l,rfl,rfl⟩:=h;rcases Dq k l 0 with⟨h1,j,h2⟩|⟨h1,h2⟩
 ·exact awN
 ·exact⟨_,by unfold nj;rw[h2],l++[(k,c)],sI,sI⟩
instance(l:List Int):Ct 343 [ints l,.fn (.func 344) []] (Lm l) (.bool (l.all fun n=>aX n 0 63)):=⟨ad9 l⟩
instance(l:List Sign):Ct 342 [.sl 2 (l.map Sign.d)] True (I (HK l)):=by
 refine dp f342 [] [.tmp 2] fun pre=>?_;unfold HK;generalize hA:List.foldlM D8 [] l=A;refine zW ?_;intros;refine yV l D8 [] hA 14 [(2,2),(5,7),(14,63)] [(5,5),(11,11)] (fun j s τ β=>∃c es,β 11=⟨1,3,0,345,.int .i64 c::es⟩/\SSet s es) oM sG ⟨0,[],rfl,[],rfl,rfl⟩ (fun j x s τ β hx hj hw hi h3 cH=>?_) fun s τ β hn hi h3 ha=>?_
 ·obtain⟨c,es,gM,hs⟩:=h3;have hlk:=hs.look x.t;have hl:=Dl x.t;unfold D8 LR at cH⊢;have hu:=fun h=>hs.ah (k:=x.t) h c;generalize hB:List.all x.c _=B at *;generalize s.contains x.t=C at *;repeat' first|exact zQ|with_reducible apply zJ<;>intro _|refine zK ?_
  all_goals first|(have cH:=cH.out zz;refine aq ?_;simp[cH];done)|skip
  obtain⟨es',hu1,CE⟩:=hu awj;refine zW ?_;intros
  exact awN
 ·refine zW ?_;intros;exact av3
instance(s:fb):Ct 260 [s.d] True (I (rP s)):=⟨fun _=>W0 s⟩
instance(a b c d e f:Bool):Ct 259 [.sl 1 [.bool a,.bool b,.bool c,.bool d,.bool e,.bool f]] True (.bool (a&&b&&c&&d&&e&&f)):=⟨fun _=>by
 have:=agS [a,b,c,d,e,f] sI
 grind⟩
instance(n a b:Int):Ct 258 [I n,I a,I b] True (.bool (aX n a b)):=⟨fun _=>agT n a b⟩
def Ig(v:aV):Bool:=aX v.cells 1 80&&decide (v.room=0)&&decide (HK v.cz=0)&&decide (v.bq.gs.length=0)&&decide (v.bq.ks.length=0)&&decide (v.bq.o=0)
def mM(v:aV):Bool:=aX v.no 0 99999&&aX v.bH 0 31&&aX v.lines 1 8&&aX v.speed 0 1000&&decide (rP v.br=0)&&if v.cells=0 then FC v else Ig v
abbrev Od(v:aV):Prop:=Lm v.bq.gs/\Lm v.bq.ks
instance(v:aV):Ct 346 [v.d] True (.bool (FC v)):=⟨fun _=>Z4 v⟩
instance(v:aV):Ct 339 [v.d] (Od v) (.bool (Ig v)):=by
 refine dp f339 [] [.tmp 2] fun pre=>?_;obtain⟨h1,h2⟩:=pre;unfold Ig;repeat' first|exact zQ|with_reducible apply zJ<;>intro _|refine zK ?_
 all_goals first|with_reducible exact .refl _|(refine aq (aaR D.bool ?_);rw[abu];simp[*,-List.length_eq_zero_iff];try omega)
@[go_sem] def ar1:wk prog 370 "hansard/viewers.right"=some 346:=ar
@[go_sem] def ar0:wk prog 369 "hansard/viewers.right"=some 339:=ar
def aoe(v:aV)(h:Od v)(bx:ab):az prog 196 5 [v.d] bx (fun _ bx'=>mM v=true/\∀q,q<5->bx' q=bx q) (fun d bx'=>mM v=false/\d= .bK 39 (I 450)/\∀q,q<5->bx' q=bx q):=by
 refine fB 41 5 f196 [(5,[(21,18),(21,14),(17,14),(21,10),(17,10),(13,10),(21,7),(17,7),(13,7),(9,7)])] [.tmp 2] ?_;have e:∀r,(if v.cells=0 then FC v else Ig v)=r->mM v=(aX v.no 0 99999&&aX v.bH 0 31&&aX v.lines 1 8&&aX v.speed 0 1000&&decide (rP v.br=0)&&r):=fun r h=>by rw[<-h];rfl
 generalize mM v=B at *;refine sw ?_;refine cdd (fun hc=>?_) fun hc=>?_
 ·have e:=e (FC v) (by rw[aaO hc]);replace hc:Hid _:=hc;repeat' first|exact zQ|with_reducible apply zJ<;>intro _|refine zK ?_
  all_goals exact awN
 ·have e:=e (Ig v) (by rw[aaw hc]);repeat' first|exact zQ|with_reducible apply zJ<;>intro _|refine zK ?_
  all_goals exact awN
def PZ{e:Nat}{x:D}(bx:ab)(h2:bx 2=⟨e,1,1,39,[x]⟩):vM prog (dD prog) [] f195 5 [.loc 2 e 0 0] bx .ret fun m' bx'=>m'= .ret/\bx'=bx:=by
 refine iG (t:=5) _ _ 19 rfl rfl rfl ar ar (ah (ah (aM 0 [.loc 2 e 0 0]) 5 (.raw .nilIface)) 2 (.raw .nilIface)) ?_ ?_
 ·exact zE
 ·exact zE
def PY{e:Nat}{x:D}(n:Int)(bx:ab)(c:∀c,ed x 0 [c]=some c)(h2:bx 2=⟨e,1,1,39,[x]⟩):vM prog (dD prog) [] f195 5 [.loc 2 e 0 0] bx (.cd (.bK 39 (I n))) fun m' bx'=>m'= .ret/\bx'=ah bx 2 ⟨e,1,1,39,[I n]⟩:=by
 refine iG (t:=5) _ _ 19 rfl rfl rfl ar ar (ah (ah (aM 0 [.loc 2 e 0 0]) 5 (.bK 39 (I n))) 2 (.bK 39 (I n))) ?_ ?_
 ·exact zE
 ·exact zE
def aam(v:aV)(h:Od v):El prog (dD prog) [] f141 0 [v.d] (fun _=> .none) (fun d bx'=>∃r,aU bx' d=some r/\bA r (I (if mM v then 0 else 450))) (fun _ _=>False):=by
 refine rp _ [.cell 2 39] 5 rfl rfl rfl ar ar ?_;refine zW ?_;intros;refine bj (aoe v h _) rfl (fun d bx1 hq=>?_) (fun d bx1 hq=>?_)
 ·obtain⟨h1,h3⟩:=hq;have b2:=h3 2 oM;simp only[ah,Bx.none,reduceIte,Nat.reduceEqDiff]at b2;refine zW ?_;intros;refine bM _ (mY (PZ _ rfl)) fun m' aT hq=>?_;obtain⟨rfl,rfl⟩:=hq;refine zW ?_;intros;exact⟨_,rfl,.refl _⟩
 ·obtain⟨h1,rfl,h3⟩:=hq;have b2:=h3 2 oM;simp only[ah,Bx.none,reduceIte,Nat.reduceEqDiff]at b2;refine zW ?_;intros;refine bM _ (mY (PY 450 _ (fun c=>sG) b2)) fun m' aT hq=>?_;obtain⟨rfl,rfl⟩:=hq;refine zW ?_;intros;exact⟨_,rfl,.refl _⟩
instance(v:aV):Ct 141 [v.d] (Od v) (I (if mM v then 0 else 450)):=⟨fun h=>(SD (aam v h)).to (fun _ _ h=>h) fun d' bx' h=>h⟩
end Go.V.St
