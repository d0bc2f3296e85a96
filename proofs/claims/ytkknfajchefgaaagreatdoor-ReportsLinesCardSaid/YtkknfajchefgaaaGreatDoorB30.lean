/- Lemmas on plain data and programs: part B30. -/
import Derived.Test.YtkknfajchefgaaaGreatDoorB29
set_option linter.all false
set_option maxHeartbeats 8000000
set_option maxRecDepth 100000
namespace Go.V.Ty
open Go.Proofs Go.RowKit Go.V.Lx Go.V.Gr
mutual
theorem KI(bx:ab):∀d:D,d.pure=true->aU bx d=some d/\names d=[]
 | .loc ..,h| .ba ..,h| .ic ..,h| .omap ..,h=>awI
 | .agg ds,h=>asg
 | .aL ds,h=>asg
 | .fn f ds,h=>asg
 | .fW f ds,h=>asg
 | .bK t d,h=>by have:=KI bx d h;simp[aU,names,this]
 | .undef,_| .int ..,_| .bool _,_| .str _,_| .raw _,_| .ak,_| .sl ..,_| .nu ..,_| .bR ..,_| .any _,_| .fN,_| .jd,_=>⟨awC,by simp[names]⟩
theorem kf(bx:ab):∀ds:List D,D.aH ds=true->cE bx ds=some ds/\bY ds=[]
 |[],_=>⟨by simp[cE],by simp[bY]⟩
 |d::ds,h=>by
  simp only[D.aH,aas]at h;have h1:=KI bx d h.1;have h2:=kf bx ds h.2;exact⟨by rw[dh,h1.1,h2.1];rfl,by grind [bY]⟩
end
theorem AX{bx:ab}{d d':D}(hd:aU bx d=some d'):∀(l l':List D),cE bx l=some l'->cE bx (l++[d])=some (l'++[d'])
 |[],l',h=>by simp only[iw,aaM]at h;subst h;rw[adC,dh,hd,iw];rfl
 |x::l,l',h=>by
  rw[dh]at h;obtain⟨y,ys,h1,h2,rfl⟩:=rm h;rw[aeF,dh,h1,AX hd l ys h2];rfl
theorem CZ:∀(l m:List D),bY (l++m)=bY l++bY m
 :=by intro a;induction a<;>simp_all[bY]
theorem yd:∀(l m:List D),D.aH (l++m)=(D.aH l&&D.aH m)
 :=by intro a;induction a<;>grind [D.aH]
structure jl(l m:List D):Prop where
 len:l.length=m.length
 cells:∀(i:Nat) x x',l[i]? =some x->m[i]? =some x'->x.cells.length=x'.cells.length
 yM:∀(i:Nat) x x' (j:Nat) c c',l[i]? =some x->m[i]? =some x'->x.cells[j]? =some c->x'.cells[j]? =some c'->bA c c'
theorem jl.sl{l m:List D}(h:jl l m)(sz:Nat):bA (.sl sz l) (.sl sz m):=.sl h.len h.cells h.yM
theorem jl.nil:jl [] []:=⟨rfl,sI,sI⟩
theorem jl.snoc{l m:List D}{d d':D}(h:jl l m)(h1:d.cells.length=d'.cells.length)(h2:∀(j:Nat) c c',d.cells[j]? =some c->d'.cells[j]? =some c'->bA c c'):jl (l++[d]) (m++[d']):=by
 have hl:=h.len;have at_:∀(i:Nat) x x',(l++[d])[i]? =some x->(m++[d'])[i]? =some x'->(l[i]? =some x/\m[i]? =some x')\/(x=d/\x'=d'):=awN
 refine⟨by simp[hl],fun i x x' hx jc=>?_,fun i x x' j c c' hx jc hc uS=>?_⟩
 ·rcases at_ i x x' hx jc with⟨g1,g2⟩|⟨rfl,rfl⟩
  ·exact h.cells i x x' g1 g2
  ·exact h1
 ·rcases at_ i x x' hx jc with⟨g1,g2⟩|⟨rfl,rfl⟩
  ·exact h.yM i x x' j c c' g1 g2 hc uS
  exact awN
def Dz(s t el:Nat)(x:D)(m:List D)(bx:ab):Prop:=
 (x= .ak/\m=[])\/∃e es l,x= .ba s e 5 0 es.length/\bx s=⟨e,1,5,el,es⟩/\cE bx es=some l/\jl l m/\D.aH l=true/\∀q∈bY es,q=t
theorem Dz.len{s t el:Nat}{x:D}{m:List D}{bx:ab}(h:Dz s t el x m bx):x.cells=[x]/\x.one=true/\∀c,ed x 0 [c]=some c:=by rcases h with⟨rfl,rfl⟩|⟨e,es,l,rfl,h⟩<;>exact⟨rfl,rfl,fun c=>avu⟩
theorem Dz.dO{s t el:Nat}{x:D}{m:List D}{bx:ab}(h:Dz s t el x m bx)(bI:s≠t):
 ∃bx0,(bx0=bx\/∃l,(bx s).k=1/\cE bx (bx s).es=some l/\bx0=Go.V.dO bx s l)/\(∀q,q≠s->q≠t->bx0 q=bx q)/\∃l,aP bx0 [s] el 5 x l/\jl l m/\D.aH l=true:=by
 rcases h with⟨rfl,rfl⟩|⟨e,es,l,rfl,h1,h2,h3,h4,h5⟩
 ·exact⟨bx,.inl rfl,fun _ _ _=>rfl,[],.nil _ _ _ _,.nil,rfl⟩
 ·have jG:(bx s).es=es:=by rw[h1]
  have hf:aS bx es s=bx s:=by rw[fP,aaw (fun hm=>bI (h5 _ hm))]
  refine⟨_,.inr ⟨l,by rw[h1],awN,rfl⟩,fun q hq rB=>?_,l,.inr ⟨s,e,sI,?_,?_⟩,h3,h4⟩
  ·unfold Go.V.dO;rw[jG,al hq,fP,aaw (fun hm=>rB (h5 _ hm))]
  ·rw[(AW _ _ h2).1]
  simp_all[Go.V.dO,aY]
theorem Dz.add{s t el e:Nat}{l m:List D}{d d' dm:D}{bx:ab}(hw:jl l m)(hp:D.aH l=true)(hb:bx s=⟨e,1,5,el,l++[d]⟩)(hd:aU bx d=some d')(BE:d'.pure=true)(h1:d'.cells.length=dm.cells.length)
 (h2:∀(j:Nat) c c',d'.cells[j]? =some c->dm.cells[j]? =some c'->bA c c') (hn:∀q∈names d,q=t):Dz s t el (.ba s e 5 0 (l++[d]).length) (m++[dm]) bx:=by
 obtain⟨o1,o2⟩:=kf bx l hp;refine .inr ⟨e,_,_,rfl,hb,AX hd _ _ o1,hw.snoc h1 h2,by grind [yd,D.aH],fun q hq=>?_⟩
 grind [CZ,bY]
theorem aP.names{ts:List Nat}{bx:ab}{el esz:Nat}{x:D}{xs:List D}(h:aP bx ts el esz x xs):∀q∈Go.V.names x,q∈ts:=by rcases h with⟨rfl,_⟩|⟨t,e,ht,rfl,_⟩<;>grind [Go.V.names]
theorem ud{ts:List Nat}{bx:ab}{el esz:Nat}{x:D}{xs:List D}(h:aP bx ts el esz x xs)(hp:D.aH xs=true){m:List D}(hw:jl xs m):∃r,aU bx x=some r/\bA r (.sl esz m)/\r.pure=true:=by
 rcases h with⟨rfl,rfl⟩|⟨t,e,_,rfl,hb⟩
 ·have:m=[]:=ae4 (by rw[<-hw.len];rfl);subst this;exact⟨_,Hi,.nil _,rfl⟩
 ·exact⟨_,arF,hw.sl _,rfl⟩
theorem jl.refl(l:List D):jl l l:=⟨rfl,fun i x x' h h'=>awN,fun i x x' j c c' h h' hc uS=>by rw[h]at h';injection h' with h';subst h';rw[hc]at uS;injection uS with uS;subst uS;exact .refl _⟩
end Go.V.Ty
namespace Go.V.Ty
open Go.Proofs Go.RowKit Go.V.Lx Go.V.Gr
def sg(n:Int)(x:Entry):Entry:={x with no:=n}
def vW(n:Int)(x:Part):Part:={x with no:=n}
def gj(n:Int)(x:aF):aF:={x with no:=n,parts:=x.parts.map (vW n)}
def cN(g:aA)(n:Int):aA:={g with no:=n,entries:=g.entries.map (sg n),rules:=g.rules.map (gj n)}
theorem any_map'{α β:Type}(f:α->β)(p:β->Bool)(l:List α):(l.map f).any p=l.any fun x=>p (f x):=awN
theorem all_map'{α β:Type}(f:α->β)(p:β->Bool)(l:List α):(l.map f).all p=l.all fun x=>p (f x):=awN
theorem UU(n:Int)(x:aF):qd (gj n x)=qd x:=by
 obtain⟨a,b,c,d,e⟩:=x
 match c with
 |[]=>rfl
 |[q]=>rfl
 |q::r::c=>rfl
theorem W2(p:ae->Bool)(n:Int)(x:aF):jj p (gj n x)=jj p x:=by
 have h1:(gj n x).parts.all (gG p)=x.parts.all (gG p):=by simp only[gj,all_map'];rfl
 have h2:tI (gj n x)=tI x:=by
  simp only[tI,gj,aa0]
  congr 1
  funext i;simp only[Qa,aaZ];cases x.parts[i]?<;>rfl
 grind [jj,gj]
def TV(p:ae->Bool)(g:aA)(n:Int):iB p (cN g n)=iB p g:=by
 have h1:(cN g n).rules.all (jj p)=g.rules.all (jj p):=by grind [cN,all_map',W2]
 have h2:(cN g n).entries.all (oC p)=g.entries.all (oC p):=by simp only[cN,all_map'];rfl
 simp only[iB,h1,h2];rfl
theorem S4(n:Int)(L:List ae)(c:ae)(x:aF):fY L c (gj n x)=fY L c x:=by simp only[fY,UU]
def WI(n:Int)(rs:List aF):A1 (rs.map (gj n))=A1 rs:=by grind [A1,any_map',S4]
theorem Hj(n:Int)(rs:List aF):∀(k:Nat) (L:List ae),ng (rs.map (gj n)) k L=ng rs k L
 |0,L=>rfl
 |k+1,L=>by rw[ng,ng,WI,Hj n rs k]
def UE(g:aA)(n:Int):uy (cN g n)=uy g:=by simp only[uy,cN,Hj]
def FD(g:aA)(n:Int):gh (cN g n)=gh g:=by
 have h1:(g.entries.map (sg n)).map (vE g.aB)=g.entries.map (vE g.aB):=by rw[agw];rfl
 have h2:(g.rules.map (gj n)).map (lZ g.aB)=g.rules.map (lZ g.aB):=by
  rw[agw];refine ad8 fun x _=>?_;simp only[Function.comp,lZ,gj,agw]
  congr 1
 grind [gh,cN]
def De(g:aA)(n:Int):bF (cN g n)=bF g:=by
 unfold bF;rw[show(cN g n).aB=g.aB from rfl,TV,UE,FD]
 grind [cN]
def Af(g:aA)(n:Int):cN (gh g) n=cN g n:=by
 simp only[cN,gh,agw]
 congr 1
 refine ad8 fun x _=>?_;simp only[Function.comp,gj,lZ,agw]
 congr 1
def set_set(g:aA):gh (gh g)=gh g:=by rw[<-FD (gh g) 0,Af,FD]
def L7{α:Type}(f:α->α)(p:α->α->Bool)(l:List α):nR p (l.map f) l=l.all fun x=>p (f x) x:=by
 have:∀l:List α,((l.map f).zip l).all (fun q=>p q.1 q.2)=l.all fun x=>p (f x) x:=by intro l;induction l<;>simp_all
 rw[nR,this];exact sI
def UD{g:aA}(h:(bF g).2=0):(jm g=0<->gh g=g)/\(jm g=0\/jm g=260):=by
 have hr:=ni h;have GD:jm g=if decide ((gh g).no=g.no)&&(nR (fun x y=>decide (x.no=y.no)) (gh g).entries g.entries&&nR (fun x y=>decide (x.no=y.no)&&decide (x.parts=y.parts)) (gh g).rules g.rules)then 0 else 260:=by simp_all[jm]
 refine⟨?_,awN⟩;rw[GD,show(gh g).entries=g.entries.map (vE g.aB)from rfl,show(gh g).rules=g.rules.map (lZ g.aB)from rfl,L7,L7];constructor
 ·intro hc;split at hc
  ·rename_i h1;simp only[aas,aaH,aaI]at h1;obtain⟨h1,h2,h3⟩:=h1;have e1:g.entries.map (vE g.aB)=g.entries:=by
    conv=>rhs;rw[<-aqx g.entries]
    refine ad8 fun x hx=>?_;simp_all[vE]
   have e2:g.rules.map (lZ g.aB)=g.rules:=by
    conv=>rhs;rw[<-aqx g.rules]
    refine ad8 fun x hx=>?_;simp_all[lZ]
   simp_all[gh]
  ·cases hc
 ·intro hs;rw[aaO];simp only[aas,aaH,aaI];refine⟨by rw[hs],fun x hx=>?_,fun x hx=>?_⟩
  ·have e1:g.entries.map (vE g.aB)=g.entries:=aaR aA.entries hs;obtain⟨i,hi⟩:=afj.1 hx
   exact awN
  ·have e1:g.rules.map (lZ g.aB)=g.rules:=aaR aA.rules hs;obtain⟨i,hi⟩:=afj.1 hx
   exact awN
def Mr{g:aA}(h:(bF g).2≠0):jm g=(bF g).2:=by rw[jm,aaO h]
theorem ov.sz{g:aA}(h:ov g):Sz g:=⟨h.Ih,h.EY,h.Dh,fun x hx=>(h.dw x hx).len,fun x hx=>⟨(h.rules x hx).Fo,(h.rules x hx).YI⟩⟩
def ac2{g:aA}(h:ov g):ov (gh g):=by
 refine⟨h.name,h.start,h.Ih,by simpa[gh]using h.EY,by simpa[gh]using h.Dh,h.aB,fun x hx=>?_,fun x hx=>?_⟩
 ·obtain⟨y,hy,rfl⟩:=aa1.1 hx;exact⟨(h.dw y hy).text,(h.dw y hy).cat,(h.dw y hy).len,(h.dw y hy).aE⟩
 ·obtain⟨y,hy,rfl⟩:=aa1.1 hx;refine⟨(h.rules y hy).cat,by simpa[lZ]using(h.rules y hy).Fo,(h.rules y hy).YI,fun q hq=>?_,(h.rules y hy).aE⟩;obtain⟨r,hr,rfl⟩:=aa1.1 hq;exact⟨((h.rules y hy).parts r hr).text,((h.rules y hy).parts r hr).cat⟩
def aeg{g:aA}(h:sq g=true):g.aB.length<=40/\g.entries.length<=600/\g.rules.length<=200/\(∀x∈g.entries,x.aE.length<=10)/\∀x∈g.rules,x.parts.length<=10/\x.aE.length<=20:=by
 unfold sq at h;rw[aas]at h;have hb:¬Jp g:=by simpa using h.1
 have h2:=h.2;simp only[aas,aaI,yp,wQ,aaH]at h2;unfold Jp at hb;exact⟨oM,oM,oM,h2.1,h2.2⟩
end Go.V.Ty
