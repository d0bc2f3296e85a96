/- Lemmas on plain data and programs: part B41. -/
import Derived.Test.YtkknfajchefgaaaGreatDoorB31
import Derived.Test.YtkknfajchefgaaaGreatDoorB40
set_option linter.all false
set_option maxHeartbeats 8000000
set_option maxRecDepth 100000
namespace Go.V.Rp
open Go.Proofs Go.RowKit Go.V.Lx Go.V.Gr Go.V.Ty Go.V.St
def yq(x:Fix):Bool:=aX x.no 0 1048576&&lM x.at_&&lM x.known&&aX x.sp 0 63&&decide (0<=x.first)&&decide (x.first<x.last)&&decide (x.last<=1099511627776)&&decide ((x.words.length:Int)<=64)&&dG x.reason&&x.words.all dG
noncomputable def bQ(r:Rec):Int:=if eN r.s≠0 then eN r.s else if 1024<(r.cn.length:Int)then 2 else if gY yq Fix.no (-1) r.cn then 0 else 550
def qX(n:Int):Bool:=decide (0<=n)&&decide (n<=1099511627776)
def RV(w:Word):Bool:=qX w.f&&qX w.u&&qX w.s&&dG w.t&&w.alts.all dG
def yk(h:bL):Bool:=qX h.kind&&qX h.sR&&qX h.cut&&h.words.all RV
theorem wU{α β:Type}{f:β->α->Option β}:∀ {l:List α} {a:β},(l.foldlM f a).isSome=true->∀x∈l,∃b,(f b x).isSome=true
 |[],_,_,x,hx=>awG
 |y::l,a,h,x,hx=>by
  rw[akA]at h;cases hf:f a y with
  |none=>grind
  |some b=>
   rw[hf]at h;rcases aaQ.1 hx with rfl|hx
   ·exact awN
   ·exact wU h x hx
theorem Dg{α:Type}{p:α->Bool}{k:α->Int}:∀ {l:List α} {a:Int},gY p k a l=true->∀x∈l,p x=true
 |[],_,_,x,hx=>awG
 |y::l,a,h,x,hx=>by
  rw[gY,aas,aas]at h;rcases aaQ.1 hx with rfl|hx
  ·exact h.1.1
  ·exact Dg h.2 x hx
def acg:∀m∈([]:List Int),iT m:=fun m h=>awI
def vf{r:Rec}(h:bQ r=0):rh r.s=true/\(r.s.heard.length:Int)<=4096/\(r.s.aC.length:Int)<=4096/\(r.cn.length:Int)<=1024/\∀x∈r.cn,yq x=true:=by
 unfold bQ at h;by_cases h1:eN r.s≠0
 ·exact awN
 rw[aaw h1]at h;by_cases h2:1024<(r.cn.length:Int)
 ·exact awN
 rw[aaw h2]at h;by_cases h3:gY yq Fix.no (-1) r.cn=true
 ·have h1:eN r.s=0:=ae5 h1;unfold eN at h1;by_cases h4:(4096:Int)<r.s.heard.length\/(4096:Int)<r.s.aC.length
  ·exact awN
  rw[aaw h4]at h1;by_cases h5:rh r.s=true
  ·grind [Dg]
  exact awN
 exact awN
def RX{s:cP}(h:NW s=true)(hl:s.grams.length=s.bp.length):∀g∈s.grams.tail,jm g=0:=fun g hg=>by
 obtain⟨j,hj,rfl⟩:=akI hg;rw[List.length_tail]at hj;have hb:j+1<s.bp.length:=oM;have hm:((s.grams[j+1],s.bp[j+1]),j+1)∈(s.grams.zip s.bp).zipIdx:=awN
 have:=aaI.1 h _ hm;simp_all[Tt]
def aef:Item->Prop
 | .term x=>x.src.length+x.vn.length<=8
 | .sign x=>(tc x.t).length+x.c.length<=8
 | .fix x=>x.words.length<=64
 |_=>True
def CK{r:Rec}(h:bQ r=0)(hw:∀x∈r.s.heard,yk x=true)(i:Item)(hi:i∈items r)(hg:∀g∈r.s.grams.tail,i= .ej g->(eb (cN g 0)).2=0/\(eb (cN g 0)).1.length<=65536):fC par i/\aef i:=by
 obtain⟨h1,h2,h3,h4,h5⟩:=vf h;unfold rh at h1;simp only[aas]at h1;obtain⟨⟨⟨s1,s2⟩,s3⟩,s4⟩:=h1;unfold vh at s1;unfold fI at s2;unfold iE at s3;unfold uT at s4;simp only[aas,aaH,aX]at s1 s2 s3;obtain⟨⟨⟨⟨⟨⟨l1,l2⟩,l3⟩,l4⟩,l5⟩,l6⟩,l7⟩:=s2;obtain⟨⟨a1,a2⟩,a3⟩:=s3;unfold items at hi;simp only[aaQ,abr,aa1,afm,aku]at hi;rcases hi with rfl|⟨g,vO,rfl⟩|⟨x,hx,rfl⟩|⟨x,hx,rfl⟩|⟨x,hx,rfl⟩|⟨x,hx,rfl⟩|⟨v,hv,hi⟩|⟨x,hx,rfl⟩|⟨x,hx,hi⟩|⟨x,hx,rfl⟩
 ·refine⟨⟨?_,trivial⟩,trivial⟩;simp only[Item.ns,aaQ,abe,aeV,iT]
  exact awN
 ·exact⟨⟨acg,ah_ (RX l6 oM g vO) (hg g vO rfl).1 (hg g vO rfl).2⟩,trivial⟩
 ·unfold vl at l3;by_cases hl:1024<(r.s.cB.length:Int)
  ·exact awN
  rw[aaw hl]at l3;by_cases hf:(r.s.cB.foldlM Bm (-1)).isSome=true
  ·obtain⟨b,hb⟩:=wU hf x hx;unfold Bm at hb;by_cases ht:(D_ x&&decide (b<x.no))=true
   ·rw[aas]at ht;have ht:=ht.1;unfold D_ at ht;simp only[aas,aX,lM,S1,aaH,zO]at ht;obtain⟨⟨⟨⟨⟨t1,t2⟩,t3⟩,t4⟩,t5⟩,t6⟩:=ht;refine⟨⟨?_,?_⟩,?_⟩
    rotate_left 2
    ·show x.src.length+x.vn.length<=8;cases eJ:x.gone<;>simp only[eJ,aew,abo,aa_,aas,aaH]at t6<;>omega
    ·simp only[Item.ns,aaQ,abe,aeV,iT]
     exact awN
    ·cases eJ:x.gone with
     |true=>
      rw[eJ,aaO rfl]at t6;simp only[aas,aaH]at t6;refine⟨?_,fun _=>⟨afq.1 oM,t6.2⟩⟩;simp only[Item.ts,eJ,abo,aez];exact aaI.1 t5.2
     |false=>
      rw[eJ,aaw sI]at t6;simp only[aas,aaH]at t6;refine⟨?_,fun h=>awN⟩;simp only[Item.ts,eJ,aew,aa_,abr,aaQ];rintro s (hs|rfl|hs)
      ·exact aaI.1 t5.2 s hs
      ·exact Wn t6.2
      ·exact aaI.1 t6.1.2 s hs
   exact awN
  exact awN
 ·unfold sK at l4;by_cases hl:1024<r.s.bG.length
  ·exact awN
  rw[aaw hl]at l4;by_cases hf:gY ny cY.no (-1) r.s.bG=true
  ·have hh:=Dg hf x hx;unfold ny xe xf xg Bj at hh;simp only[aas,akD,aX,aaH,ae_]at hh;refine⟨⟨?_,trivial⟩,trivial⟩;simp only[Item.ns,aaQ,abe,aeV,iT];exact oM
  exact awN
 ·unfold im at l5;by_cases hl:32<r.s.bp.length\/4096<r.s.cy.length
  ·exact awN
  rw[aaw hl]at l5;by_cases hf:(r.s.bp.all k_&&oX bn.bH r.s.bp&&r.s.cy.all (td (r.s.bp.map bn.bH))&&oX cJ.no r.s.cy)=true
  ·simp only[aas]at hf;have hb:=aaI.1 hf.1.1.1 x hx;unfold k_ EC at hb;simp only[aas,aX,aaH]at hb;refine⟨⟨?_,trivial⟩,trivial⟩;simp only[Item.ns,aaQ,abe,aeV,iT]
   exact awN
  exact awN
 ·unfold im at l5;by_cases hl:32<r.s.bp.length\/4096<r.s.cy.length
  ·exact awN
  rw[aaw hl]at l5;by_cases hf:(r.s.bp.all k_&&oX bn.bH r.s.bp&&r.s.cy.all (td (r.s.bp.map bn.bH))&&oX cJ.no r.s.cy)=true
  ·simp only[aas]at hf;have hb:=aaI.1 hf.1.2 x hx;have bH:∀n,(r.s.bp.map bn.bH).contains n=true->0<=n/\n<=31:=fun n hn=>by
    rw[agB]at hn;obtain⟨b,b1,rfl⟩:=aa1.1 hn;simp_all[k_]
   unfold td at hb;simp only[aas,aX,aaH,ae_]at hb;obtain⟨⟨⟨⟨⟨⟨⟨b1,b2⟩,b3⟩,b4⟩,b5⟩,b6⟩,_⟩,b8⟩:=hb;have b5:=bH _ b5;have b6:=bH _ b6;refine⟨⟨?_,trivial⟩,trivial⟩;simp only[Item.ns,aaQ,abe,aeV,iT]
   exact awN
  exact awN
 ·obtain⟨b,hb⟩:=wU a1 v hv;unfold wJ at hb;by_cases ht:(mM v&&decide (v.bH<r.s.langs)&&decide (b<v.no))=true
  ·simp only[aas]at ht;have hv:=ht.1.1;unfold mM at hv;simp only[aas,aX,aaH]at hv;obtain⟨⟨⟨⟨⟨v1,v2⟩,v3⟩,v4⟩,v5⟩,v6⟩:=hv;unfold rP at v5;by_cases hl:32<v.br.bl.length
   ·exact awN
   rw[aaw hl]at v5;by_cases hs:(nh v.br.w&&nh v.br.h&&v.br.bl.all (A_ v.br.w v.br.h))=true
   rotate_left
   ·exact awN
   simp only[aas,nh,aX,aaH]at hs;have kinds:(0<=v.cells/\v.cells<=80/\0<=v.room/\v.room<=1099511627776/\0<=v.bq.o/\v.bq.o<=4096)/\(∀x∈v.bq.gs,mA x=true)/\(∀x∈v.bq.ks,uE x=true)/\∀x∈v.cz,LR x=true:=by
    by_cases hc:v.cells=0
    ·rw[aaO hc]at v6;unfold FC at v6;simp only[aas,aX,aaH]at v6;obtain⟨⟨c1,c2⟩,c3⟩:=v6;unfold uz at c2;by_cases hl:1024<v.bq.gs.length\/1024<v.bq.ks.length
     ·exact awN
     rw[aaw hl]at c2;by_cases hf:(aX v.bq.o 0 4096&&v.bq.gs.all mA&&lQ y_ v.bq.gs&&v.bq.ks.all uE&&lQ AB v.bq.ks)=true
     ·simp only[aas,aX,aaH]at hf
      exact awN
     exact awN
    ·rw[aaw hc]at v6;unfold Ig at v6;simp only[aas,aX,aaH]at v6;obtain⟨⟨⟨⟨⟨c1,c2⟩,c3⟩,c4⟩,c5⟩,c6⟩:=v6;refine⟨oM,fun x hx=>?_,fun x hx=>?_,fun x hx=>?_⟩
     ·exact awN
     ·exact awN
     ·unfold HK at c3;by_cases hl:64<(v.cz.length:Int)
      ·exact awN
      rw[aaw hl]at c3;by_cases hf:((v.cz.foldlM D8 []).isSome&& !decide ((v.cz.length:Int)=0))=true
      ·rw[aas]at hf;obtain⟨b,hb⟩:=wU hf.1 x hx;simp_all[D8]
      exact awN
   obtain⟨k1,k2,k3,k4⟩:=kinds;unfold vI at hi;simp only[aaQ,abr,aa1,aku]at hi;rcases hi with rfl|⟨x,hx,rfl⟩|⟨x,hx,rfl⟩|⟨x,hx,rfl⟩|⟨x,hx,rfl⟩
   ·refine⟨⟨?_,trivial⟩,trivial⟩;have hr:=adQ v.right;have sL:0<=bN v.right:=by cases v.right<;>decide
    simp only[Item.ns,aaQ,abe,aeV,iT];exact oM
   ·have:=k2 x hx;unfold mA at this;simp only[aas,aX,aaH]at this;refine⟨⟨?_,trivial⟩,trivial⟩;simp only[Item.ns,aaQ,abe,aeV,iT]
    exact awN
   ·have:=k3 x hx;unfold uE at this;simp only[aas,aX,aaH]at this;refine⟨⟨?_,trivial⟩,trivial⟩;simp only[Item.ns,aaQ,abe,aeV,iT]
    exact awN
   ·have:=k4 x hx;unfold LR at this;simp only[aas,aX,aaH,ae_,afa]at this;obtain⟨⟨⟨⟨⟨g1,g2⟩,g3⟩,g4⟩,g5⟩,g6⟩:=this;have hj:nI (tc x.t)=some x.t:=ajv g1;refine⟨⟨?_,hj⟩,?_⟩
    rotate_left
    ·show(tc x.t).length+x.c.length<=8;unfold tc;exact oM
    simp only[Item.ns,aaQ,abr];have hp:(tc x.t).all fJ=true:=ae5 fun hn=>by simp_all[nI]
    rintro n (rfl|hn|hn)
    ·show 0<=((tc x.t).length:Int)/\((tc x.t).length:Int)<=1099511627776
     grind [tc]
    ·have:=(gH n).1 (aaI.1 hp n hn);exact⟨this.1,oM⟩
    ·have:=aaI.1 g6 n hn;simp only[aas,aX,aaH]at this;exact⟨this.1,oM⟩
   ·have:=aaI.1 hs.2 x hx;unfold A_ nh at this;simp only[aas,aX,aaH]at this;refine⟨⟨?_,trivial⟩,trivial⟩;simp only[Item.ns,aaQ,abe,aeV,iT]
    exact awN
  exact awN
 ·unfold hU at a2;by_cases hl:4096<r.s.cr.length
  ·exact awN
  rw[aaw hl]at a2;by_cases hf:DL r.s.cr
  ·obtain⟨j,hj⟩:=ap8 hx;have:=hf j x hj;unfold v_ nL at this;simp only[aas,aX,aaH]at this;obtain⟨⟨⟨⟨⟨⟨b1,b2⟩,b3⟩,b4⟩,_⟩,_⟩,_⟩:=this;refine⟨⟨?_,trivial⟩,trivial⟩;simp only[Item.ns,aaQ,abe,aeV,iT]
   exact awN
  exact awN
 ·obtain⟨b,hb⟩:=wU s4 x hx;have hwx:=hw x hx;unfold yk qX at hwx;simp only[aas,aaH]at hwx;obtain⟨⟨⟨w1,w2⟩,w3⟩,w4⟩:=hwx;unfold zn SE at hb;by_cases ht:(lM x.at_&&decide (b<=x.at_)&&decide (0<=x.src)&&decide (x.src<r.s.sources)&&(aX x.seq 0 1048576&&lM x.sY&&decide ((x.words.length:Int)<=64)))=true
  ·simp only[aas,aX,lM,aaH]at ht;obtain⟨⟨⟨⟨e1,e2⟩,e3⟩,e4⟩,⟨e5,e6⟩,e7⟩:=ht;unfold hI at hi;simp only[aaQ,aa1]at hi;rcases hi with rfl|⟨w,eL,rfl⟩
   ·refine⟨⟨?_,trivial⟩,trivial⟩;simp only[Item.ns,aaQ,abe,aeV,iT]
    exact awN
   ·have:=aaI.1 w4 w eL;unfold RV qX at this;simp only[aas,aaH]at this;obtain⟨⟨⟨⟨f1,f2⟩,f3⟩,f4⟩,f5⟩:=this;refine⟨⟨?_,?_⟩,trivial⟩
    ·simp_all[Item.ns,iT]
    ·simp only[Item.ts,aaQ];rintro s (rfl|hs)
     ·exact f4
     ·exact aaI.1 f5 s hs
  exact awN
 ·have:=h5 x hx;unfold yq at this;simp only[aas,aX,lM,aaH]at this;obtain⟨⟨⟨⟨⟨⟨⟨⟨⟨c1,c2⟩,c3⟩,c4⟩,c5⟩,c6⟩,c7⟩,c8⟩,c9⟩,Ca⟩:=this;refine⟨⟨?_,?_⟩,show x.words.length<=64 by omega⟩
  ·simp only[Item.ns,aaQ,abe,aeV,iT]
   exact awN
  ·simp only[Item.ts,aaQ];rintro s (rfl|hs)
   ·exact c9
   ·exact aaI.1 Ca s hs
def NQ{r:Rec}(h:bQ r=0)(hw:∀x∈r.s.heard,yk x=true)(hg:∀g∈r.s.grams.tail,(eb (cN g 0)).2=0/\(eb (cN g 0)).1.length<=65536):∀i∈items r,fC par i:=fun i hi=>(CK h hw i hi fun g vO _=>hg g vO).1
def aaK{s:ae}(h:(cF s).2.2≠0):ma s=none:=by simp_all[ma]
def am4:ma []=none:=aaK (by rw[aed ([],0) (by simp[exs])];decide)
def am5:ma [103,114,97,109,109,97,114,32,103,59]=none:=aaK (by
 rw[qY (l:=[⟨1,[103,114,97,109,109,97,114],0,0⟩,⟨1,[103],0,8⟩,⟨3,[59],0,9⟩]) (r:=(aA.zero,10,250)) awL avT ar]
 decide)
def am6:ma Xb=none:=by
 have h:cF Xb=(HI,0,0):=qY (l:=[⟨1,[103,114,97,109,109,97,114],0,0⟩,⟨1,[103],0,8⟩,⟨3,[59],0,10⟩,⟨1,[115,116,97,114,116],0,12⟩,⟨1,[115],0,18⟩,⟨3,[59],0,20⟩]) awL avT ar;have hr:(bF HI).2≠0:=avT
 simp_all[ma]
noncomputable def vr(line:ae):Bool:=match fL line with
 |w::f::fs=>(eM par w (f::fs)).isNone
 |_=>true
theorem P7{line:ae}(h:vr line=true)(x:Rd):ow par x line=none:=by grind [vr,ow,Option.isNone_iff_eq_none]
def Bs{fs:List ae}{line:ae}(hs:fL line=kD::fs)(h:ma (lF fs)=none):vr line=true:=by
 unfold vr;rw[hs];cases fs with
 |nil=>rfl
 |cons f fs=>
  show((ma (lF (f::fs))).map Item.ej).isNone=true;exact aww
theorem P1(line:ae):vr (32::line)=true:=by
 have hs:fL (32::line)=[]::fL line:=by rw[fL,aaO rfl]
 unfold vr;rw[hs];cases fL line with
 |nil=>rfl
 |cons f fs=>rfl
def yD(line:ae):List ae:=[[],[32],[120],[120,32,49],32::line,[115,101,116,117,112],[115,101,116,117,112,32,49,32,49,32,49,32,49,32,49,32,49],[115,101,116,117,112,32,49,32,49,32,49,32,49,32,49,32,49,32,49,32,49],[103,114,97,109,109,97,114],[103,114,97,109,109,97,114,32],[103,114,97,109,109,97,114,32,103,114,97,109,109,97,114,32,103,59],[103,114,97,109,109,97,114,32,103,114,97,109,109,97,114,32,103,32,59,32,115,116,97,114,116,32,115,32,59],[116,101,114,109,32,49,32,50,32,51,32,52],[116,101,114,109,32,49,32,50,32,51,32,52,32,50,32,97],[116,101,114,109,32,49,32,50,32,51,32,52,32,49,32,32,97],[104,111,117,115,101,32,49,32,50,32,51,32,52,32,53,32,54,32,55,32,56,32,57],[104,111,117,115,101,32,48,49,32,50,32,51,32,52,32,53,32,54,32,55,32,56,32,57,32,49,48],[98,117,100,103,101,116,32,49,32,50,32,51,32,52],[116,114,97,100,101,32,49,32,50,32,51,32,52,32,53,32,54,32,55,32,56],[118,105,101,119,101,114,32,49,32,50,32,51,32,52,32,53,32,54,32,50,32,56,32,57,32,49,48],[103,108,121,112,104,32,49,32,50],[107,101,114,110,32,49,32,50,32,45,51],[115,105,103,110,32,50,32,57,55],[115,105,103,110,32,49,32,53,53,50,57,54,32,51],[98,108,111,99,107,101,100,32,49,32,50,32,51],[118,105,115,105,116,32,49,32,50,32,51,32,52,32],[104,101,97,114,100,32,49,32,50,32,51,32,52,32,53,32,54],[104,101,97,114,100,32,49,32,50,32,51,32,52,32,53,32,54,32,49,48,57,57,53,49,49,54,50,55,55,55,55],[119,111,114,100,32,49,32,50,32,51],[119,111,114,100,32,49,32,50,32,51,32],[102,105,120,32,49,32,50,32,51,32,52,32,53,32,54],[102,105,120,32,49,32,50,32,51,32,52,32,53,32,54,32,255]]
def acy(line:ae)(jF:(10:UInt8)∉line):∀o∈yD line,vr o=true/\(10:UInt8)∉o:=by
 intro o ho;simp only[yD,aaQ,abe,aeV]at ho;rcases ho with rfl|rfl|rfl|rfl|rfl|rfl|rfl|rfl|rfl|rfl|rfl|rfl|rfl|rfl|rfl|rfl|rfl|rfl|rfl|rfl|rfl|rfl|rfl|rfl|rfl|rfl|rfl|rfl|rfl|rfl|rfl|rfl
 ·exact⟨avT,awL⟩
 ·exact⟨avT,awL⟩
 ·exact⟨avT,awL⟩
 ·exact⟨avT,awL⟩
 ·grind [P1]
 ·exact⟨avT,awL⟩
 ·exact⟨avT,awL⟩
 ·exact⟨avT,awL⟩
 ·exact⟨avT,awL⟩
 ·exact⟨Bs (fs:=[[]]) avT am4,awL⟩
 ·exact⟨Bs (fs:=[kD,[103,59]]) avT am5,awL⟩
 ·exact⟨Bs (fs:=[kD,[103],[59],[115,116,97,114,116],[115],[59]]) avT am6,awL⟩
 ·exact⟨avT,awL⟩
 ·exact⟨avT,awL⟩
 ·exact⟨avT,awL⟩
 ·exact⟨avT,awL⟩
 ·exact⟨avT,awL⟩
 ·exact⟨avT,awL⟩
 ·exact⟨avT,awL⟩
 ·exact⟨avT,awL⟩
 ·exact⟨avT,awL⟩
 ·exact⟨avT,awL⟩
 ·exact⟨avT,awL⟩
 ·exact⟨avT,awL⟩
 ·exact⟨avT,awL⟩
 ·exact⟨avT,awL⟩
 ·exact⟨avT,awL⟩
 ·exact⟨avT,awL⟩
 ·exact⟨avT,awL⟩
 ·exact⟨avT,awL⟩
 ·exact⟨avT,awL⟩
 ·exact⟨avT,awL⟩
def lA(g:aA):Prop:=(eb (cN g 0)).2=0/\(eb (cN g 0)).1.length<=65536
noncomputable def Am(r:Rec):Bool:=open Classical in decide (r.s.grams.head? =some aA.zero)&&r.s.heard.all yk&&decide (∀g∈r.s.grams.tail,lA g)
noncomputable def cw(r:Rec):ae×Int:=if bQ r≠0 then([],bQ r)else if Am r=true then(eu par (items r),0)else([],590)
noncomputable abbrev bO(s:ae):Rec×Int×Int:=lI par bQ s
def Ao(r:Rec):Am r=true<->(∃gl,r.s.grams=aA.zero::gl)/\(∀x∈r.s.heard,yk x=true)/\∀g∈r.s.grams.tail,lA g:=by
 unfold Am;simp only[aas,aaH,aaI,and_assoc];refine and_congr ?_ Iff.rfl;cases r.s.grams<;>grind
def K3(r:Rec):bQ r=0\/bQ r=2\/bQ r=540\/bQ r=550:=by
 unfold bQ eN
 exact awN
def kH{r:Rec}(h:(cw r).2=0):bQ r=0/\(∃gl,r.s.grams=aA.zero::gl)/\(∀i∈items r,fC par i)/\cw r=(eu par (items r),0):=by
 unfold cw at h⊢;by_cases h1:bQ r≠0
 ·exact awN
 rw[aaw h1]at h⊢;by_cases h2:Am r=true
 ·rw[aaO h2];obtain⟨c1,c2,c3⟩:=(Ao r).1 h2;have h1:=ae5 h1;exact⟨h1,c1,NQ h1 c2 c3,rfl⟩
 exact awN
def On{r:Rec}(h:(cw r).2≠0):(cw r).1=[]/\((cw r).2=590\/(cw r).2=bQ r):=by
 unfold cw at h⊢;by_cases h1:bQ r≠0
 ·rw[aaO h1];exact⟨rfl,.inr rfl⟩
 rw[aaw h1]at h⊢;by_cases h2:Am r=true
 ·rw[aaO h2]at h;exact absurd rfl h
 ·rw[aaw h2];exact⟨rfl,.inl rfl⟩
def Gu{g:aA}(h:fC par (.ej g)):lA g:=by
 have h:=h.2;have h:ma (rq g)=some g:=h;obtain⟨h1,h2,h3,h4⟩:=wY h;have e:cN g 0=(cF (rq g)).1:=(aaR (cN · 0) (h4.trans (ni h3))).trans ((Af _ _).trans (Jn (yb h1).1.2));unfold lA;rw[e,h2];exact⟨rfl,WG h1⟩
def Pa{r:Rec}(h:∀i∈items r,fC par i):∀x∈r.s.heard,yk x=true:=fun x hx=>by
 have mem:∀i∈hI x,i∈items r:=fun i hi=>by
  unfold items;simp only[aaQ,abr,aa1,afm,aku];exact .inr (.inr (.inr (.inr (.inr (.inr (.inr (.inr (.inl ⟨x,hx,hi⟩))))))))
 have h1:=(h _ (mem _ (aeY ..))).1;simp only[Item.ns,aaQ,abe,aeV]at h1;have a1:=h1 x.kind sI;have a2:=h1 x.sR sI;have a3:=h1 x.cut sI;unfold yk qX;simp only[aas,aaH,aaI];refine⟨⟨⟨a1,a2⟩,a3⟩,fun w hw=>?_⟩;have h2:=h _ (mem _ (aa2 _ (aa1.2 ⟨w,hw,rfl⟩)));have h3:=h2.1;have h4:∀s∈(Item.word w).ts par,dG s=true:=h2.2;simp only[Item.ns,aaQ,abe,aeV]at h3;have b1:=h3 w.f sI;have b2:=h3 w.u sI;have b3:=h3 w.s sI;unfold RV qX;simp only[aas,aaH,aaI];exact⟨⟨⟨⟨b1,b2⟩,b3⟩,h4 _ (aeY ..)⟩,fun s hs=>h4 s (aa2 _ hs)⟩
def Ho{r:Rec}(h:(cw r).2=0):bO (cw r).1=(r,0,0):=by
 obtain⟨h1,⟨gl,h2⟩,h3,h4⟩:=kH h;rw[h4];exact WX mI h2 h3 h1
def TD{s:ae}(h:(bO s).2.2=0):(bO s).2.1=0/\cw (bO s).1=(s,0)/\bQ (bO s).1=0:=by
 obtain⟨h1,h2,h3,h4,gl,h5⟩:=Lg mI (j_:=bQ) (src:=s) (r:=(bO s).1) (n:=(bO s).2.1) (by rw[<-h]);refine⟨h1,?_,h3⟩;have hc:Am (bO s).1=true:=(Ao _).2 ⟨⟨gl,h5⟩,Pa h4,fun g hg=>Gu (h4 _ (by
  unfold items;simp only[aaQ,abr,aa1,aku];exact .inr (.inl ⟨g,hg,rfl⟩)))⟩
 unfold cw;rw[aaw (by simp[h3]),aaO hc,<-h2]
theorem go_pos:∀ {ls:List ae} {n k:Nat} {x:Rd},oG par ls n x= .error k->n<k
 |[],_,_,_,h=>awI
 |l::ls,n,k,x,h=>by
  rw[oG]at h;cases ha:ow par x l with
  |none=>
   rw[ha]at h;injection h with h;exact oM
  |some y=>
   rw[ha]at h;have:=go_pos (ls:=ls) (n:=n+1) h;exact oM
theorem acP{s:ae}(h:(bO s).2.2≠0):(bO s).1=Rec.zero/\0<=(bO s).2.1/\((bO s).2.2=590<->0<(bO s).2.1):=by
 unfold bO lI at h⊢;cases hx:oG par (du s).1 0 Rd.zero with
 |error n=>
  have:=go_pos hx;exact aq5
 |ok x=>
  rw[hx]at h;simp only at h⊢;by_cases h1:(du s).2≠[]\/(du s).1=[]
  ·rw[aaO h1];exact aq5
  rw[aaw h1]at h⊢;by_cases h2:bQ x.r≠0
  ·rw[aaO h2];have:=K3 x.r;exact⟨rfl,avC,iff_of_false avC avC⟩
  ·rw[aaw h2]at h;exact absurd rfl h
def Ht:bO []=(Rec.zero,1,590):=by
 unfold bO lI;rw[show du []=([],[])from rfl];simp only[oG];rw[aaO (.inr trivial)];rfl
def aac{r:Rec}(h:(cw r).2=0)(n:Nat)(hn:0<n):(bO (eu par ((items r).take n))).2.1=0/\(bO (eu par ((items r).take n))).2.2≠590:=by
 obtain⟨h1,⟨gl,h2⟩,h3,h4⟩:=kH h;obtain⟨x,hx⟩:=WW mI (j_:=bQ) h2 h3 n hn;unfold bO;rw[hx];have:=K3 x
 exact awN
def XE{r:Rec}(h:(cw r).2=0){k:Nat}(hk:k<(items r).length){i:Item}(hi:(items r)[k]? =some i){o:ae}(ho:o∈yD (d_ par i))(rest:ae):bO (eu par ((items r).take k)++(o++10::rest))=(Rec.zero,(k:Int)+1,590):=by
 obtain⟨h1,⟨gl,h2⟩,h3,h4⟩:=kH h;obtain⟨o1,o2⟩:=acy _ (IW mI (h3 i (aat hi))) o ho
 grind [TF,mI,P7]
def eU(v:aV):Nat:=v.bq.gs.length+v.bq.ks.length+v.cz.length+v.br.bl.length
def many(r:Rec):Nat:=r.s.grams.length+r.s.cB.length+r.s.bG.length+r.s.bp.length+r.s.cy.length+r.s.aC.length+r.s.cr.length+r.s.heard.length+r.cn.length+(r.s.aC.map eU).sum+(r.s.heard.map fun h=>h.words.length).sum
theorem wS:∀l:List aV,(l.flatMap vI).length=l.length+(l.map eU).sum
 |[]=>rfl
 |v::l=>by
  rw[afs,aaY,wS l]
  grind [vI,eU]
theorem wR:∀l:List bL,(l.flatMap hI).length=l.length+(l.map fun h=>h.words.length).sum
 |[]=>rfl
 |v::l=>by
  rw[afs,aaY,wR l]
  grind [hI]
def V9{r:Rec}{gl:List aA}(hg:r.s.grams=aA.zero::gl):(items r).length=many r:=by
 unfold items many;rw[hg];simp only[aa5,aaY,aa0,List.tail_cons,wS,wR];exact oM
noncomputable def fe(r:Rec):List ae:=(items r).map fun i=>d_ par i++[10]
theorem HQ(l:List Item):eu par l=((l.map fun i=>d_ par i++[10])).flatten:=rfl
def R4(s:ae):List ae:=(du s).1.map (fun x=>x++[10])++[(du s).2]
def L5{r:Rec}(h:(cw r).2=0):R4 (cw r).1=fe r++[[]]:=by
 obtain⟨h1,⟨gl,h2⟩,h3,h4⟩:=kH h;rw[h4];unfold R4 fe;rw[EW mI h3,agw];rfl
def S6{r:Rec}(n:Nat)(hn:n<=(items r).length):((fe r++[[]]).take n).flatten=eu par ((items r).take n):=by rw[List.take_append_of_le_length (by simpa[fe]using hn),HQ,fe,List.map_take]
def gD:Rec:=⟨⟨1,1,100,50,10,30,8,[aA.zero],[⟨4,1,2,0,[[112,111,105,110,116],[111,102]],[[112]],[110,111,117,110],false⟩,⟨5,0,0,0,[[120]],[],[],true⟩],[⟨2,3,-1,0,9,0,0,8,7,6⟩],[⟨0,1,2,3,4⟩],[],[⟨3,0,2,100,0,0,true,⟨[⟨97,122,9⟩],5,[⟨97,98,-1⟩]⟩,[],⟨10,11,[⟨1,2,3,4⟩]⟩⟩],[⟨5,3,1,0⟩],[⟨50,0,0,45,1,0,0,[⟨[103,111,111,100],10,20,2,[[103,111,100]]⟩]⟩]⟩,[⟨1,70,80,2,10,11,[[98,97,100]],[109,105,115,104,101,97,114,100]⟩]⟩
def rN:ae:=[115,101,116,117,112,32,49,32,49,32,49,48,48,32,53,48,32,49,48,32,51,48,32,56,10,116,101,114,109,32,52,32,49,32,50,32,48,32,50,32,112,111,105,110,116,32,111,102,32,110,111,117,110,32,112,10,116,101,114,109,32,53,32,48,32,48,32,48,32,49,32,120,10,104,111,117,115,101,32,50,32,51,32,48,32,48,32,57,32,49,32,48,32,56,32,55,32,54,10,98,117,100,103,101,116,32,48,32,49,32,50,32,51,32,52,10,118,105,101,119,101,114,32,51,32,48,32,50,32,49,48,48,32,48,32,48,32,49,32,53,32,49,48,32,49,49,10,103,108,121,112,104,32,57,55,32,49,50,50,32,57,10,107,101,114,110,32,57,55,32,57,56,32,52,48,57,53,10,98,108,111,99,107,101,100,32,49,32,50,32,51,32,52,10,118,105,115,105,116,32,53,32,51,32,49,32,48,10,104,101,97,114,100,32,53,48,32,48,32,48,32,52,53,32,49,32,48,32,48,10,119,111,114,100,32,49,48,32,50,48,32,50,32,103,111,111,100,32,103,111,100,10,102,105,120,32,49,32,55,48,32,56,48,32,50,32,49,48,32,49,49,32,109,105,115,104,101,97,114,100,32,98,97,100,10]
def Xc:eN gD.s=0:=by
 unfold eN;rw[aaw awL,aaO];unfold rh;rw[aas,aas,aas];refine⟨⟨⟨avT,avT⟩,?_⟩,avT⟩;unfold iE;rw[aas,aas];refine⟨⟨avT,?_⟩,avT⟩;have hg:DL gD.s.cr:=fun j v h=>by
  cases j with
  |zero=>
   injection h with h;subst h
   exact avT
  |succ j=>cases h
 unfold hU;rw[aaw awL,aaO hg];rfl
def WZ:bQ gD=0:=by
 unfold bQ;rw[Xc,aaw sI,aaw awL,aaO avT]
def yH:cw gD=(rN,0):=by
 have hc:Am gD=true:=(Ao _).2 ⟨⟨[],rfl⟩,avT,fun g hg=>by cases hg⟩;unfold cw;rw[WZ,aaw sI,aaO hc];exact aaR (·,0) avT
theorem A9:bO rN=(gD,0,0):=by
 have:=Ho (r:=gD) (by rw[yH]);rwa[yH]at this
theorem Tx:cw Rec.zero=([],540):=by
 have h:eN Rec.zero.s=540:=by
  unfold eN;rw[aaw awL,aaw];unfold rh;rw[aas,aas,aas];rintro⟨⟨⟨h,_⟩,_⟩,_⟩;exact absurd h avT
 have h:bQ Rec.zero=540:=by
  unfold bQ;rw[h,aaO awL]
 unfold cw;rw[h,aaO awL]
def Jy{s line rest:ae}(hs:s=line++10::rest)(jF:(10:UInt8)∉line)(hw:vr line=true):bO s=(Rec.zero,1,590):=by
 unfold bO lI;rw[hs,rn _ jF];simp only[oG,P7 hw];rfl
def TC:bO [104,111,117,115,101,32,49,10]=(Rec.zero,1,590):=Jy (line:=[104,111,117,115,101,32,49]) (rest:=[]) rfl awL avT
def acO:bO [115,101,116,117,112,32,49,32,49,32,49,48,48,32,53,48,32,49,48,32,51,48,32,48,56,10]=(Rec.zero,1,590):=Jy (line:=[115,101,116,117,112,32,49,32,49,32,49,48,48,32,53,48,32,49,48,32,51,48,32,48,56]) (rest:=[]) rfl awL avT
def WV:bO [115,101,116,117,112,32,49,32,49,32,49,48,48,32,53,48,32,49,48,32,51,48,32,56]=(Rec.zero,1,590):=by
 unfold bO lI;rw[show du [115,101,116,117,112,32,49,32,49,32,49,48,48,32,53,48,32,49,48,32,51,48,32,56]=([],[115,101,116,117,112,32,49,32,49,32,49,48,48,32,53,48,32,49,48,32,51,48,32,56])from avT];simp only[oG];rw[aaO (.inl sI)];rfl
def TE:bO [115,101,116,117,112,32,49,32,49,32,49,48,48,32,53,48,32,49,48,32,51,48,32,56,10]=(Rec.zero,0,540):=by
 unfold bO lI;rw[show du [115,101,116,117,112,32,49,32,49,32,49,48,48,32,53,48,32,49,48,32,51,48,32,56,10]=([[115,101,116,117,112,32,49,32,49,32,49,48,48,32,53,48,32,49,48,32,51,48,32,56]],[])from avT];have ha:ow par Rd.zero [115,101,116,117,112,32,49,32,49,32,49,48,48,32,53,48,32,49,48,32,51,48,32,56]=some ⟨⟨⟨1,1,100,50,10,30,8,[aA.zero],[],[],[],[],[],[],[]⟩,[]⟩,1,0⟩:=by
  unfold ow;rw[show fL [115,101,116,117,112,32,49,32,49,32,49,48,48,32,53,48,32,49,48,32,51,48,32,56]=[[115,101,116,117,112],[49],[49],[49,48,48],[53,48],[49,48],[51,48],[56]]from avT];simp only;have hp:=Ro mI.toOk (i:=.fU 1 1 100 50 10 30 8) ⟨awL,trivial⟩;rw[show Item.f par (.fU 1 1 100 50 10 30 8)=[[49],[49],[49,48,48],[53,48],[49,48],[51,48],[56]]from avT]at hp;rw[show eM par [115,101,116,117,112] [[49],[49],[49,48,48],[53,48],[49,48],[51,48],[56]]=_ from hp];rfl
 simp only[oG,ha];have h:eN ⟨1,1,100,50,10,30,8,[aA.zero],[],[],[],[],[],[],[]⟩=540:=by
  unfold eN;rw[aaw awL,aaw];unfold rh;rw[aas,aas,aas];rintro⟨⟨⟨_,h⟩,_⟩,_⟩;exact absurd h avT
 simp_all[bQ]
inductive Arg where
 |n (x:Int)
 |ns (l:List Int)
 |s (x:ae)
 |ss (l:List ae)
 |b (x:Bool)
def Arg.f:Arg->List ae
 | .n x=>[it x]
 | .ns l=>l.map it
 | .s x=>[x]
 | .ss l=>l
 | .b x=>[it (bN x)]
def cL(fs:List ae):ae:=fs.flatMap fun x=>32::x
theorem Fl(a b:List ae):cL (a++b)=cL a++cL b:=List.flatMap_append
theorem uf(x:ae):cL [x]=32::x:=by simp[cL]
def yI(w:ae)(l:List Arg):ae:=w++(cL (l.flatMap Arg.f)++[10])
theorem IM:∀(w:ae) (fs:List ae),lF (w::fs)=w++cL fs
 |w,[]=>by rw[px];simp[cL]
 |w,x::fs=>by
  rw[lW,IM x fs];simp[cL]
theorem Rn(s:ae):cL (fL s)=32::s:=by
 have h:=IM [] (fL s);cases hs:fL s<;>grind [zV,lW,rJ]
def Zo{p:j9}(i:Item){args:List Arg}(h:cL (args.flatMap Arg.f)=cL (i.f p)):d_ p i++[10]=yI i.w args:=by grind [d_,yI,IM]
def i_(s:ae):List ae:=(du s).1.map (fun x=>x++[10])++if(du s).2=[]then[]else[(du s).2]
def pZ(p:j9)(x:Rd)(line:ae):Option Rd:=if line.getLast? =some 10 then ow p x line.dropLast else none
def kZ(p:j9):List ae->Nat->Rd->Except Nat Rd
 |[],_,x=> .ok x
 |l::ls,n,x=>match pZ p x l with
  |none=> .error (n+1)
  |some y=>kZ p ls (n+1) y
def Ue(p:j9)(x:Rd)(l:ae):pZ p x (l++[10])=ow p x l:=by simp_all[pZ]
theorem Hx{p:j9}:∀(ls:List ae) (n:Nat) (x:Rd) (m:List ae),kZ p (ls.map (fun x=>x++[10])++m) n x=match oG p ls n x with
  | .error k=> .error k
  | .ok y=>kZ p m (n+ls.length) y
 |[],n,x,m=>rfl
 |l::ls,n,x,m=>by
  show kZ p ((l++[10])::(ls.map (fun x=>x++[10])++m)) n x=_;rw[kZ,Ue,oG];cases ow p x l with
  |none=>rfl
  |some y=>
   show kZ p (ls.map (fun x=>x++[10])++m) (n+1) y=_;rw[Hx ls (n+1) y m,aa5,show n+1+ls.length=n+(ls.length+1) by omega]
theorem ad7:∀s,(10:UInt8)∉(du s).2
 |s=>by
  have key:∀(k:Nat) (s:ae),s.length<=k->(10:UInt8)∉(du s).2:=by
   intro k;induction k with
   |zero=>
    simp_all[du]
   |succ k ih=>
    intro s h;by_cases hm:(10:UInt8)∈s
    ·obtain⟨a,b,rfl,ha⟩:∃a b,s=a++10::b/\(10:UInt8)∉a:=List.eq_append_cons_of_mem hm
     grind [rn]
    grind [y8]
  exact key s.length s (aaN _)
theorem K0(p:j9)(j_:Rec->Int)(s:ae):lI p j_ s=match kZ p (i_ s) 0 Rd.zero with
 | .error n=>(Rec.zero,(n:Int),590)
 | .ok x=>if s=[]then(Rec.zero,1,590)else if j_ x.r≠0 then(Rec.zero,0,j_ x.r)else(x.r,0,0):=by
 have he:=y8 s;have hn:=ad7 s;unfold lI i_;rw[Hx];cases oG p (du s).1 0 Rd.zero with
 |error n=>rfl
 |ok x=>
  simp only;by_cases h2:(du s).2=[]
  ·rw[aaO h2];simp only[kZ];by_cases h1:(du s).1=[]
   ·rw[aaO (.inr h1),aaO (by rw[he,h1,h2];rfl),h1];rfl
   ·have hs:s≠[]:=fun h0=>h1 (by rw[h0];rfl)
    exact awN
  ·rw[aaw h2,aaO (.inl h2)];have hl:¬(du s).2.getLast? =some 10:=fun h=>hn (List.mem_of_getLast? h);simp only[kZ,pZ]
   exact awN
end Go.V.Rp
