/- Lemmas on plain data and programs: part B33. -/
import Derived.Test.YtkknfajchefgaaaGreatDoorVE
import Derived.Test.YtkknfajchefgaaaGreatDoorB30
set_option linter.all false
set_option maxHeartbeats 8000000
set_option maxRecDepth 100000
namespace Go.V.Ty
open Go.Proofs Go.RowKit Go.V.Lx Go.V.Gr
theorem tT{α:Type}{es:List D}{f:α->D}{p:α->Prop}(h:∀x∈es,∃a,x=f a/\p a):∃l:List α,es=l.map f/\∀x∈l,p x:=by
 induction es with
 |nil=>exact⟨[],rfl,fun x hx=>awG⟩
 |cons x es ih=>
  obtain⟨a,rfl,ha⟩:=h x sI;obtain⟨l,rfl,hl⟩:=ih fun y hy=>h y (by simp[hy]);exact⟨a::l,rfl,fun y hy=>by
   rcases aaQ.1 hy with rfl|hy
   ·exact ha
   ·exact hl y hy⟩
def gf{n:Nat}(h:n<=reachBytes):n<=140737488355328:=by unfold reachBytes at h;show n<=140737488355328;omega
def vj:Sh:=.slice 1 .str
def HD:Sh:=.agg [.str,.int .i64,.str]
def HC:Sh:=.agg [.int .i64,.str]
def D5:Sh:=.agg [.str,.str,.int .i64,vj,.int .i64]
def HE:Sh:=.agg [.str,.int .i64,.slice 3 HD,.slice 2 HC,.int .i64]
def Dp:Sh:=.agg [.str,vj,.str,.int .i64,.slice 5 D5,.slice 5 HE]
def tO{ys:List D}(h:vj.cp ys):∃l:List ae,ys=[strs l]/\l.length<=140737488355328/\∀s∈l,s.length<=140737488355328:=by
 simp only[vj,Sh.cp]at h;obtain⟨es,rfl,hl,h⟩:=h;obtain⟨l,rfl,hp⟩:=tT (f:=D.str) (p:=fun s=>s.length<=140737488355328) (es:=es) fun x hx=>by
  obtain⟨zs,rfl,s,rfl,hs⟩:=h x hx;exact⟨s,rfl,gf hs⟩
 exact⟨l,rfl,by rw[aa0]at hl;exact gf hl,hp⟩
def YR{ys:List D}(h:HD.cp ys):∃x:Part,HD.pack ys=x.d/\SmP x:=by
 simp only[HD,Sh.cp,Sh.jo]at h;obtain⟨a,b,rfl,⟨m,rfl,h1⟩,c,e,rfl,⟨s,rfl,_⟩,c2,e2,rfl,⟨n,rfl,h2⟩,rfl⟩:=h;exact⟨⟨m,s,n⟩,rfl,gf h2,gf h1⟩
def YO{ys:List D}(h:HC.cp ys):∃x:bt,HC.pack ys=x.d/\small x.text:=by
 simp only[HC,Sh.cp,Sh.jo]at h;obtain⟨a,b,rfl,⟨m,rfl,h1⟩,c,e,rfl,⟨s,rfl,h2⟩,rfl⟩:=h;exact⟨⟨m,s⟩,rfl,gf h2⟩
def Vr{ys:List D}(h:D5.cp ys):∃x:Entry,D5.pack ys=x.d/\SmE x:=by
 simp only[D5,Sh.cp,Sh.jo]at h;obtain⟨a,b,rfl,⟨t,rfl,h1⟩,c,e,rfl,⟨s,rfl,h2⟩,c2,e2,rfl,⟨n,rfl,_⟩,c3,e3,rfl,h3,c4,e4,rfl,⟨k,rfl,_⟩,rfl⟩:=h;obtain⟨l,rfl,hl,hp⟩:=tO h3;exact⟨⟨t,s,n,l,k⟩,rfl,gf h1,gf h2,hl,hp⟩
def YT{ys:List D}(h:HE.cp ys):∃x:aF,HE.pack ys=x.d/\Ub x:=by
 simp only[HE,Sh.cp,Sh.jo]at h;obtain⟨a,b,rfl,⟨t,rfl,h1⟩,c,e,rfl,⟨s,rfl,_⟩,c2,e2,rfl,⟨ps,rfl,nF,h2⟩,c3,e3,rfl,⟨gs,rfl,xS,h3⟩,c4,e4,rfl,⟨k,rfl,_⟩,rfl⟩:=h;obtain⟨l,rfl,hp⟩:=tT (f:=Part.d) (p:=SmP) (es:=ps) fun x hx=>by
  obtain⟨zs,rfl,hz⟩:=h2 x hx;exact YR hz
 obtain⟨m,rfl,hq⟩:=tT (f:=bt.d) (p:=fun x=>small x.text) (es:=gs) fun x hx=>by
  obtain⟨zs,rfl,hz⟩:=h3 x hx;exact YO hz
 rw[aa0]at nF xS;exact⟨⟨t,s,l,m,k⟩,rfl,gf h1,gf nF,gf xS,hp,hq⟩
def YP{d:D}(h:Dp.has d):∃g:aA,d=g.d/\ov g:=by
 obtain⟨ys,rfl,h⟩:=h;simp only[Dp,Sh.cp,Sh.jo]at h;obtain⟨a,b,rfl,⟨t,rfl,h1⟩,c,e,rfl,h2,c2,e2,rfl,⟨s,rfl,h3⟩,c3,e3,rfl,⟨n,rfl,_⟩,c4,e4,rfl,⟨es,rfl,fO,h4⟩,c5,e5,rfl,⟨rs,rfl,xW,h5⟩,rfl⟩:=h;obtain⟨l,rfl,hl,hp⟩:=tO h2;obtain⟨m,rfl,hm⟩:=tT (f:=Entry.d) (p:=SmE) (es:=es) fun x hx=>by
  obtain⟨zs,rfl,hz⟩:=h4 x hx;exact Vr hz
 obtain⟨k,rfl,hk⟩:=tT (f:=aF.d) (p:=Ub) (es:=rs) fun x hx=>by
  obtain⟨zs,rfl,hz⟩:=h5 x hx;exact YT hz
 rw[aa0]at fO xW;exact⟨⟨t,l,s,n,m,k⟩,rfl,gf h1,gf h3,hl,gf fO,gf xW,hp,hm,hk⟩
structure Typed(g:aA):Prop where
 start:g.aB.contains g.start=true
 JR:∀x∈g.entries,g.aB.contains x.cat=true
 Hw:∀x∈g.rules,g.aB.contains x.cat=true
 part:∀x∈g.rules,∀q∈x.parts,q.text=[]->g.aB.contains q.cat=true
def O5{g:aA}(h:iB g.aB.contains g=true):Typed g:=by
 simp only[iB,aas,aaI]at h;obtain⟨h1,h2,h3,h4,h5,h6⟩:=h;refine⟨h4,fun x hx=>?_,fun x hx=>?_,fun x hx q hq ht=>?_⟩
 ·simp_all[oC]
 ·simp_all[jj]
 ·have:=h6 x hx;simp only[jj,aas,aaI]at this
  grind [gG]
end Go.V.Ty
