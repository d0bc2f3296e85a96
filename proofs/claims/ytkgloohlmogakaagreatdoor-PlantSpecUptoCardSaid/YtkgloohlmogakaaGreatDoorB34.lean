/- Lemmas on plain data and programs: part B34. -/
import Derived.Test.YtkgloohlmogakaaGreatDoorB31
set_option linter.all false
set_option maxHeartbeats 8000000
namespace Go.V.Jn
open Go.Proofs Go.RowKit Go.V.Lx Go.V.Gr Go.V.Ty Go.V.St
abbrev g0:aS:=⟨[],[],[],0,[],[]⟩
abbrev b0:aO:=⟨0,0,0,0,0⟩
abbrev s1:aV:=⟨1,1,100,50,0,300,8,[g0],[],[],[b0],[],[],[],[]⟩
abbrev hE(n t:Int):bc:=⟨t,0,n,0,1,0,0,[⟨[119,111,114,100],t,t+3,0,[]⟩]⟩
def Dq(l:List bc)(hl:l.length<=3):bQ (bL s1 l)=if kC (bL s1 l)then 0 else 540:=by
 unfold bQ;rw[if_neg (by simp;omega)];have:ua (bL s1 l)=kC (bL s1 l):=by
  unfold ua;have h1:tZ 1 1 100 50 0 300 8=true:=by decide+kernel
  have h2:fE (bL s1 l)=true:=by
   simp[fE,CT,FR,nI,jN,dM];exact⟨rfl,rfl,rfl,rfl⟩
  have h3:fX (bL s1 l)=true:=by
   simp[fX,ej];exact fun j v h=>by simp at h
  rw[h2,h3];simp only[h1,Bool.true_and]
 rw[this]
def OD:bQ s1=0:=by rw[show s1=bL s1 []from rfl,Dq [] sI];rfl
def XM:bQ (bL s1 [hE 0 7])=0:=by rw[Dq _ sI];rfl
def XN:bQ (bL s1 [hE 0 7,hE 1 8])=0:=by rw[Dq _ sI];rfl
def XO:bQ (bL s1 [hE 0 7,hE 1 8,hE 2 3])=540:=by rw[Dq _ sI];rfl
def II:bQ s0=540:=by
 unfold bQ;rw[if_neg sI];rfl
def Io:bM (bW (hE 0 7))=1:=by decide+kernel
def XI:bM (bW (hE 1 8))=1:=by decide+kernel
def Ef{s:aV}(h:bQ s=0):s.heard.length<=4096:=by
 unfold bQ at h;split at h
 ·cases h
 ·omega
def lP{s:aV}(h:St.eA s){l:List bc}(hl:l.length<=140737488355328):St.eA (bL s l):=⟨h.gr,h.te,h.vi,h.ki,h.lg,h.lt,h.lv,h.li,hl⟩
def y9{p:bI}(hp:PG p)(os:St.eA p.bY)(oh:∀h∈p.bY.heard,lK h):rD p:=by
 have h1:=Ef hp.bY;obtain⟨⟨j1,j2⟩,j3,j4,j5⟩:=kJ hp.bZ;obtain⟨⟨d1,d2⟩,d3,d4,d5⟩:=lW hp.cu;exact⟨os,by omega,oh,by simp only[oK];omega,⟨by simp[Lm];omega,by rw[hp.bC];simp[Lm]⟩⟩
def Aa{p:bI}(hp:PG p):p.bZ.bh.length<=4096:=by
 obtain⟨⟨j1,j2⟩,j3,j4,j5⟩:=kJ hp.bZ;have:=l_ p.bZ.bh;omega
def wO:St.eA s1:=by
 refine⟨fun g hg=>?_,by simp,by simp,by simp,by simp[Lm],by simp[Lm],by simp[Lm],by simp[Lm],by simp[Lm]⟩;obtain rfl:=List.mem_singleton.1 hg;exact⟨⟨by simp[small],by simp[small],by simp,by simp,by simp,by simp,by simp,by simp⟩,by simp⟩
def HH:lK (hE 0 7):=⟨by simp[cV,cz,okW,rU],by decide+kernel⟩
def QA:lK (hE 1 8):=⟨by simp[cV,cz,okW,rU],by decide+kernel⟩
def Xd:lK (hE 2 3):=⟨by simp[cV,cz,okW,rU],by decide+kernel⟩
theorem Xn:iN p0=false:=by
 cases h:iN p0 with
 |false=>rfl
 |true=>have:=((eH p0).1 h).bY;rw[II]at this;cases this
def Xg:rD p0:=⟨⟨by simp,by simp,by simp,by simp,by simp[Lm],by simp[Lm],by simp[Lm],by simp[Lm],by simp[Lm]⟩,by simp,by simp,by simp[oK,aW],by simp[Lm],by simp[Lm]⟩
def G2{p:bI}{h:bc}(hp:PG p)(hs:bQ (bL p.bY (p.bY.heard++[h]))=0)(hr:(aW p.bZ.bh:Int)+bM (bW h)<=p.bZ.many):(d_ p h).2=0:=by
 have ha:(fU p.bZ (bW h)).2=0:=by unfold fU;rw[if_pos hp.bZ,if_neg oM]
 unfold d_;rw[if_pos ((eH p).2 hp),if_pos hs,if_pos ha]
def examples:∃(j5 j1 jl jk j2 j3 jf:gm) (d5 dl dk d2 df:cI),
 eu s1 5=(⟨s1,j5,d5⟩,0)/\PG ⟨s1,j5,d5⟩/\d_ ⟨s1,j5,d5⟩ (hE 0 7)=(⟨bL s1 [hE 0 7],j1,d5⟩,0)/\PG ⟨bL s1 [hE 0 7],j1,d5⟩/\
 gi ⟨bL s1 [hE 0 7],j1,d5⟩ 0=(⟨s1,jl,dl⟩,0)/\gi ⟨bL s1 [hE 0 7],j1,d5⟩ 9=(⟨bL s1 [hE 0 7],jk,dk⟩,0)/\n6 ⟨bL s1 [hE 0 7],j1,d5⟩=(⟨bL s1 [hE 0 7],j2,d2⟩,0)/\PG ⟨bL s1 [hE 0 7],j2,d2⟩/\
 d_ ⟨bL s1 [hE 0 7],j2,d2⟩ (hE 1 8)=(⟨bL s1 [hE 0 7,hE 1 8],j3,d2⟩,0)/\PG ⟨bL s1 [hE 0 7,hE 1 8],j3,d2⟩/\j3.sync=1/\gi ⟨bL s1 [hE 0 7,hE 1 8],j3,d2⟩ 0=(⟨bL s1 [hE 0 7],jf,df⟩,0)/\
 d_ ⟨bL s1 [hE 0 7,hE 1 8],j3,d2⟩ (hE 2 3)=(p0,1):=by
 have n5:(eu s1 5).2=0:=by simp[eu,OD,jx]
 obtain⟨_,_,hN,GS,_,_⟩:=D0 n5;rw[hN]at GS;simp only at GS;have h1:=G2 (h:=hE 0 7) GS XM (by rw[Io];simp[aW]);obtain⟨e1,p1⟩:=Bd GS h1;rw[e1]at p1;simp only[List.nil_append]at e1 p1;have g1:cP (List.replicate (5:Int).toNat cK)=1:=GK _;obtain⟨Sl,ql,el,_,_,_,_,zl,_⟩:=ur p1 (n:=0) oM oM (by simp only[g1];omega);have zl:=zl rfl;simp only at zl;obtain rfl:ql=0:=oM;obtain⟨Sk,qk,ek,_,_,_,_,_,zk⟩:=ur p1 (n:=9) oM oM (by simp only[g1];omega);have zk:=zk (by simp[aW,Io]);simp only[List.length_cons,List.length_nil]at zk;subst zk;obtain⟨S2,e2,p2,g2⟩:=Fi p1 (by simp only[g1];omega);rw[e2]at p2;simp only at e2 p2 g2;rw[g1]at g2;have h3:=G2 (h:=hE 1 8) p2 XN (by rw[XI];simp[aW,Io]);obtain⟨e3,p3⟩:=Bd p2 h3;rw[e3]at p3;simp only[List.cons_append,List.nil_append]at e3 p3;obtain⟨Sf,qf,ef,_,_,_,_,zf,_⟩:=ur p3 (n:=0) oM oM (by simp only;omega);have zf:=zf rfl;simp only[List.length_cons,List.length_nil]at zf;obtain rfl:qf=1:=oM;refine⟨_,_,_,_,_,_,_,_,_,_,_,_,hN,GS,e1,p1,el,ek,e2,p2,e3,p3,by simp,ef,?_⟩;unfold d_;rw[if_pos ((eH _).2 p3),if_neg];simp only[List.cons_append,List.nil_append];rw[XO]
 decide
def UU(sy j:Nat):Prop:=sy / 2 ^ (min j 16) % 2=1
instance(sy j:Nat):Decidable (UU sy j):=by unfold UU;infer_instance
structure RI(s:aV)(l:List bc)(j:Nat)(p:bI)(all:List bc)(safe:Nat):Prop where
 pg:PG p
 bY:p.bY=bL s all
 SH:p.bZ.sync=safe
 gen:cP p.cu.aZ<=1+min j 16
 mem:∀h∈all,h∈l
theorem RI.skip{s:aV}{l:List bc}{j:Nat}{p:bI}{all:List bc}{safe:Nat}(h:RI s l j p all safe):RI s l (j+1) p all safe:=⟨h.pg,h.bY,h.SH,by have:=h.gen;omega,h.mem⟩
theorem RI.sync{s:aV}{l:List bc}{j:Nat}{p:bI}{all:List bc}{safe:Nat}(h:RI s l j p all safe)(hj:j<16):(n6 p).2=0/\RI s l (j+1) (n6 p).1 all all.length:=by
 have hg:=h.gen;obtain⟨S,e,g,hS⟩:=Fi h.pg oM;refine⟨by rw[e],g,by rw[e];exact h.bY,?_,?_,h.mem⟩
 ·rw[e];simp only[h.pg.bh,List.length_map,h.bY]
 ·rw[e];simp only;omega
theorem RI.new{s:aV}{l:List bc}(hs:bQ s=0)(h0:s.heard=[]):(eu s 60).2=0/\RI s l 0 (eu s 60).1 [] 0:=by
 have n5:(eu s 60).2=0:=by simp[eu,hs,jx,h0]
 obtain⟨_,_,hN,GS,_,_⟩:=D0 n5;refine⟨n5,GS,?_,?_,?_,by simp⟩
 ·rw[hN];simp only;rw[<-h0]
 ·rw[hN];rfl
 ·rw[hN];simp only;rw[show cP (List.replicate (60:Int).toNat cK)=1 from GK _];omega
end Go.V.Jn
