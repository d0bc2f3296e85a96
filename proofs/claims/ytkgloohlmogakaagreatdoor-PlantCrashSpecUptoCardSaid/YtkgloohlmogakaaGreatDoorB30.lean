/- Plain laws: B30. -/
import Derived.Test.YtkgloohlmogakaaGreatDoorB28
set_option linter.all false
set_option maxHeartbeats 8000000
namespace Go.V.Jn
open Go.Proofs Go.RowKit Go.V.Lx Go.V.Gr Go.V.Ty Go.V.St
abbrev g0:aW:=⟨[],[],[],0,[],[]⟩
abbrev b0:aP:=⟨0,0,0,0,0⟩
abbrev s1:bg:=⟨1,1,100,50,0,300,8,[g0],[],[],[b0],[],[],[],[]⟩
abbrev hE(n t:Int):bn:=⟨t,0,n,0,1,0,0,[⟨[119,111,114,100],t,t+3,0,[]⟩]⟩
def DF(l:List bn)(hl:l.length<=3):cd (cb s1 l)=if kJ (cb s1 l)then 0 else 540:=by
 unfold cd;rw[if_neg (by simp;omega)];have:uu (cb s1 l)=kJ (cb s1 l):=by
  unfold uu;have h1:uq 1 1 100 50 0 300 8=true:=by decide+kernel
  have h2:fH (cb s1 l)=true:=by
   simp[fH,C7,Ga,nO,jO,dU];exact⟨rfl,rfl,rfl,rfl⟩
  have h3:gd (cb s1 l)=true:=by
   simp[gd,eu];exact fun j v h=>by simp at h
  rw[h2,h3];simp only[h1,Bool.true_and]
 rw[this]
def O2:cd s1=0:=by rw[show s1=cb s1 []from rfl,DF [] sI];rfl
def Yj:cd (cb s1 [hE 0 7])=0:=by rw[DF _ sI];rfl
def Yk:cd (cb s1 [hE 0 7,hE 1 8])=0:=by rw[DF _ sI];rfl
def Yl:cd (cb s1 [hE 0 7,hE 1 8,hE 2 3])=540:=by rw[DF _ sI];rfl
def I6:cd s0=540:=by
 unfold cd;rw[if_neg sI];rfl
def IG:bm (cz (hE 0 7))=1:=by decide+kernel
def Yf:bm (cz (hE 1 8))=1:=by decide+kernel
def Et{s:bg}(h:cd s=0):s.heard.length<=4096:=by
 unfold cd at h;split at h
 ·cases h
 ·omega
def nI{s:bg}(h:St.fB s){l:List bn}(hl:l.length<=140737488355328):St.fB (cb s l):=⟨h.gr,h.te,h.vi,h.ki,h.lg,h.lt,h.lv,h.li,hl⟩
def zn{p:bG}(hp:PG p)(os:St.fB p.cn)(oh:∀h∈p.cn.heard,oG h):qi p:=by
 have h1:=Et hp.cn;obtain⟨⟨j1,j2⟩,j3,j4,j5⟩:=kT hp.cm;obtain⟨⟨d1,d2⟩,d3,d4,d5⟩:=kG hp.cg;exact⟨os,by omega,oh,by simp only[pK];omega,⟨by simp[Lm];omega,by rw[hp.br];simp[Lm]⟩⟩
def Aq{p:bG}(hp:PG p):p.cm.bJ.length<=4096:=by
 obtain⟨⟨j1,j2⟩,j3,j4,j5⟩:=kT hp.cm;have:=lr p.cm.bJ;omega
def xg:St.fB s1:=by
 refine⟨fun g hg=>?_,by simp,by simp,by simp,by simp[Lm],by simp[Lm],by simp[Lm],by simp[Lm],by simp[Lm]⟩;obtain rfl:=List.mem_singleton.1 hg;exact⟨⟨by simp[small],by simp[small],by simp,by simp,by simp,by simp,by simp,by simp⟩,by simp⟩
def H0:oG (hE 0 7):=⟨by simp[c_,cF,okW,sb],by decide+kernel⟩
def Q1:oG (hE 1 8):=⟨by simp[c_,cF,okW,sb],by decide+kernel⟩
def XK:oG (hE 2 3):=⟨by simp[c_,cF,okW,sb],by decide+kernel⟩
theorem XT:iw p0=false:=by
 cases h:iw p0 with
 |false=>rfl
 |true=>have:=((eg p0).1 h).cn;rw[I6]at this;cases this
def XN:qi p0:=⟨⟨by simp,by simp,by simp,by simp,by simp[Lm],by simp[Lm],by simp[Lm],by simp[Lm],by simp[Lm]⟩,by simp,by simp,by simp[pK,aV],by simp[Lm],by simp[Lm]⟩
def Hj{p:bG}{h:bn}(hp:PG p)(hs:cd (cb p.cn (p.cn.heard++[h]))=0)(hr:(aV p.cm.bJ:Int)+bm (cz h)<=p.cm.many):(j7 p h).2=0:=by
 have ha:(lK p.cm (cz h)).2=0:=by unfold lK;rw[if_pos hp.cm,if_neg oM]
 unfold j7;rw[if_pos ((eg p).2 hp),if_pos hs,if_pos ha]
def examples:∃(j5 j1 jl jk j2 j3 jf:gy) (d5 dl dk d2 df:bV),
 jg s1 5=(⟨s1,j5,d5⟩,0)/\PG ⟨s1,j5,d5⟩/\j7 ⟨s1,j5,d5⟩ (hE 0 7)=(⟨cb s1 [hE 0 7],j1,d5⟩,0)/\PG ⟨cb s1 [hE 0 7],j1,d5⟩/\
 cZ ⟨cb s1 [hE 0 7],j1,d5⟩ 0=(⟨s1,jl,dl⟩,0)/\cZ ⟨cb s1 [hE 0 7],j1,d5⟩ 9=(⟨cb s1 [hE 0 7],jk,dk⟩,0)/\fh ⟨cb s1 [hE 0 7],j1,d5⟩=(⟨cb s1 [hE 0 7],j2,d2⟩,0)/\PG ⟨cb s1 [hE 0 7],j2,d2⟩/\
 j7 ⟨cb s1 [hE 0 7],j2,d2⟩ (hE 1 8)=(⟨cb s1 [hE 0 7,hE 1 8],j3,d2⟩,0)/\PG ⟨cb s1 [hE 0 7,hE 1 8],j3,d2⟩/\j3.sync=1/\cZ ⟨cb s1 [hE 0 7,hE 1 8],j3,d2⟩ 0=(⟨cb s1 [hE 0 7],jf,df⟩,0)/\
 j7 ⟨cb s1 [hE 0 7,hE 1 8],j3,d2⟩ (hE 2 3)=(p0,1):=by
 have n5:(jg s1 5).2=0:=by simp[jg,O2,nG]
 obtain⟨_,_,hN,G9,_,_⟩:=KB n5;rw[hN]at G9;simp only at G9;have h1:=Hj (h:=hE 0 7) G9 Yj (by rw[IG];simp[aV]);obtain⟨e1,p1⟩:=Hi G9 h1;rw[e1]at p1;simp only[List.nil_append]at e1 p1;have g1:cB (List.replicate (5:Int).toNat dD)=1:=G1 _;obtain⟨Sl,ql,el,_,_,_,_,zl,_⟩:=uL p1 (n:=0) oM oM (by simp only[g1];omega);have zl:=zl rfl;simp only at zl;obtain rfl:ql=0:=oM;obtain⟨Sk,qk,ek,_,_,_,_,_,zk⟩:=uL p1 (n:=9) oM oM (by simp only[g1];omega);have zk:=zk (by simp[aV,IG]);simp only[List.length_cons,List.length_nil]at zk;subst zk;obtain⟨S2,e2,p2,g2⟩:=zB p1 (by simp only[g1];omega);rw[e2]at p2;simp only at e2 p2 g2;rw[g1]at g2;have h3:=Hj (h:=hE 1 8) p2 Yk (by rw[Yf];simp[aV,IG]);obtain⟨e3,p3⟩:=Hi p2 h3;rw[e3]at p3;simp only[List.cons_append,List.nil_append]at e3 p3;obtain⟨Sf,qf,ef,_,_,_,_,zf,_⟩:=uL p3 (n:=0) oM oM (by simp only;omega);have zf:=zf rfl;simp only[List.length_cons,List.length_nil]at zf;obtain rfl:qf=1:=oM;refine⟨_,_,_,_,_,_,_,_,_,_,_,_,hN,G9,e1,p1,el,ek,e2,p2,e3,p3,by simp,ef,?_⟩;unfold j7;rw[if_pos ((eg _).2 p3),if_neg];simp only[List.cons_append,List.nil_append];rw[Yl]
 decide
def Vp(sy j:Nat):Prop:=sy / 2 ^ (min j 16) % 2=1
instance(sy j:Nat):Decidable (Vp sy j):=by unfold Vp;infer_instance
structure RI(s:bg)(l:List bn)(j:Nat)(p:bG)(all:List bn)(safe:Nat):Prop where
 pg:PG p
 cn:p.cn=cb s all
 Td:p.cm.sync=safe
 gen:cB p.cg.a_<=1+min j 16
 mem:∀h∈all,h∈l
theorem RI.skip{s:bg}{l:List bn}{j:Nat}{p:bG}{all:List bn}{safe:Nat}(h:RI s l j p all safe):RI s l (j+1) p all safe:=⟨h.pg,h.cn,h.Td,by have:=h.gen;omega,h.mem⟩
theorem RI.sync{s:bg}{l:List bn}{j:Nat}{p:bG}{all:List bn}{safe:Nat}(h:RI s l j p all safe)(hj:j<16):(fh p).2=0/\RI s l (j+1) (fh p).1 all all.length:=by
 have hg:=h.gen;obtain⟨S,e,g,hS⟩:=zB h.pg oM;refine⟨by rw[e],g,by rw[e];exact h.cn,?_,?_,h.mem⟩
 ·rw[e];simp only[h.pg.bJ,List.length_map,h.cn]
 ·rw[e];simp only;omega
theorem RI.new{s:bg}{l:List bn}(hs:cd s=0)(h0:s.heard=[]):(jg s 60).2=0/\RI s l 0 (jg s 60).1 [] 0:=by
 have n5:(jg s 60).2=0:=by simp[jg,hs,nG,h0]
 obtain⟨_,_,hN,G9,_,_⟩:=KB n5;refine⟨n5,G9,?_,?_,?_,by simp⟩
 ·rw[hN];simp only;rw[<-h0]
 ·rw[hN];rfl
 ·rw[hN];simp only;rw[show cB (List.replicate (60:Int).toNat dD)=1 from G1 _];omega
end Go.V.Jn
