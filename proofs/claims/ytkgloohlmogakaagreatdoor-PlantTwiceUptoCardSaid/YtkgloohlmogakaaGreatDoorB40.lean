/- Plants: the examples of the chapter (plain). -/
import Derived.Test.YtkgloohlmogakaaGreatDoorB34
import Derived.Test.YtkgloohlmogakaaGreatDoorB37
set_option linter.unusedSimpArgs false
set_option linter.unusedVariables false
set_option linter.unnecessarySimpa false
namespace Go.V.Jn
open Go.Proofs Go.RowKit Go.V.Lx Go.V.Gr Go.V.Ty Go.V.St
abbrev g0:aO:=⟨[],[],[],0,[],[]⟩
abbrev b0:aJ:=⟨0,0,0,0,0⟩
abbrev s1:aN:=⟨1,1,100,50,0,300,8,[g0],[],[],[b0],[],[],[],[]⟩
abbrev hE(n t:Int):aD:=⟨t,0,n,0,1,0,0,[⟨[119,111,114,100],t,t+3,0,[]⟩]⟩
theorem wm(l:List aD)(hl:l.length<=3):bg (a_ s1 l)=if gI (a_ s1 l)then 0 else 540:=by
 unfold bg;rw[if_neg (by simp;omega)];have:oD (a_ s1 l)=gI (a_ s1 l):=by
  unfold oD;have h1:oB 1 1 100 50 0 300 8=true:=by decide+kernel
  have h2:dQ (a_ s1 l)=true:=by
   simp[dQ,vA,yR,jC,fV,cu];exact⟨rfl,rfl,rfl,rfl⟩
  have h3:ed (a_ s1 l)=true:=by
   simp[ed,cF];exact fun j v h=>by simp at h
  rw[h2,h3];simp only[h1,Bool.true_and]
 rw[this]
theorem Gf:bg s1=0:=by rw[show s1=a_ s1 []from rfl,wm [] sI];rfl
theorem M0:bg (a_ s1 [hE 0 7])=0:=by rw[wm _ sI];rfl
theorem M1:bg (a_ s1 [hE 0 7,hE 1 8])=0:=by rw[wm _ sI];rfl
theorem M3:bg (a_ s1 [hE 0 7,hE 1 8,hE 2 3])=540:=by rw[wm _ sI];rfl
theorem Bn:bg s0=540:=by
 unfold bg;rw[if_neg sI];rfl
theorem A3:bn (bV (hE 0 7))=1:=by decide+kernel
theorem MW:bn (bV (hE 1 8))=1:=by decide+kernel
theorem xf{s:aN}(h:bg s=0):s.heard.length<=4096:=by
 unfold bg at h;split at h
 ·cases h
 ·omega
theorem fh{s:aN}(h:St.cX s){l:List aD}(hl:l.length<=140737488355328):St.cX (a_ s l):=⟨h.gr,h.te,h.vi,h.ki,h.lg,h.lt,h.lv,h.li,hl⟩
theorem om{p:bc}(hp:PG p)(os:St.cX p.sit)(oh:∀h∈p.sit.heard,iW h):mY p:=by
 have h1:=xf hp.sit;obtain⟨⟨j1,j2⟩,j3,j4,j5⟩:=gL hp.jnl;obtain⟨⟨d1,d2⟩,d3,d4,d5⟩:=jK hp.bF;exact⟨os,by omega,oh,by simp only[o0];omega,⟨by simp[Lm];omega,by rw[hp.pend];simp[Lm]⟩⟩
theorem tg{p:bc}(hp:PG p):p.jnl.recs.length<=4096:=by
 obtain⟨⟨j1,j2⟩,j3,j4,j5⟩:=gL hp.jnl;have:=kC p.jnl.recs;omega
theorem qD:St.cX s1:=by
 refine⟨fun g hg=>?_,by simp,by simp,by simp,by simp[Lm],by simp[Lm],by simp[Lm],by simp[Lm],by simp[Lm]⟩;obtain rfl:=List.mem_singleton.1 hg;exact⟨⟨by simp[small],by simp[small],by simp,by simp,by simp,by simp,by simp,by simp⟩,by simp⟩
theorem Ax:iW (hE 0 7):=⟨by simp[cw,bS,okW,mP],by decide+kernel⟩
theorem HO:iW (hE 1 8):=⟨by simp[cw,bS,okW,mP],by decide+kernel⟩
theorem Mz:iW (hE 2 3):=⟨by simp[cw,bS,okW,mP],by decide+kernel⟩
theorem MJ:iK p0=false:=by
 cases h:iK p0 with
 |false=>rfl
 |true=>have:=((dT p0).1 h).sit;rw[Bn]at this;cases this
theorem MD:mY p0:=⟨⟨by simp,by simp,by simp,by simp,by simp[Lm],by simp[Lm],by simp[Lm],by simp[Lm],by simp[Lm]⟩,by simp,by simp,by simp[o0,aS],by simp[Lm],by simp[Lm]⟩
theorem zY{p:bc}{h:aD}(hp:PG p)(hs:bg (a_ p.sit (p.sit.heard++[h]))=0)(hr:(aS p.jnl.recs:Int)+bn (bV h)<=p.jnl.many):(cW p h).2=0:=by
 have ha:(il p.jnl (bV h)).2=0:=by unfold il;rw[if_pos hp.jnl,if_neg oM]
 unfold cW;rw[if_pos ((dT p).2 hp),if_pos hs,if_pos ha]
theorem examples:∃(j5 j1 jl jk j2 j3 jf:fO) (d5 dl dk d2 df:bT),
 dG s1 5=(⟨s1,j5,d5⟩,0)/\PG ⟨s1,j5,d5⟩/\cW ⟨s1,j5,d5⟩ (hE 0 7)=(⟨a_ s1 [hE 0 7],j1,d5⟩,0)/\PG ⟨a_ s1 [hE 0 7],j1,d5⟩/\
 dB ⟨a_ s1 [hE 0 7],j1,d5⟩ 0=(⟨s1,jl,dl⟩,0)/\dB ⟨a_ s1 [hE 0 7],j1,d5⟩ 9=(⟨a_ s1 [hE 0 7],jk,dk⟩,0)/\fu ⟨a_ s1 [hE 0 7],j1,d5⟩=(⟨a_ s1 [hE 0 7],j2,d2⟩,0)/\PG ⟨a_ s1 [hE 0 7],j2,d2⟩/\
 cW ⟨a_ s1 [hE 0 7],j2,d2⟩ (hE 1 8)=(⟨a_ s1 [hE 0 7,hE 1 8],j3,d2⟩,0)/\PG ⟨a_ s1 [hE 0 7,hE 1 8],j3,d2⟩/\j3.sync=1/\dB ⟨a_ s1 [hE 0 7,hE 1 8],j3,d2⟩ 0=(⟨a_ s1 [hE 0 7],jf,df⟩,0)/\
 cW ⟨a_ s1 [hE 0 7,hE 1 8],j3,d2⟩ (hE 2 3)=(p0,1):=by
 have n5:(dG s1 5).2=0:=by simp[dG,Gf,js]
 obtain⟨_,_,hN,hPN,_,_⟩:=CG n5;rw[hN]at hPN;simp only at hPN;have h1:=zY (h:=hE 0 7) hPN M0 (by rw[A3];simp[aS]);obtain⟨e1,p1⟩:=uf hPN h1;rw[e1]at p1;simp only[List.nil_append]at e1 p1;have g1:bQ (List.replicate (5:Int).toNat cb)=1:=zV _;obtain⟨Sl,ql,el,_,_,_,_,zl,_⟩:=oU p1 (n:=0) oM oM (by simp only[g1];omega);have zl:=zl rfl;simp only at zl;obtain rfl:ql=0:=oM;obtain⟨Sk,qk,ek,_,_,_,_,_,zk⟩:=oU p1 (n:=9) oM oM (by simp only[g1];omega);have zk:=zk (by simp[aS,A3]);simp only[List.length_cons,List.length_nil]at zk;subst zk;obtain⟨S2,e2,p2,g2⟩:=x9 p1 (by simp only[g1];omega);rw[e2]at p2;simp only at e2 p2 g2;rw[g1]at g2;have h3:=zY (h:=hE 1 8) p2 M1 (by rw[MW];simp[aS,A3]);obtain⟨e3,p3⟩:=uf p2 h3;rw[e3]at p3;simp only[List.cons_append,List.nil_append]at e3 p3;obtain⟨Sf,qf,ef,_,_,_,_,zf,_⟩:=oU p3 (n:=0) oM oM (by simp only;omega);have zf:=zf rfl;simp only[List.length_cons,List.length_nil]at zf;obtain rfl:qf=1:=oM;refine⟨_,_,_,_,_,_,_,_,_,_,_,_,hN,hPN,e1,p1,el,ek,e2,p2,e3,p3,by simp,ef,?_⟩;unfold cW;rw[if_pos ((dT _).2 p3),if_neg];simp only[List.cons_append,List.nil_append];rw[M3]
 decide
def qh(sy j:Nat):Prop:=sy / 2 ^ (min j 16) % 2=1
instance(sy j:Nat):Decidable (qh sy j):=by unfold qh;infer_instance
noncomputable def iX(sy:Nat):Nat->bc->List aD->Nat->List aD->bc×List aD×Nat
 |_,p,all,safe,[]=>(p,all,safe)
 |j,p,all,safe,h::l=>if(cW p h).2=0 then(if qh sy j then iX sy (j+1) (fu (cW p h).1).1 (all++[h]) (all.length+1) l else iX sy (j+1) (cW p h).1 (all++[h]) safe l)else iX sy (j+1) p all safe l
theorem xp{sy j:Nat}(hs:sy<65536)(h:qh sy j):j<16:=by
 by_cases hj:j<16
 ·exact hj
 ·unfold qh at h;rw[show min j 16=16 by omega,Nat.div_eq_of_lt (by simpa using hs)]at h;cases h
structure RI(s:aN)(l:List aD)(j:Nat)(p:bc)(all:List aD)(safe:Nat):Prop where
 pg:PG p
 sit:p.sit=a_ s all
 syn:p.jnl.sync=safe
 gen:bQ p.bF.secs<=1+min j 16
 mem:∀h∈all,h∈l
theorem RI.le{s:aN}{l:List aD}{j:Nat}{p:bc}{all:List aD}{safe:Nat}(h:RI s l j p all safe):safe<=all.length/\all.length<=4096:=by
 have h1:=xf h.pg.sit;obtain⟨_,j3,j4,_⟩:=gL h.pg.jnl;rw[h.pg.recs,List.length_map,h.sit,h.syn]at j4;rw[h.sit]at h1;simp only at h1 j4;omega
theorem RI.skip{s:aN}{l:List aD}{j:Nat}{p:bc}{all:List aD}{safe:Nat}(h:RI s l j p all safe):RI s l (j+1) p all safe:=⟨h.pg,h.sit,h.syn,by have:=h.gen;omega,h.mem⟩
theorem RI.L3{s:aN}{l:List aD}{j:Nat}{p:bc}{all:List aD}{safe:Nat}(h:RI s l j p all safe){x:aD}(hx:x∈l)(hh:(cW p x).2=0):RI s l j (cW p x).1 (all++[x]) safe:=by
 obtain⟨e,g⟩:=uf h.pg hh;refine⟨g,?_,?_,?_,fun y hy=>?_⟩
 ·rw[e,h.sit]
 ·rw[e];exact h.syn
 ·rw[e];exact h.gen
 ·rcases List.mem_append.1 hy with hy|hy
  ·exact h.mem y hy
  ·rw[List.mem_singleton.1 hy];exact hx
theorem RI.sync{s:aN}{l:List aD}{j:Nat}{p:bc}{all:List aD}{safe:Nat}(h:RI s l j p all safe)(hj:j<16):(fu p).2=0/\RI s l (j+1) (fu p).1 all all.length:=by
 have hg:=h.gen;obtain⟨S,e,g,hS⟩:=x9 h.pg oM;refine⟨by rw[e],g,by rw[e];exact h.sit,?_,?_,h.mem⟩
 ·rw[e];simp only[h.pg.recs,List.length_map,h.sit]
 ·rw[e];simp only;omega
theorem RI.new{s:aN}{l:List aD}(hs:bg s=0)(h0:s.heard=[]):(dG s 60).2=0/\RI s l 0 (dG s 60).1 [] 0:=by
 have n5:(dG s 60).2=0:=by simp[dG,hs,js,h0]
 obtain⟨_,_,hN,hPN,_,_⟩:=CG n5;refine⟨n5,hPN,?_,?_,?_,by simp⟩
 ·rw[hN];simp only;rw[<-h0]
 ·rw[hN];rfl
 ·rw[hN];simp only;rw[show bQ (List.replicate (60:Int).toNat cb)=1 from zV _];omega
theorem vW{s:aN}{l:List aD}{sy:Nat}(hsy:sy<65536):∀(r:List aD) (j:Nat) (p:bc) (all:List aD) (safe:Nat),RI s l j p all safe->(∀h∈r,h∈l)->RI s l (j+r.length) (iX sy j p all safe r).1 (iX sy j p all safe r).2.1 (iX sy j p all safe r).2.2
 |[],j,p,all,safe,h,_=>h
 |x::r,j,p,all,safe,h,hr=>by
  have hr2:∀h∈r,h∈l:=fun y hy=>hr y (List.mem_cons_of_mem _ hy);rw[List.length_cons,show j+(r.length+1)=j+1+r.length by omega];unfold iX;by_cases hh:(cW p x).2=0
  ·rw[if_pos hh];have h1:=h.L3 (hr x (List.mem_cons_self ..)) hh;by_cases hb:qh sy j
   ·rw[if_pos hb];have:=vW hsy r (j+1) _ _ _ (h1.sync (xp hsy hb)).2 hr2;rwa[List.length_append]at this
   ·rw[if_neg hb];exact vW hsy r (j+1) _ _ _ h1.skip hr2
  ·rw[if_neg hh];exact vW hsy r (j+1) _ _ _ h.skip hr2
end Go.V.Jn
