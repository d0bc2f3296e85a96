/- Plants: what they do, and what remains after a loss of power (plain). -/
import Derived.Test.YtkgloohlmogakaaGreatDoorB33
import Derived.Test.YtkgloohlmogakaaGreatDoorB32
set_option linter.unusedSimpArgs false
set_option linter.unusedVariables false
namespace Go.V.Jn
open Go.Proofs Go.RowKit Go.V.Lx Go.V.Gr Go.V.Ty Go.V.St
structure bc where
 sit:aN
 jnl:fO
 bF:bT
abbrev s0:aN:=⟨0,0,0,0,0,0,0,[],[],[],[],[],[],[],[]⟩
abbrev p0:bc:=⟨s0,j0,d0⟩
noncomputable def iK(p:bc):Bool:=decide (bg p.sit=0)&&jV p.jnl&&cG p.bF&& !p.bF.stop&&decide (p.bF.pend.length=0)&&decide (p.bF.left= -1)&&decide (p.jnl.many=(p.bF.secs.length:Int))&&decide (p.jnl.recs=p.sit.heard.map bV)&&decide (bU p.bF.secs=p.jnl.recs.take p.jnl.sync.toNat)
structure PG(p:bc):Prop where
 sit:bg p.sit=0
 jnl:jV p.jnl=true
 bF:cG p.bF=true
 stop:p.bF.stop=false
 pend:p.bF.pend=[]
 left:p.bF.left= -1
 many:p.jnl.many=(p.bF.secs.length:Int)
 recs:p.jnl.recs=p.sit.heard.map bV
 read:bU p.bF.secs=p.jnl.recs.take p.jnl.sync.toNat
theorem dT(p:bc):iK p=true<->PG p:=by
 unfold iK;simp only[Bool.and_eq_true,decide_eq_true_eq,Bool.not_eq_true',List.length_eq_zero_iff];constructor
 ·rintro⟨⟨⟨⟨⟨⟨⟨⟨h1,h2⟩,h3⟩,h4⟩,h5⟩,h6⟩,h7⟩,h8⟩,h9⟩;exact⟨h1,h2,h3,h4,h5,h6,h7,h8,h9⟩
 ·rintro⟨h1,h2,h3,h4,h5,h6,h7,h8,h9⟩;exact⟨⟨⟨⟨⟨⟨⟨⟨h1,h2⟩,h3⟩,h4⟩,h5⟩,h6⟩,h7⟩,h8⟩,h9⟩
abbrev a_(s:aN)(l:List aD):aN:={s with heard:=l}
noncomputable def dG(s:aN)(n:Int):bc×Int:=if bg s=0 then if s.heard.length=0 then if(js n).2=0 then(⟨s,(cJ (js n).1).1,(js n).1⟩,0)else(p0,(js n).2)else(p0,580)else(p0,bg s)
noncomputable def cW(p:bc)(h:aD):bc×Int:=if iK p=true then if bg (a_ p.sit (p.sit.heard++[h]))=0 then if(il p.jnl (bV h)).2=0 then(⟨a_ p.sit (p.sit.heard++[h]),(il p.jnl (bV h)).1,p.bF⟩,0)else(p0,(il p.jnl (bV h)).2)else(p0,1)else(p0,580)
noncomputable def fu(p:bc):bc×Int:=if iK p=true then if(eI p.jnl p.bF).2.2=0 then(⟨p.sit,(eI p.jnl p.bF).1,(eI p.jnl p.bF).2.1⟩,0)else(p0,(eI p.jnl p.bF).2.2)else(p0,580)
@[reducible] def sf(d:bT)(n:Int):bT:=⟨d.secs,d.pend,n,d.stop⟩
def eg(p:bc)(n:Int):bT×Int:=(m_ (eI p.jnl (sf p.bF n)).2.1,(eI p.jnl (sf p.bF n)).2.2)
noncomputable def dB(p:bc)(n:Int):bc×Int:=if iK p=true then if 0<=n/\n<=65536 then if(eg p n).2=0\/(eg p n).2=40 then
 (⟨a_ p.sit (p.sit.heard.take (cJ (eg p n).1).1.recs.length),(cJ (eg p n).1).1,(eg p n).1⟩,0)else(p0,(eg p n).2)else(p0,1)else(p0,580)
theorem jK{d:bT}(h:cG d=true):(1<=d.secs.length/\d.secs.length<=4096)/\(∀b∈d.secs,b.length=128)/\ -1<=d.left/\d.left<=65536:=by
 simp[cG]at h;exact⟨by omega,h.2,by omega,by omega⟩
theorem nJ{S:List ah}{L:Int}{st:Bool}(h:1<=S.length/\S.length<=4096)(h2:∀b∈S,b.length=128)(h3: -1<=L)(h4:L<=65536):cG ⟨S,[],L,st⟩=true:=by
 simp[cG];exact⟨by omega,h2⟩
theorem gL{j:fO}(h:jV j=true):(1<=j.many/\j.many<=4096)/\0<=j.sync/\j.sync<=j.recs.length/\(aS j.recs:Int)<=j.many:=by
 simp[jV]at h;exact⟨by omega,by omega,by omega,by omega⟩
theorem vw{R:List ah}{m y:Int}(h:1<=m/\m<=4096)(h2:0<=y)(h3:y<=R.length)(h4:(aS R:Int)<=m):jV ⟨R,m,y⟩=true:=by
 simp[jV];omega
theorem Ir{d:bT}(hs:∀b∈d.secs,b.length=128)(hw:∀w∈d.pend,0<=w.at_/\w.at_<d.secs.length/\w.data.length=128)(hl:d.left.toNat<d.pend.length):(lD d).length=d.secs.length/\∀b∈lD d,b.length=128:=by
 have hw2:∀w∈d.pend.take d.left.toNat,oG d.secs.length w=true:=fun w h=>by
  have:=hw w (List.mem_of_mem_take h);simp[oG];omega
 have h1:=ou hs hw2;have h2:=gZ (d.pend.take d.left.toNat) d.secs;obtain⟨w,hwg⟩:∃w,d.pend[d.left.toNat]? =some w:=⟨_,List.getElem?_eq_getElem hl⟩
 have hwm:=hw w (List.mem_of_getElem? hwg);unfold lD;simp only[List.getD_eq_getElem?_getD,hwg,Option.getD_some];refine⟨by rw[List.length_set,h2],fun b hb=>?_⟩;rcases List.mem_or_eq_of_mem_set hb with hb|rfl
 ·exact h1 b hb
 ·obtain⟨o,ho⟩:∃o,(cK d.secs (d.pend.take d.left.toNat))[w.at_.toNat]? =some o:=⟨_,List.getElem?_eq_getElem oM⟩
  have:=h1 o (List.mem_of_getElem? ho);rw[ho];simp;omega
theorem rX{S T:List ah}{g:Nat}(h:∀t∈T,num (t.take 4)<=g/\num (t.drop 124)<=g):bQ T<=g+1:=by
 suffices ∀(T:List ah) (a:Nat),a<=g->(∀t∈T,num (t.take 4)<=g/\num (t.drop 124)<=g)->T.foldl (fun g s=>max g (max (num (s.take 4)) (num (s.drop 124)))) a<=g by
  have:=this T 0 oM h;unfold bQ;omega
 intro T;induction T with
 |nil=>intro a ha _;exact ha
 |cons t T ih=>
  intro a ha ht;have:=ht t (List.mem_cons_self ..);exact ih _ (by dsimp only;omega) fun x hx=>ht x (List.mem_cons_of_mem _ hx)
theorem FX{g a n:Nat}{b:ah}{k:Nat}(hg:g<4294967296):num ((dX g a n b k).data.take 4)=g/\num ((dX g a n b k).data.drop 124)=g:=by
 refine⟨nN hg,?_⟩;show num ((dj _ _ _ _).drop 124)=g;rw[A4 (by simp;omega),vH];exact Nat.mod_eq_of_lt hg
theorem y5{g:Nat}{w:bA}(hg:g<4294967296):∀ {l:List ah} {a:Nat},w∈bP g a l->num (w.data.take 4)=g/\num (w.data.drop 124)=g
 |[],a,h=>by simp[bP]at h
 |b::l,a,h=>by
  simp only[bP,List.mem_append]at h;rcases h with h|h
  ·simp only[iD,List.mem_map,List.mem_range]at h;obtain⟨k,hk,rfl⟩:=h;exact FX hg
  ·exact y5 hg h
theorem uq{t:ah}:∀ {W:List bA} {S:List ah},t∈cK S W->t∈S\/∃w∈W,t=w.data
 |[],S,h=> .inl h
 |w::W,S,h=>by
  rcases uq (W:=W) (S:=S.set w.at_.toNat w.data) h with h|⟨x,hx,rfl⟩
  ·rcases List.mem_or_eq_of_mem_set h with h|rfl
   ·exact .inl h
   ·exact .inr ⟨w,List.mem_cons_self ..,rfl⟩
  ·exact .inr ⟨x,List.mem_cons_of_mem _ hx,rfl⟩
theorem rj{p:bc}(hp:PG p){n:Int}(h0: -1<=n)(h1:n<=65536):
 ((eI p.jnl (sf p.bF n)).2.2=50/\¬bQ p.bF.secs<4294967296)\/
 ∃(S:List ah) (q:Nat) (L:Int) (st:Bool),(eI p.jnl (sf p.bF n)).2.1=⟨S,[],L,st⟩/\S.length=p.bF.secs.length/\(∀b∈S,b.length=128)/\bQ S<=bQ p.bF.secs+1/\p.jnl.sync<=q/\q<=p.jnl.recs.length/\
  bU S=p.jnl.recs.take q/\(n=0->(q:Int)=p.jnl.sync)/\((n= -1\/(aS (p.jnl.recs.drop p.jnl.sync.toNat):Int)<=n)->(q=p.jnl.recs.length/\(eI p.jnl (sf p.bF n)).2.2=0))/\bQ p.bF.secs<4294967296/\
  (((eI p.jnl (sf p.bF n)).2.2=0/\(eI p.jnl (sf p.bF n)).1={p.jnl with sync:=p.jnl.recs.length}/\st=false/\(n= -1->L= -1))\/(eI p.jnl (sf p.bF n)).2.2=40):=by
 obtain⟨sit,⟨R,M,y⟩,⟨S,W,L,st⟩⟩:=p;obtain⟨e1,e2,e3,e4,e5,e6,e7,e8,e9⟩:=hp;simp only at e1 e2 e3 e4 e5 e6 e7 e8 e9⊢;subst e4;subst e5;subst e6;subst e7;obtain⟨⟨d1,d2⟩,d3,d4,d5⟩:=jK e3;obtain⟨⟨j1,j2⟩,j3,j4,j5⟩:=gL e2;simp only at d1 d2 d3 j1 j2 j3 j4 j5;obtain⟨y,rfl⟩:∃m:Nat,y=m:=⟨y.toNat,by omega⟩
 simp only[Int.toNat_natCast]at e9⊢;have hdk:cG ⟨S,[],n,false⟩=true:=nJ ⟨d1,d2⟩ d3 h0 h1;have ho:cJ ⟨S,[],n,false⟩=(⟨bU S,S.length,(bU S).length⟩,0):=by unfold cJ;rw[if_pos hdk];rfl
 by_cases hg:bQ S<4294967296
 rotate_left
 ·refine .inl ⟨?_,hg⟩;unfold eI;rw[if_pos e2,if_pos hdk,if_neg sI,ho,if_pos rfl,if_neg (fun h=>hg h.2)]
 refine .inr ?_;have hlaw:=Io (rs:=R) (y:=y) (L:=n) (st:=false) ⟨d3,d2⟩ e9 oM oM hg;have hsp:=rl R y;have hgS:bQ S - 1+1=bQ S:=by unfold bQ;omega
 have hSg:∀t∈S,num (t.take 4)<=bQ S/\num (t.drop 124)<=bQ S:=fun t ht=>by have:=s8 ht;omega
 by_cases hy:(y:Int)=R.length
 ·have e:eI ⟨R,S.length,y⟩ ⟨S,[],n,false⟩=(⟨R,S.length,y⟩,⟨S,[],n,false⟩,0):=by
   unfold eI;rw[if_pos e2,if_pos hdk,if_neg sI,ho,if_pos rfl,if_pos ⟨by simpa using e9,hg⟩,if_pos hy]
  rw[e];exact⟨S,y,n,false,rfl,rfl,d3,by omega,by omega,by omega,e9,fun _=>rfl,fun _=>⟨by omega,rfl⟩,hg,.inl ⟨rfl,by rw[hy],rfl,fun h=>h⟩⟩
 ·have hwl:=nT (bQ S) (R.drop y) (aS (R.take y));have hwm:∀w∈bP (bQ S) (aS (R.take y)) (R.drop y),0<=w.at_/\w.at_<S.length/\w.data.length=128:=fun w hw=>by have:=qd hw;omega
  have hDG:DG S n:=⟨d1,d2,d3,h0,h1⟩
  have hrun:jd ⟨S,bP (bQ S) (aS (R.take y)) (R.drop y),n,false⟩=true:=by
   unfold jd;rw[hDG.bF hwm oM];rfl
  have e:eI ⟨R,S.length,y⟩ ⟨S,[],n,false⟩=if(gT ⟨S,bP (bQ S) (aS (R.take y)) (R.drop y),n,false⟩).2=0 then(⟨R,S.length,R.length⟩,(gT ⟨S,bP (bQ S) (aS (R.take y)) (R.drop y),n,false⟩).1,0)else(j0,(gT ⟨S,bP (bQ S) (aS (R.take y)) (R.drop y),n,false⟩).1,(gT ⟨S,bP (bQ S) (aS (R.take y)) (R.drop y),n,false⟩).2):=by
   conv=>lhs;unfold eI
   rw[if_pos e2,if_pos hdk,if_neg sI,ho,if_pos rfl,if_pos ⟨by simpa using e9,hg⟩,if_neg hy];rfl
  have hwgen:∀w∈bP (bQ S) (aS (R.take y)) (R.drop y),num (w.data.take 4)=bQ S/\num (w.data.drop 124)=bQ S:=fun w hw=>y5 hg hw;generalize hW:bP (bQ S) (aS (R.take y)) (R.drop y)=W at *;by_cases ht:0<=n/\n<(W.length:Int)
  ·have es:gT ⟨S,W,n,false⟩=(⟨lD ⟨S,W,n,false⟩,[],0,true⟩,40):=by unfold gT;rw[if_pos hrun,if_pos ht]
   obtain⟨t1,t2⟩:=Ir (d:=⟨S,W,n,false⟩) d3 hwm (by simp;omega);obtain⟨q,q1,q2,q3,q4⟩:=hlaw.2 n.toNat oM;rw[Int.toNat_of_nonneg ht.1]at q4;rw[e,es,if_neg (show ¬(40:Int)=0 by decide)];refine⟨_,q,0,true,rfl,t1,t2,?_,by omega,by omega,q4,fun h=>by rw[q3 oM],fun h=>by omega,hg,.inr rfl⟩;refine rX (S:=S) fun t htm=>?_;unfold lD at htm;simp only at htm;have hW0:∀t∈cK S (W.take n.toNat),num (t.take 4)<=bQ S/\num (t.drop 124)<=bQ S:=fun t htm=>by
    rcases uq htm with h|⟨w,hw,rfl⟩
    ·exact hSg t h
    ·have:=hwgen w (List.mem_of_mem_take hw);omega
   rcases List.mem_or_eq_of_mem_set htm with h|rfl
   ·exact hW0 t h
   ·obtain⟨w,hwg⟩:∃w,W[n.toNat]? =some w:=⟨_,List.getElem?_eq_getElem oM⟩
    simp only[List.getD_eq_getElem?_getD,hwg,Option.getD_some];have hw1:=hwgen w (List.mem_of_getElem? hwg);have hw2:=hwm w (List.mem_of_getElem? hwg);obtain⟨o,ho⟩:∃o,(cK S (W.take n.toNat))[w.at_.toNat]? =some o:=⟨_,List.getElem?_eq_getElem (by rw[gZ];omega)⟩
    have ho1:=hW0 o (List.mem_of_getElem? ho);have ho2:=ou (l:=W.take n.toNat) d3 (fun w hw=>by have:=hwm w (List.mem_of_mem_take hw);simp[oG];omega) o (List.mem_of_getElem? ho);rw[ho,Option.getD_some];constructor
    ·rw[List.take_append_of_le_length (by simp;omega),List.take_take,show min 4 64=4 by rfl];omega
    ·have hD:(w.data.take 64++o.drop 64).drop 124=o.drop 124:=by
      rw[List.drop_append,List.drop_of_length_le (by simp;omega),List.nil_append,List.drop_drop]
      congr 1;simp;omega
     rw[hD];omega
  ·have es:gT ⟨S,W,n,false⟩=(⟨cK S W,[],if 0<=n then n - W.length else n,false⟩,0):=by unfold gT;rw[if_pos hrun,if_neg ht]
   rw[e,es,if_pos rfl];refine⟨_,R.length,_,false,rfl,gZ _ _,ou d3 (fun w hw=>by have:=hwm w hw;simp[oG];omega),?_,by omega,by omega,by rw[List.take_length];exact hlaw.1,fun h=>?_,fun _=>⟨rfl,rfl⟩,hg,.inl ⟨rfl,rfl,rfl,fun h=>by rw[if_neg oM];exact h⟩⟩
   ·refine rX (S:=S) fun t htm=>?_;rcases uq htm with h|⟨w,hw,rfl⟩
    ·exact hSg t h
    ·have:=hwgen w hw;omega
   ·have hdl:=kC (R.drop y);rw[List.length_drop]at hdl;omega
theorem Du{s:aN}{l:List aD}(h:gI (a_ s l)=true)(q:Nat):gI (a_ s (l.take q))=true:=by
 unfold gI at *;simp only at *;rw[<-List.take_append_drop q l,List.foldlM_append]at h;cases hh:List.foldlM (mA s.sources) 0 (l.take q)with
 |none=>rw[hh]at h;simp at h
 |some v=>rfl
theorem A8{s:aN}{l:List aD}(h:bg (a_ s l)=0)(q:Nat):bg (a_ s (l.take q))=0:=by
 unfold bg at *;split at h
 ·cases h
 ·rename_i hc;simp only at hc;rw[if_neg (by simp only[List.length_take];omega)];split at h
  ·rename_i hb;have hb2:oD (a_ s (l.take q))=true:=by
    unfold oD at *;simp only[Bool.and_eq_true]at *;exact⟨⟨⟨hb.1.1.1,hb.1.1.2⟩,hb.1.2⟩,Du hb.2 q⟩
   rw[if_pos hb2]
  ·cases h
theorem oU{p:bc}(hp:PG p){n:Int}(h0:0<=n)(h1:n<=65536)(hg:bQ p.bF.secs<4294967296):
 ∃(S:List ah) (q:Nat),dB p n=(⟨a_ p.sit (p.sit.heard.take q),⟨p.jnl.recs.take q,p.jnl.many,q⟩,⟨S,[],-1,false⟩⟩,0)/\PG (dB p n).1/\bQ S<=bQ p.bF.secs+1/\p.jnl.sync<=q/\q<=p.sit.heard.length/\(n=0->(q:Int)=p.jnl.sync)/\((aS (p.jnl.recs.drop p.jnl.sync.toNat):Int)<=n->q=p.sit.heard.length):=by
 rcases rj hp (n:=n) oM h1 with⟨_,h⟩|⟨S,q,L,st,f1,f2,f3,f4,f5,f6,f7,f8,f9,f10,f11⟩
 ·exact absurd hg h
 obtain⟨⟨d1,d2⟩,d3,d4,d5⟩:=jK hp.bF;obtain⟨⟨j1,j2⟩,j3,j4,j5⟩:=gL hp.jnl;have hrl:p.jnl.recs.length=p.sit.heard.length:=by rw[hp.recs,List.length_map]
 have hL:(eg p n).1=⟨S,[],-1,false⟩:=by unfold eg;simp only[f1,m_]
 have hE:(eg p n).2=0\/(eg p n).2=40:=by
  unfold eg;rcases f11 with h|h
  ·exact .inl h.1
  ·exact .inr h
 have hdk:cG ⟨S,[],-1,false⟩=true:=nJ oM f3 oM oM;have hO:cJ (eg p n).1=(⟨p.jnl.recs.take q,p.jnl.many,q⟩,0):=by
  rw[hL];unfold cJ;rw[if_pos hdk,if_neg sI,if_pos sI];simp only[f7,f2,hp.many,List.length_take,Nat.min_eq_left f6]
 have hC:dB p n=(⟨a_ p.sit (p.sit.heard.take q),⟨p.jnl.recs.take q,p.jnl.many,q⟩,⟨S,[],-1,false⟩⟩,0):=by
  unfold dB;rw[if_pos ((dT p).2 hp),if_pos ⟨h0,h1⟩,if_pos hE,hO,hL];simp only[List.length_take,Nat.min_eq_left f6]
 refine⟨S,q,hC,?_,f4,f5,by omega,f8,fun h=>by rw[<-hrl];exact(f9 (.inr h)).1⟩;rw[hC];refine⟨A8 hp.sit q,vw ⟨j1,j2⟩ oM (by simp;omega) (by have:=po p.jnl.recs q;omega),hdk,rfl,rfl,rfl,by rw[hp.many,f2],?_,?_⟩
 ·simp only[hp.recs,List.map_take]
 ·simp only[f7,Int.toNat_natCast,List.take_take,Nat.min_self]
theorem x9{p:bc}(hp:PG p)(hg:bQ p.bF.secs<4294967296):
 ∃S:List ah,fu p=(⟨p.sit,{p.jnl with sync:=p.jnl.recs.length},⟨S,[],-1,false⟩⟩,0)/\PG (fu p).1/\bQ S<=bQ p.bF.secs+1:=by
 rcases rj hp (n:= -1) oM oM with⟨_,h⟩|⟨S,q,L,st,f1,f2,f3,f4,f5,f6,f7,f8,f9,f10,f11⟩
 ·exact absurd hg h
 obtain⟨⟨d1,d2⟩,d3,d4,d5⟩:=jK hp.bF;obtain⟨⟨j1,j2⟩,j3,j4,j5⟩:=gL hp.jnl;have hd:sf p.bF (-1)=p.bF:=by unfold sf;rw[<-hp.left]
 obtain⟨g1,g2⟩:=f9 (.inl rfl);subst g1;rw[hd]at f1 g2 f11;rcases f11 with⟨k1,k2,k3,k4⟩|h
 rotate_left
 ·rw[h]at g2;cases g2
 have hS:fu p=(⟨p.sit,{p.jnl with sync:=p.jnl.recs.length},⟨S,[],-1,false⟩⟩,0):=by
  unfold fu;rw[if_pos ((dT p).2 hp),if_pos k1,k2,f1,k3,k4 rfl]
 have hdk:cG ⟨S,[],-1,false⟩=true:=nJ oM f3 oM oM;refine⟨S,hS,?_,f4⟩;rw[hS];exact⟨hp.sit,vw ⟨j1,j2⟩ oM oM j5,hdk,rfl,rfl,rfl,by rw[f2];exact hp.many,hp.recs,by simpa using f7⟩
theorem uf{p:bc}{h:aD}(hp:PG p)(hh:(cW p h).2=0):cW p h=(⟨a_ p.sit (p.sit.heard++[h]),{p.jnl with recs:=p.jnl.recs++[bV h]},p.bF⟩,0)/\PG (cW p h).1:=by
 have h0:=hh;unfold cW at hh;rw[if_pos ((dT p).2 hp)]at hh;split at hh
 rotate_left
 ·cases hh
 rename_i hs;split at hh
 rotate_left
 ·exact absurd hh ‹_›
 rename_i ha;obtain⟨⟨j1,j2⟩,j3,j4,j5⟩:=gL hp.jnl;have hA:il p.jnl (bV h)=(⟨p.jnl.recs++[bV h],p.jnl.many,p.jnl.sync⟩,0)/\¬(p.jnl.many - (aS p.jnl.recs:Int))<bn (bV h):=by
  unfold il at ha⊢;rw[if_pos hp.jnl]at ha⊢;split at ha
  ·cases ha
  ·rename_i hc;exact⟨by rw[if_neg hc],hc⟩
 have hE:cW p h=(⟨a_ p.sit (p.sit.heard++[h]),{p.jnl with recs:=p.jnl.recs++[bV h]},p.bF⟩,0):=by
  unfold cW;rw[if_pos ((dT p).2 hp),if_pos hs,if_pos ha,hA.1]
 refine⟨hE,?_⟩;rw[hE];have hu:aS (p.jnl.recs++[bV h])=aS p.jnl.recs+bn (bV h):=by simp[aS]
 refine⟨hs,vw ⟨j1,j2⟩ j3 (by simp;omega) (by rw[hu];omega),hp.bF,hp.stop,hp.pend,hp.left,hp.many,by simp[hp.recs],?_⟩;simp only;rw[List.take_append_of_le_length oM];exact hp.read
theorem sF(n:Nat):bU (List.replicate n cb)=[]:=by
 unfold bU gk;rw[List.length_replicate];cases n with
 |zero=>rfl
 |succ n=>
  have hx:(List.replicate (n+1) cb)[0]? =some cb:=by simp
  have hb:fH cb 0=false:=by
   unfold fH yQ;have:gen cb=0:=by unfold gen cb;rw[List.take_replicate];rfl
   simp[this]
  rw[jz,List.length_replicate,Nat.sub_zero,ox hx,hb];rfl
theorem zV(n:Nat):bQ (List.replicate n cb)=1:=by
 have:=rX (S:=[]) (T:=List.replicate n cb) (g:=0) fun t ht=>by
  obtain⟨_,rfl⟩:=List.mem_replicate.1 ht;unfold cb;rw[List.take_replicate,List.drop_replicate];exact⟨by decide,by decide⟩
 have h2:1<=bQ (List.replicate n cb):=by unfold bQ;omega
 omega
theorem CG{s:aN}{n:Int}(h:(dG s n).2=0):1<=n/\n<=4096/\dG s n=(⟨s,⟨[],n,0⟩,⟨List.replicate n.toNat cb,[],-1,false⟩⟩,0)/\PG (dG s n).1/\s.heard=[]/\bg s=0:=by
 have h0:=h;unfold dG at h;split at h
 rotate_left
 ·exact absurd h ‹_›
 rename_i hs;split at h
 rotate_left
 ·cases h
 rename_i hh;have hh2:s.heard=[]:=List.length_eq_zero_iff.1 hh;by_cases hn:1<=n/\n<=4096
 rotate_left
 ·have:js n=(d0,1):=by unfold js;rw[if_neg hn]
  rw[this,if_neg (by decide)]at h;cases h
 have hN:js n=(⟨List.replicate n.toNat cb,[],-1,false⟩,0):=by unfold js;rw[if_pos hn]
 have hdk:cG ⟨List.replicate n.toNat cb,[],-1,false⟩=true:=nJ (by simp;omega) (fun b hb=>by obtain⟨_,rfl⟩:=List.mem_replicate.1 hb;exact mM) oM oM;have hO:cJ ⟨List.replicate n.toNat cb,[],-1,false⟩=(⟨[],n,0⟩,0):=by
  unfold cJ;rw[if_pos hdk,if_neg sI,if_pos sI];simp only[sF,List.length_replicate,List.length_nil];rw[Int.toNat_of_nonneg oM];rfl
 have hE:dG s n=(⟨s,⟨[],n,0⟩,⟨List.replicate n.toNat cb,[],-1,false⟩⟩,0):=by
  unfold dG;rw[if_pos hs,if_pos hh,hN,if_pos rfl,hO]
 refine⟨hn.1,hn.2,hE,?_,hh2,hs⟩;rw[hE];exact⟨hs,vw hn oM sI (by simp[aS];omega),hdk,rfl,rfl,rfl,by simp;omega,by simp[hh2],by simp[sF]⟩
end Go.V.Jn
