/- Lemmas on plain data and programs: part B28. -/
import Derived.Test.YtkknfajchefgaaaGreatDoorB27
import Derived.Test.YtkknfajchefgaaaGreatDoorB13
set_option linter.all false
set_option maxHeartbeats 8000000
set_option maxRecDepth 100000
namespace Go.V.Gr
open Go.Proofs Go.RowKit Go.V.Lx
def uD(t s:ae)(r:List Tk):eY t (nT s::r)=decide (s=t):=by grind [eY,nT]
theorem DR(t s:ae)(r:List Tk):eY t (sT s::r)=decide (s=t):=by grind [eY,sT]
def aiC(t:ae)(n:Int)(r:List Tk):eY t (dT n::r)=false:=by simp[eY,dT]
def NO(s:ae)(r:List Tk):qf (nT s::r)= !lP.contains s:=by simp[qf,nT]
theorem V7(n:Int)(r:List Tk):oR (dT n::r)=true:=by simp[oR,dT]
def afE(s:ae)(r:List Tk):oR (nT s::r)=false:=by simp[oR,nT]
def O8(t:ae)(r:List Tk):want t (nT t::r)= .ok ((),r):=by simp_all[want,uD]
def z_(t:ae)(r:List Tk):want t (sT t::r)= .ok ((),r):=by simp_all[want,DR]
def Qx{s:ae}(h:fr s=true):lP.contains s=false:=by simp_all[fr]
def Ib{s:ae}(h:fr s=true)(r:List Tk):bare (nT s::r)= .ok (s,r):=by
 show(if qf (nT s::r)=true then Except.ok (s,r)else Except.error (nT s::r))=Except.ok (s,r);rw[NO,Qx h];rfl
def KE(n:Int)(r:List Tk):number (dT n::r)= .ok (n,r):=by
 show(if oR (dT n::r)=true then Except.ok (n,r)else Except.error (dT n::r))=Except.ok (n,r);rw[V7];rfl
def ub(t:ae){s:ae}(h:fr s=true)(r:List Tk):gq t (nT t::nT s::r)= .ok (s,r):=(cG (O8 t _)).trans (Ib h r)
def Fh(t:ae){s:ae}(h:fr s=true)(r:List Tk):gq t (sT t::nT s::r)= .ok (s,r):=(cG (z_ t _)).trans (Ib h r)
def Qb(n:Int)(r:List Tk):qI (lN n++r)= .ok (n,r):=
 (cG (O8 tp _)).trans ((cG (KE n _)).trans ((cG (z_ [59] r)).trans rfl))
theorem Ri{α:Type}{more:List Tk->Bool}{item:Rd α}{f:α->List Tk}{w:α->Prop}(hi:∀a r,w a->item (f a++r)= .ok (a,r))(hm:∀a r,w a->more (f a++r)=true){r:List Tk}(hr:more r=false):∀(xs:List α) (n:Nat),xs.length<=n->(∀x∈xs,w x)->many more item n (xs.flatMap f++r)= .ok (xs,r)
 |[],0,_,_=>rfl
 |[],n+1,_,_=>by grind [many]
 |x::xs,0,h,_=>awv
 |x::xs,n+1,h,hw=>by
  have hx:=hw x sI;have e:(x::xs).flatMap f++r=f x++(xs.flatMap f++r):=awN
  rw[e];simp only[many,hm x _ hx,abo];rw[cG (hi x _ hx),cG (Ri hi hm hr xs n awN (fun y hy=>hw y (by simp[hy])))];rfl
theorem Is{α:Type}{f:α->List Tk}(h:∀a,f a≠[])(r:List Tk):∀xs:List α,xs.length<=(xs.flatMap f++r).length
 |[]=>aes _
 |x::xs=>by
  have:=Is h r xs
  exact auF
def wH{α:Type}{more:List Tk->Bool}{item:Rd α}{f:α->List Tk}{w:α->Prop}(hi:∀a r,w a->item (f a++r)= .ok (a,r))(hm:∀a r,w a->more (f a++r)=true)(hf:∀a,f a≠[]){r:List Tk}(hr:more r=false)(xs:List α)(hw:∀x∈xs,w x):cb more item (xs.flatMap f++r)= .ok (xs,r):=
 Ri hi hm hr xs _ (Is hf r xs) hw
def YF{s:ae}(h:fr s=true):¬s=[58]:=by intro e;subst e;revert h;decide+kernel
def Rr(p:Part)(r:List Tk)(h:HY p):mn (dM p++r)= .ok (p,r):=by
 obtain⟨cat,no,text⟩:=p;obtain⟨h0,h⟩:=h;simp only at h0 h;subst h0;unfold mn dM;rcases h with⟨rfl,h⟩|⟨rfl,h⟩
 ·rw[aaO rfl,aeF,adC,uD,aeH (YF h),aaw sI,cG (Ib h r)];rfl
 ·rw[aaw (LC h),aeF,aeF,adC,DR,akM rfl,aaO rfl,cG (Fh [58] h r)];rfl
def Zx(p:Part)(r:List Tk)(h:HY p):wm (dM p++r)=true:=by
 obtain⟨cat,no,text⟩:=p;obtain⟨h0,h⟩:=h;simp only at h;unfold wm dM;rcases h with⟨rfl,h⟩|⟨rfl,h⟩
 ·rw[aaO rfl,aeF,adC,NO,Qx h];rfl
 simp_all[LC,DR]
def QB(y:bt)(r:List Tk)(h:O9 y):mi (dI y++r)= .ok (y,r):=by
 obtain⟨part,text⟩:=y;unfold mi dI;simp only;by_cases ht:text=[]
 ·subst ht;rw[aaO rfl,aeF,adC,aiC,aaw sI,cG (KE part r)];rfl
 ·rcases h with h|⟨h1,h2⟩
  ·exact awN
  ·simp only at h1 h2;subst h1;rw[aaw ht,aeF,aeF,adC,DR,akM rfl,aaO rfl,cG (Fh [58] h2 r)];rfl
def Zw(y:bt)(r:List Tk):uH (dI y++r)=true:=by grind [uH,dI,V7,DR]
theorem HT(p:Part):dM p≠[]:=by grind [dM]
theorem HS(p:bt):dI p≠[]:=by grind [dI]
def Pm(s:ae)(r:List Tk)(h:fr s=true):category (kL s++r)= .ok (s,r):=(cG (ub h_ h _)).trans ((cG (z_ [59] r)).trans rfl)
def Yt(x:Entry)(r:List Tk)(h:Ec x):fG (dn x++r)= .ok (x,r):=by
 obtain⟨text,cat,no,aE,cost⟩:=x;obtain⟨h1,h2,h3,h4,h5⟩:=h;simp only at h1 h2 h3 h4 h5;subst h3;cases aE with
 |nil=>grind
 |cons g gs=>
  rw[aep,aas]at h5;have e:dn ⟨text,cat,0,g::gs,cost⟩++r=nT gL::nT text::nT EL::nT cat::nT iC::nT g::(gs.flatMap l_++(lN cost++r)):=by grind [dn,e_]
  rw[e];unfold fG;rw[cG (ub gL h1 _),cG (ub EL h2 _),cG (ub iC h5.1 _),
   cG (wH (f:=l_) (w:=fun s=>fr s=true) (fun a r h=>Fh [44] h r) (fun a r h=>by show eY [44] (sT [44]::_)=true;rw[DR];simp) (fun a=>by simp[l_]) (r:=lN cost++r) (by show eY [44] (nT tp::_)=false;rw[uD];decide) gs (aaI.1 h5.2)),
   cG (Qb cost r)]
  rfl
def acS(x:aF)(r:List Tk)(h:HZ x):gI (dN x++r)= .ok (x,r):=by
 obtain⟨cat,no,parts,aE,cost⟩:=x;obtain⟨h1,h2,h3,h4,h5,h6⟩:=h;simp only at h1 h2 h3 h4 h5 h6;subst h2;cases parts with
 |nil=>grind
 |cons p ps=>
  cases aE with
  |nil=>grind
  |cons g gs=>
   have e:dN ⟨cat,0,p::ps,g::gs,cost⟩++r=nT gJ::nT cat::sT [61]::(dM p++(ps.flatMap dM++(nT iC::(dI g++(gs.flatMap dI++(lN cost++r)))))):=by grind [dN]
   rw[e];unfold gI;rw[cG (ub gJ h1 _),cG (z_ [61] _),cG (Rr p _ (h4 p sI)),
    cG (wH (f:=dM) Rr Zx HT (r:=nT iC::(dI g++(gs.flatMap dI++(lN cost++r)))) (by unfold wm;rw[NO,uD];decide) ps (fun q hq=>h4 q (by simp[hq]))),
    cG (O8 iC _),cG (QB g _ (h6 g sI)),
    cG (wH (f:=dI) QB (fun a r _=>Zw a r) HS (r:=lN cost++r) (by show uH (nT tp::_)=false;unfold uH;rw[afE,uD];decide) gs (fun q hq=>h6 q (by simp[hq]))),
    cG (Qb cost r)]
   rfl
def ab9{n s:ae}{cs:List ae}(r:List Tk)(hn:fr n=true)(hs:fr s=true)(hc:cs.all fr=true):kO (g_ n cs s++r)= .ok ((n,cs,s),r):=by
 have e:g_ n cs s++r=nT kN::nT n::sT [59]::(cs.flatMap kL++(nT qF::nT s::sT [59]::r)):=by simp_all[g_]
 rw[e];unfold kO;rw[cG (ub kN hn _),cG (z_ [59] _),
  cG (wH (f:=kL) (w:=fun s=>fr s=true) Pm (fun a r h=>by show eY h_ (nT h_::_)=true;rw[uD];simp) (fun a=>by simp[kL]) (r:=nT qF::nT s::sT [59]::r) (by rw[uD];decide) cs (aaI.1 hc)),
  cG (ub qF hs _),cG (z_ [59] _)]
 rfl
def PW(x:Entry):dn x≠[]:=by simp[dn]
def TU(x:aF):dN x≠[]:=by simp[dN]
def ZW(rs:List aF)(h:∀x∈rs,HZ x):cb (eY gJ) gI (rs.flatMap dN)= .ok (rs,[]):=by
 have:=wH (f:=dN) acS (fun a r h=>by show eY gJ (nT gJ::_)=true;rw[uD];simp) TU (r:=[]) rfl rs h
 exact awN
theorem Sw(es:List Entry)(rs:List aF)(h:∀x∈es,Ec x):cb (eY gL) fG (es.flatMap dn++rs.flatMap dN)= .ok (es,rs.flatMap dN):=
 wH (f:=dn) Yt (fun a r h=>by show eY gL (nT gL::_)=true;rw[uD];simp) PW (by
  cases rs with
  |nil=>rfl
  |cons x rs=>show eY gL (nT gJ::_)=false;rw[uD];decide) es h
def QD{g:aA}(h:wf g):ir (bf g)= .ok (g,[]):=by
 obtain⟨name,aB,start,no,es,rs⟩:=g;obtain⟨h1,h2,h3,h4,h5,h6⟩:=h;simp only at h1 h2 h3 h4 h5 h6;subst h4;unfold ir bf;rw[cG (ab9 _ h1 h3 h2),cG (Sw es rs h5),cG (ZW rs h6)];rfl
end Go.V.Gr
namespace Go.V.Lx
open Go.Proofs Go.RowKit
end Go.V.Lx
namespace Go.V.Lx
open Go.Proofs Go.RowKit
def wrap_u8{n:Int}(h1:0<=n)(h2:n<=255):IntKind.u8.wrap n=n:=IntWalk.u8_in n ⟨h1,h2⟩
end Go.V.Lx
namespace Go.V.Lx
open Go.Proofs Go.RowKit
theorem abg:∀(k u:Nat),u<10 ^ (k+1)->(Lib.decDigits u).length<=k+1
 |0,u,h=>by grind [Lib.decDigits_one]
 |k+1,u,h=>by
  rw[Lib.decDigits];by_cases h1:u<10
  ·exact awN
  ·rw[Nat.pow_succ]at h;rw[dif_neg h1,aaY,aa5,aeW];have:=abg k (u / 10) oM;exact oM
def mK(l:List Tok):Nat:=(l.map fun x=>x.t.length).sum
theorem RR{x:Tok}(h:cg x=true):(word x).length<=x.t.length+13:=by
 unfold word;split
 ·rename_i h2;unfold cg at h;rw[aaw oM,aaO h2]at h;simp only[aas,aaH]at h;obtain⟨u,hu⟩:∃u:Nat,x.n=u:=⟨x.n.toNat,oM⟩
  rw[hu,Lib.itoa_nonneg];have:=abg 12 u oM;exact oM
 ·exact oM
theorem sum_cons(x:Tok)(l:List Tok):mK (x::l)=x.t.length+mK l:=rfl
theorem RG:∀(l:List Tok),l.all cg=true->(Lib.joinTail [32] (l.map word)).length<=mK l+14 * l.length
 |[],_=>by simp[Lib.joinTail]
 |x::l,h=>by
  rw[aep,aas]at h;have h1:=RG l h.2
  grind [RR,Lib.joinTail,sum_cons]
theorem Zj(l:List Tok)(h:l.all cg=true):(Lib.join (l.map word) [32]).length<=mK l+14 * l.length:=by
 cases l with
 |nil=>simp[Lib.join_nil]
 |cons x l=>
  rw[aep,aas]at h
  grind [RG,RR,Lib.join_cons,sum_cons]
theorem zX{l:List Tok}{x:Tok}(h:x∈l):x.t.length<=mK l:=by
 induction l with
 |nil=>cases h
 |cons y l ih=>
  rw[sum_cons]
  exact awN
def FI{l:List Tok}{k:Nat}{x:Tok}(hx:l[k]? =some x):mK (l.take (k+1))=mK (l.take k)+x.t.length:=by
 unfold mK;rw[ae2,hx];exact sI
end Go.V.Lx
namespace Go.V.Gr
open Go.Proofs Go.Proofs.Tryz Go.RowKit Go.V.Lx
theorem Lj:∀ {l:List Tk},l.all cg=true->mK l<=32 * l.length:=by
 intro l;induction l with
 |nil=>intro _;simp[mK]
 |cons x l ih=>
  intro h;rw[aep,aas]at h;have h1:x.t.length<=32:=by
   have h:=h.1;unfold cg at h;split at h
   ·rw[aas]at h;have h:=h.1;cases ht:x.t<;>simp_all[iP]
   split at h
   ·exact awN
   split at h
   ·rw[aas]at h;have h:=h.1
    match ht:x.t,h with
    |[c],_=>simp
   ·exact awI
  grind [sum_cons]
def agM(l:List Tk)(hl:l.length<=1000000)(ht:∀x∈l,x.t.length<=140737488355328):av prog 48 [bW l] (LV (pF l)):=by intros;grind [agL,Zj,Lj]
def eb(g:aA):ae×Int:=match pF (bf g)with
 |(s,e)=>if e≠0 then([],250)else match iy (bf g) 0 with
  |(x,_,e)=>if e≠0 then([],250)else if x=g then(s,0)else([],250)
structure Pr(g:aA):Prop where
 n:(bf g).length<=900000
 t:∀x∈bf g,x.t.length<=140737488355328
 sz:Sz g
 aB:g.aB.length<=1000000
 dw:g.entries.length<=1000000
 yL:g.rules.length<=1000000
 JR:∀x∈g.entries,x.aE.length<=1000000
 Hw:∀x∈g.rules,x.parts.length<=1000000/\x.aE.length<=1000000
theorem Wd{α:Type}(f:α->List Tk)(hf:∀a,f a≠[])(l:List α):l.length<=(l.flatMap f).length:=by
 have:=Is hf [] l
 exact awN
theorem U_(l:List ae):l.length<=(e_ l).length:=by cases l<;>grind [e_,Wd,l_]
theorem Zs{α:Type}(f:α->List Tk){l:List α}{x:α}(h:x∈l):(f x).length<=(l.flatMap f).length:=by
 obtain⟨k,hk⟩:=ap8 h;have:=Ir f hk;exact oM
def wD(g:aA){N:Nat}(h:(bf g).length<=N):g.aB.length<=N/\g.entries.length<=N/\g.rules.length<=N/\(∀x∈g.entries,x.aE.length<=N)/\∀x∈g.rules,x.parts.length<=N/\x.aE.length<=N:=by
 simp only[bf,g_,aaY,aa5,aeW]at h
 grind [Wd,kL,dn,dN,Zs,U_,HT,HS]
def Bl(g:aA)(h:(bf g).length<=140737488355328):Sz g:=⟨(wD g h).1,(wD g h).2.1,(wD g h).2.2.1,(wD g h).2.2.2.1,(wD g h).2.2.2.2⟩
theorem Pr.of{g:aA}(h:(bf g).length<=900000)(ht:∀x∈bf g,x.t.length<=140737488355328):Pr g:=
 have k:=wD g (N:=1000000) oM
 ⟨h,ht,Bl g oM,k.1,k.2.1,k.2.2.1,k.2.2.2.1,k.2.2.2.2⟩
def Ru(g:aA)(h:Pr g):av prog 23 [g.d] (.aL [.str (eb g).1,.int .i64 (eb g).2]):=by
 refine fF f23 [] [.tmp 2,.tmp 3] ?_;have rz:g.d= .agg [.str g.name,strs g.aB,.str g.start,.int .i64 g.no,.sl 5 (g.entries.map Entry.d),.sl 5 (g.rules.map aF.d)]:=rfl;rw[rz];simp(disch:=omega) only[go_sem,strs];have CG:nk (ah (ah (fun _=>Bx.none) 1 ⟨Bx.none.ep+1,1,6,78,[.agg [.str g.name,.sl 1 (g.aB.map D.str),.str g.start,.int .i64 g.no,.sl 5 (g.entries.map Entry.d),.sl 5 (g.rules.map aF.d)]]⟩) 9 ⟨Bx.none.ep+1,1,1,144,[.agg [.ak]]⟩) 1 []:=⟨.ak,by rw[aY];rfl,aP.nil _ _ _ _⟩
 have hgc:=Vf g 1 _ CG h.n h.aB h.dw h.yL h.JR h.Hw;rw[rz]at hgc;simp only[strs]at hgc;refine ao hgc rfl ?_;rintro d b2 ⟨rfl,⟨l,b9,hv⟩,hK⟩;have b1:=hK 1 oM oM;rw[al oM,aY]at b1;obtain⟨t,e',ht,rfl,hb⟩:∃t e',t∈iV/\l= .ba t e' 4 0 (bf g).length/\b2 t=⟨e',1,4,212,(bf g).map Tok.d⟩:=by rcases hv with⟨_,h2⟩|hv<;>grind [bf,g_]
 have ht9:t≠9:=awN
 have ht1:t≠1:=awN
 have ho:∀(b:ab) (k:Nat),lv k->b t=⟨e',k,4,212,(bf g).map Tok.d⟩->aU b (.ba t e' 4 0 (bf g).length)=some (bW (bf g)):=by
  intro b k e1 e2;rw[jQ,e2];exact ja _ _ _ _ _ _ e1 sI (A4 _)
 simp(disch:=omega) only[go_sem,b9,strs];have GQ:=ho b2 1 awL hb;refine ET (agM (bf g) (by have:=h.n;omega) h.t) (by grind [dh,iw,pg]) rfl ?_;have hf:aS b2 [.ba t e' 4 0 (bf g).length]=ah b2 t ⟨e',2,4,212,(bf g).map Tok.d⟩:=by simp[aS,cK,hb]
 rw[hf];obtain⟨b3,zl⟩:∃b,b=ah b2 t ⟨e',2,4,212,(bf g).map Tok.d⟩:=⟨_,rfl⟩
 rw[<-zl];have c9:=(congrFun zl 9).trans ((al (Ne.symm ht9)).trans b9);have c1:=(congrFun zl 1).trans ((al (Ne.symm ht1)).trans b1);have ct:=(congrFun zl t).trans (aY _ _ _);clear zl hf;by_cases hvd:(bf g).all cg=true
 ·have ht:pF (bf g)=(Lib.join ((bf g).map word) [32],0):=by simp_all[pF]
  have hp:eb g=match iy (bf g) 0 with
   |(x,_,e)=>if e≠0 then([],250)else if x=g then(Lib.join ((bf g).map word) [32],0)else([],250):=by grind [eb]
  rw[ht,hp];simp(disch:=omega) only[go_sem,LV,c9];refine ET (WU (bf g) 0 (by have:=h.n;omega)) (by simp only[dh,iw,ho b3 2 awL ct,ZG,pg];rfl) rfl ?_;have hf:aS b3 [.ba t e' 4 0 (bf g).length,.int .i64 0]=ah b3 t ⟨e',2,4,212,(bf g).map Tok.d⟩:=by simp[aS,cK,ct]
  rw[hf];have d1':(ah b3 t ⟨e',2,4,212,(bf g).map Tok.d⟩) 1=_:=(al (Ne.symm ht1)).trans c1;generalize ah b3 t ⟨e',2,4,212,(bf g).map Tok.d⟩=b4 at d1';have d1:=d1';clear d1' hf;cases hgp:ir (bf g)with
  |error r=>
   have hr:iy (bf g) 0=(aA.zero,xw 0 r,250):=by unfold iy;rw[hgp]
   have hz:A7 (aA.zero,xw 0 r,250)= .aL [.agg [.str [],.sl 1 [],.str [],.int .i64 0,.sl 5 [],.sl 5 []],.int .i64 (xw 0 r),.int .i64 250]:=rfl;rw[hr,hz];simp(disch:=omega) only[go_sem,d1];exact .refl _
  |ok q=>
   obtain⟨x,r⟩:=q;have hr:iy (bf g) 0=(x,0,0):=by unfold iy;rw[hgp]
   have hx:x.d= .agg [.str x.name,.sl 1 (x.aB.map D.str),.str x.start,.int .i64 x.no,.sl 5 (x.entries.map Entry.d),.sl 5 (x.rules.map aF.d)]:=rfl;have iS:Sz x:=Bl x (by rw[<-FA (ru hvd hgp).1];have:=h.n;omega);have GU:=agt x g iS h.sz;have VX:D.aH [x.d,g.d]=true:=by simp[D.aH,rL]
   rw[rz,hx]at GU VX;simp only[strs]at GU VX;have hz:A7 (x,0,0)= .aL [x.d,.int .i64 0,.int .i64 0]:=rfl;rw[hr,hz,hx];simp(disch:=omega) only[go_sem,d1];refine aI GU VX ?_;simp(disch:=omega) only[go_sem,d1];refine aW (fun he=>?_) (fun he=>?_)
   ·simp(disch:=omega) only[go_sem,d1];simp only[he,abo];exact .refl _
   ·simp(disch:=omega) only[go_sem,d1];simp only[he,aa_];exact .refl _
 ·have ht:pF (bf g)=([],30):=by simp_all[pF]
  have hp:eb g=([],250):=by grind [eb]
  rw[ht,hp];simp(disch:=omega) only[go_sem,LV];exact .refl _
def zL(g:aA):Prop:=Vd (bf g)/\wf g
def OZ{l:List Tk}(h:Vd l):pF l=(Lib.join (l.map word) [32],0):=aaO h
theorem aae{l:List Tk}(h:¬Vd l):pF l=([],30):=aaw h
def KS{g:aA}(h:zL g):eb g=(Lib.join ((bf g).map word) [32],0):=by
 unfold eb;rw[OZ h.1];have:iy (bf g) 0=(g,0,0):=by unfold iy;rw[QD h.2]
 exact awN
theorem WL{g:aA}(h:¬zL g):eb g=([],250):=by
 unfold eb;by_cases hv:Vd (bf g)
 ·rw[OZ hv];cases hg:ir (bf g)with
  |error r=>
   grind [iy]
  |ok q=>
   obtain⟨x,r⟩:=q;have:iy (bf g) 0=(x,0,0):=by unfold iy;rw[hg]
   rw[this];by_cases he:x=g
   ·subst he;exact absurd ⟨hv,(ru hv hg).2⟩ h
   exact awN
 grind [aae]
def wI{α:Type}{l m:List α}{k:Nat}{x y:α}(hx:l[k]? =some x)(hy:m[k]? =some y)(h:¬x=y):¬l=m:=av6
def MP(l m:List ae)(hl:l.length<=140737488355328)(hm:m.length<=140737488355328):av prog 68 [strs l,strs m] (.bool (decide (l=m))):=by
 refine fF f68 [] [.tmp 4] ?_;simp(disch:=omega) only[go_sem,strs];refine aW (fun h1=>?_) (fun h1=>?_)
 ·have h1:l.length=m.length:=oM;simp(disch:=omega) only[go_sem];refine bB l.length (fun k σ bx=>σ 0=strs l/\σ 1=strs m/\σ 5= .int .i64 k/\l.take k=m.take k) ?_ ?_ ?_
  ·simp[go_sem,aM,strs]
  ·rintro k σ bx hk ⟨h0,mP,h8,hn⟩;obtain⟨x,hx⟩:=bk hk;obtain⟨y,hy⟩:=bk (show k<m.length by omega);have au:(k:Int)<(l.length:Int):=oM;have sH:(k:Int)<(m.length:Int):=oM;repeat' first|with_reducible apply zJ<;>intro _|simp(disch:=omega) only[go_sem, *,h0,mP,h8,au,sH,strs,hx,hy]
   ·exact arM
   ·rename_i sM;exact aq (aaR D.bool (aeH (wI hx hy sM)).symm)
  ·rintro σ bx ⟨h0,mP,h8,hn⟩;have au:¬(l.length:Int)<(l.length:Int):=oM;simp(disch:=omega) only[go_sem,h0,mP,h8,au,strs];rw[aaP,h1,aaP]at hn;exact av3
 ·exact aq0
def ZX(x y:Entry)(hx:x.aE.length<=140737488355328)(hy:y.aE.length<=140737488355328):av prog 130 [x.d,y.d] (.bool (decide (x=y))):=by
 refine fF f130 [] [.tmp 4] ?_;have hq:=MP x.aE y.aE hx hy;simp only[strs]at hq;obtain⟨a,b,c,d,e⟩:=x;obtain⟨a',b',c',d',e'⟩:=y;simp only at hq hx hy;repeat' first|with_reducible apply zJ<;>intro _|with_reducible refine pX (hq) sG ?_|simp(disch:=omega) only[go_sem, *,Entry.d,strs]
 all_goals (refine aq (aaR D.bool ?_);simp[*];done)
def ZY(x y:aF)(hx:x.parts.length<=140737488355328/\x.aE.length<=140737488355328)(hy:y.parts.length<=140737488355328/\y.aE.length<=140737488355328):av prog 131 [x.d,y.d] (.bool (decide (x=y))):=by
 refine fF f131 [] [.tmp 4] ?_;obtain⟨a,b,c,d,e⟩:=x;obtain⟨a',b',c',d',e'⟩:=y;simp only at hx hy;repeat' first|with_reducible apply zJ<;>intro _|simp(disch:=omega) only[go_sem, *,aF.d]
 case refine_1.refine_1.refine_1.refine_1.refine_1=>
  rename_i e1 e2 e3 e4 e5;have e4:c.length=c'.length:=oM;have e5:d.length=d'.length:=oM;refine bB c.length (fun k σ bx=>σ 2= .loc 2 1 0 0/\σ 3= .loc 3 1 0 0/\σ 5= .int .i64 k/\bx 2=⟨1,1,5,157,[.agg [.str a,.int .i64 b,.sl 3 (c.map Part.d),.sl 2 (d.map bt.d),.int .i64 e]]⟩/\bx 3=⟨1,1,5,157,[.agg [.str a',.int .i64 b',.sl 3 (c'.map Part.d),.sl 2 (d'.map bt.d),.int .i64 e']]⟩/\c.take k=c'.take k) ?_ ?_ ?_
  ·exact auH
  ·rintro k σ bx hk ⟨h2,h3,h5,b2,b3,hn⟩;obtain⟨x,hx⟩:=bk hk;obtain⟨y,hy⟩:=bk (show k<c'.length by omega);have au:(k:Int)<(c.length:Int):=oM;have sH:(k:Int)<(c'.length:Int):=oM;obtain⟨x1,x2,x3⟩:=x;obtain⟨y1,y2,y3⟩:=y;repeat' first|with_reducible apply zJ<;>intro _|simp(disch:=omega) only[go_sem, *,h2,h3,h5,b2,b3,au,hx,hy,Part.d]
   ·rename_i sM;rw[aR oM];exact⟨rfl,nP hx hy hn awN⟩
   ·rename_i sM;refine aq (aaR D.bool (aeH fun e=>wI hx hy (fun h=>?_) awc).symm)
    exact awN
  ·rintro σ bx ⟨h2,h3,h5,b2,b3,hn⟩;have au:¬(c.length:Int)<(c.length:Int):=oM;rw[aaP,e4,aaP]at hn;simp(disch:=omega) only[go_sem,h2,h3,h5,b2,b3,au];refine bB d.length (fun k σ bx=>σ 2= .loc 2 1 0 0/\σ 3= .loc 3 1 0 0/\σ 6= .int .i64 k/\bx 2=⟨1,1,5,157,[.agg [.str a,.int .i64 b,.sl 3 (c.map Part.d),.sl 2 (d.map bt.d),.int .i64 e]]⟩/\bx 3=⟨1,1,5,157,[.agg [.str a',.int .i64 b',.sl 3 (c'.map Part.d),.sl 2 (d'.map bt.d),.int .i64 e']]⟩/\d.take k=d'.take k) ?_ ?_ ?_
   ·simp[go_sem,aM,ah,Bx.none,h2,h3,b2,b3]
   ·rintro k σ bx hk ⟨h2,h3,h5,b2,b3,xd⟩;obtain⟨x,hx⟩:=bk hk;obtain⟨y,hy⟩:=bk (show k<d'.length by omega);have au:(k:Int)<(d.length:Int):=oM;have sH:(k:Int)<(d'.length:Int):=oM;obtain⟨x1,x2⟩:=x;obtain⟨y1,y2⟩:=y;repeat' first|with_reducible apply zJ<;>intro _|simp(disch:=omega) only[go_sem, *,h2,h3,h5,b2,b3,au,hx,hy,bt.d]
    ·rename_i sM;rw[aR oM];exact⟨rfl,nP hx hy xd awN⟩
    ·rename_i sM;refine aq (aaR D.bool (aeH fun e=>wI hx hy (fun h=>?_) awc).symm)
     exact awN
   ·rintro σ bx ⟨h2,h3,h5,b2,b3,xd⟩;have au:¬(d.length:Int)<(d.length:Int):=oM;rw[aaP,e5,aaP]at xd;simp(disch:=omega) only[go_sem,h2,h3,h5,b2,b3,au];exact av3
 all_goals
  refine aq (aaR D.bool (aeH ?_).symm);intro e;injection e;exact awy
def acW(x y:aA)(hx:Sz x)(hy:Sz y):av prog 65 [x.d,y.d] (.bool (decide (x=y))):=by
 refine fF f65 [] [.tmp 4] ?_;have hq:=MP x.aB y.aB hx.aB hy.aB;simp only[strs]at hq;obtain⟨a,b,c,d,e,f⟩:=x;obtain⟨a',b',c',d',e',f'⟩:=y;obtain⟨u1,u2,u3,u4,u5⟩:=hx;obtain⟨v1,v2,v3,v4,v5⟩:=hy;simp only at hq u1 u2 u3 u4 u5 v1 v2 v3 v4 v5;repeat' first|with_reducible apply zJ<;>intro _|with_reducible refine pX (hq) sG ?_|simp(disch:=omega) only[go_sem, *,aA.d,strs]
 case refine_1.refine_1.refine_1.refine_1.refine_1.refine_1=>
  rename_i e1 e2 e3 e4 e5 e6;have e5:e.length=e'.length:=oM;have e6:f.length=f'.length:=oM;refine bB e.length (fun k σ bx=>σ 2= .loc 2 1 0 0/\σ 3= .loc 3 1 0 0/\σ 5= .int .i64 k/\bx 2=⟨1,1,6,78,[.agg [.str a,.sl 1 (b.map D.str),.str c,.int .i64 d,.sl 5 (e.map Entry.d),.sl 5 (f.map aF.d)]]⟩/\bx 3=⟨1,1,6,78,[.agg [.str a',.sl 1 (b'.map D.str),.str c',.int .i64 d',.sl 5 (e'.map Entry.d),.sl 5 (f'.map aF.d)]]⟩/\e.take k=e'.take k) ?_ ?_ ?_
  ·exact auH
  ·rintro k σ bx hk ⟨h2,h3,h5,b2,b3,hn⟩;obtain⟨x,hx⟩:=bk hk;obtain⟨y,hy⟩:=bk (show k<e'.length by omega);have au:(k:Int)<(e.length:Int):=oM;have hc:=ZX x y (u4 x (aat hx)) (v4 y (aat hy));have iI:x.d= .agg [.str x.text,.str x.cat,.int .i64 x.no,strs x.aE,.int .i64 x.cost]:=rfl;have oL:y.d= .agg [.str y.text,.str y.cat,.int .i64 y.no,strs y.aE,.int .i64 y.cost]:=rfl;rw[iI,oL]at hc;simp only[strs]at iI oL hc;simp(disch:=omega) only[go_sem,h2,h3,h5,b2,b3,au,hx,hy,iI,oL];refine aI hc sG ?_;simp(disch:=omega) only[go_sem,h2,h3,h5,b2,b3];refine aW (fun hv=>?_) (fun hv=>?_)
   ·simp(disch:=omega) only[go_sem,h2,h3,h5,b2,b3];rw[aR oM];exact⟨rfl,nP hx hy hn hv⟩
   ·exact aqr
  ·rintro σ bx ⟨h2,h3,h5,b2,b3,hn⟩;have au:¬(e.length:Int)<(e.length:Int):=oM;rw[aaP,e5,aaP]at hn;simp(disch:=omega) only[go_sem,h2,h3,h5,b2,b3,au];refine bB f.length (fun k σ bx=>σ 2= .loc 2 1 0 0/\σ 3= .loc 3 1 0 0/\σ 6= .int .i64 k/\bx 2=⟨1,1,6,78,[.agg [.str a,.sl 1 (b.map D.str),.str c,.int .i64 d,.sl 5 (e.map Entry.d),.sl 5 (f.map aF.d)]]⟩/\bx 3=⟨1,1,6,78,[.agg [.str a',.sl 1 (b'.map D.str),.str c',.int .i64 d',.sl 5 (e'.map Entry.d),.sl 5 (f'.map aF.d)]]⟩/\f.take k=f'.take k) ?_ ?_ ?_
   ·simp[go_sem,aM,ah,Bx.none,h2,h3,b2,b3]
   ·rintro k σ bx hk ⟨h2,h3,h5,b2,b3,xd⟩;obtain⟨x,hx⟩:=bk hk;obtain⟨y,hy⟩:=bk (show k<f'.length by omega);have au:(k:Int)<(f.length:Int):=oM;have hc:=ZY x y (u5 x (aat hx)) (v5 y (aat hy));have iI:x.d= .agg [.str x.cat,.int .i64 x.no,.sl 3 (x.parts.map Part.d),.sl 2 (x.aE.map bt.d),.int .i64 x.cost]:=rfl;have oL:y.d= .agg [.str y.cat,.int .i64 y.no,.sl 3 (y.parts.map Part.d),.sl 2 (y.aE.map bt.d),.int .i64 y.cost]:=rfl;rw[iI,oL]at hc;simp(disch:=omega) only[go_sem,h2,h3,h5,b2,b3,au,hx,hy,iI,oL];refine aI hc auW ?_;simp(disch:=omega) only[go_sem,h2,h3,h5,b2,b3];refine aW (fun hv=>?_) (fun hv=>?_)
    ·simp(disch:=omega) only[go_sem,h2,h3,h5,b2,b3];rw[aR oM];exact⟨rfl,nP hx hy xd hv⟩
    ·exact aqr
   ·rintro σ bx ⟨h2,h3,h5,b2,b3,xd⟩;have au:¬(f.length:Int)<(f.length:Int):=oM;rw[aaP,e6,aaP]at xd;simp(disch:=omega) only[go_sem,h2,h3,h5,b2,b3,au];exact aq (aaR D.bool (akM (by rw[e1,e2,e3,e4,hn,xd])).symm)
 all_goals
  refine aq (aaR D.bool (aeH ?_).symm);intro e;injection e;exact awy
def yp(x:Entry):Bool:=decide (x.aE.length<=10)
def wQ(x:aF):Bool:=decide (x.parts.length<=10)&&decide (x.aE.length<=10)
def sq(g:aA):Bool:=decide (g.aB.length<=40)&&(decide (g.entries.length<=40)&&(decide (g.rules.length<=40)&&(decide (g.name.length<=60)&&(decide (g.start.length<=60)&&(g.entries.all yp&&g.rules.all wQ)))))
end Go.V.Gr
namespace Go.V.Lx
open Go.Proofs Go.RowKit
def stK(r:List UInt8):Step:=match r with
 |[]=>none
 |c::_=>if cls c=1 then some ((r.takeWhile spB).length,[])else if cls c=2 then ew ⟨1,r.takeWhile gG,0,0⟩ 0 (r.takeWhile gG).length
  else if cls c=3 then zI (r.takeWhile nU)else if cls c=4 then(if lD r=true then some ((r.takeWhile AN).length,[])else some (1,[⟨3,[c],0,0⟩]))else none
theorem agC(r:List UInt8):stK r=st r:=by
 cases r with
 |nil=>rfl
 |cons c t=>
  show(if cls c=1 then _ else _)=_
  grind [Xk,OT,OU,Ld,st5]
def NZ:Nat->List UInt8->Nat->List Tok->List Tok×Int×Int
 |0,_,_,xs=>(xs,0,0)
 |f+1,r,i,xs=>if r=[]then(xs,0,0)else match stK r with
  |none=>([],i,30)
  |some (n,l)=>NZ f (r.drop n) (i+n) (xs++l.map (Bz i))
theorem Rf(s:List UInt8):∀(f i:Nat) (xs:List Tok),s.length - i<=f->NZ f (s.drop i) i xs=jg s (s.length - i) i xs
 |0,i,xs,h=>by rw[CV oM];rfl
 |f+1,i,xs,h=>by
  rw[NZ];by_cases hr:s.drop i=[]
  ·rw[aaO hr,CV];exact awy
  ·rw[aaw hr,agC];have hi:i<s.length:=awy
   cases hs:st (s.drop i)with
   |none=>grind [Kv]
   |some p=>
    obtain⟨n,l⟩:=p;simp only[];have h1:=D9 hs;rw[alS,Rf s f (i+n) _ oM,Fb hs]
theorem acs(s:List UInt8)(hs:s.length<=65536):jP s=NZ s.length s 0 []:=by
 unfold jP;rw[aaw oM];exact(Rf s s.length 0 [] oM).symm
end Go.V.Lx
namespace Go.V.Gr
open Go.Proofs Go.RowKit Go.V.Lx
def qY{s:ae}{l:List Tk}{r:aA×Int×Int}(hs:s.length<=65536)(h:NZ s.length s 0 []=(l,0,0))(hr:iy l s.length=r):cF s=r:=by grind [cF,acs]
def exs:List (ae×Int):=[([],0),([103,114,97,109,109,97,114,32,119,111,114,100,59],8),([103,114,97,109,109,97,114,32,103,59,115,116,97,114,116],15),([103,114,97,109,109,97,114,32,103,59,32,115,116,97,114,116,32,115,59,32,114,117,108,101,32,115,32,61,32,103,105,118,101,115,32,48,32,99,111,115,116,32,49,59],29),([103,114,97,109,109,97,114,32,103,59,115,116,97,114,116,32,115,59,99,97,116,101,103,111,114,121,32,99,59],18)]
def aed:∀p∈exs,cF p.1=(aA.zero,p.2,250):=by
 intro p hp;simp only[exs,aaQ,abe,aeV]at hp;rcases hp with rfl|rfl|rfl|rfl|rfl
 ·exact qY (l:=[]) awL avT ar
 ·exact qY (l:=[⟨1,[103,114,97,109,109,97,114],0,0⟩,⟨1,[119,111,114,100],0,8⟩,⟨3,[59],0,12⟩]) awL avT ar
 ·exact qY (l:=[⟨1,[103,114,97,109,109,97,114],0,0⟩,⟨1,[103],0,8⟩,⟨3,[59],0,9⟩,⟨1,[115,116,97,114,116],0,10⟩]) awL avT ar
 ·exact qY (l:=[⟨1,[103,114,97,109,109,97,114],0,0⟩,⟨1,[103],0,8⟩,⟨3,[59],0,9⟩,⟨1,[115,116,97,114,116],0,11⟩,⟨1,[115],0,17⟩,⟨3,[59],0,18⟩,⟨1,[114,117,108,101],0,20⟩,⟨1,[115],0,25⟩,⟨3,[61],0,27⟩,⟨1,[103,105,118,101,115],0,29⟩,⟨2,[],0,35⟩,⟨1,[99,111,115,116],0,37⟩,⟨2,[],1,42⟩,⟨3,[59],0,43⟩]) awL avT ar
 ·exact qY (l:=[⟨1,[103,114,97,109,109,97,114],0,0⟩,⟨1,[103],0,8⟩,⟨3,[59],0,9⟩,⟨1,[115,116,97,114,116],0,10⟩,⟨1,[115],0,16⟩,⟨3,[59],0,17⟩,⟨1,[99,97,116,101,103,111,114,121],0,18⟩,⟨1,[99],0,27⟩,⟨3,[59],0,28⟩]) awL avT ar
def Xb:ae:=[103,114,97,109,109,97,114,32,103,32,59,32,115,116,97,114,116,32,115,32,59]
def HI:aA:=⟨[103],[],[115],0,[],[]⟩
def af0{g g':aA}{r:List Tk}(hv:(bf g).all cg=true)(h:ir (bf g)= .ok (g,r)):zL g:=⟨hv,(ru hv h).2⟩
def BL:zL HI:=af0 (g':=HI) avT (r:=[]) ar
def af8:Pr aA.zero:=Pr.of avT avT
abbrev M:Nat:=140737488355328
structure StE(x:Entry):Prop where
 text:x.text.length<=M
 cat:x.cat.length<=M
 aE:∀s∈x.aE,s.length<=M
structure StR(x:aF):Prop where
 cat:x.cat.length<=M
 parts:∀p∈x.parts,p.cat.length<=M/\p.text.length<=M
 aE:∀y∈x.aE,y.text.length<=M
structure St(g:aA):Prop where
 name:g.name.length<=M
 start:g.start.length<=M
 aB:∀s∈g.aB,s.length<=M
 dw:∀x∈g.entries,StE x
 yL:∀x∈g.rules,StR x
def Fit(l:List Tk):Prop:=∀x∈l,x.t.length<=M
theorem lj:Fit []:=fun x h=>awI
theorem cC{x:Tk}{l:List Tk}(h:x.t.length<=M)(hl:Fit l):Fit (x::l):=fun y hy=>by
 rcases aaQ.1 hy with rfl|hy
 ·exact h
 ·exact hl y hy
def po{l m:List Tk}(hl:Fit l)(hm:Fit m):Fit (l++m):=fun y hy=>by
 rcases abr.1 hy with hy|hy
 ·exact hl y hy
 ·exact hm y hy
def tM{α:Type}{f:α->List Tk}{l:List α}(h:∀a∈l,Fit (f a)):Fit (l.flatMap f):=fun y hy=>by
 obtain⟨a,ha,hy⟩:=afm.1 hy;exact h a ha y hy
theorem U4{l:List ae}(h:∀s∈l,s.length<=M):Fit (e_ l):=by
 cases l with
 |nil=>exact lj
 |cons a l=>
  refine cC (h a (aeY ..)) (tM fun s hs=>?_);exact cC awL (cC (h s (aa2 _ hs)) lj)
def Qs(n:Int):Fit (lN n):=cC awL (cC (by simp[dT]) (cC awL lj))
def U3{x:Entry}(h:StE x):Fit (dn x):=
 po (cC awL (cC h.text (cC awL (cC h.cat (cC awL lj))))) (po (U4 h.aE) (Qs _))
def YC{x:aF}(h:StR x):Fit (dN x):=
 po (cC awL (cC h.cat (cC awL lj))) (po (tM fun p hp=>by
  unfold dM;split
  ·exact cC (h.parts p hp).1 lj
  ·exact cC awL (cC (h.parts p hp).2 lj)) (cC awL (po (tM fun y hy=>by
  unfold dI;split
  ·grind [cC,dT,lj]
  ·exact cC awL (cC (h.aE y hy) lj)) (Qs _))))
def MX{g:aA}(h:St g):Fit (bf g):=
 po (po (cC awL (cC h.name (cC awL lj))) (po (tM fun s hs=>cC awL (cC (h.aB s hs) (cC awL lj))) (cC awL (cC h.start (cC awL lj)))))
  (po (tM fun x hx=>U3 (h.dw x hx)) (tM fun x hx=>YC (h.yL x hx)))
theorem qU{α:Type}{f:α->List Tk}{B:Nat}:∀ {l:List α},(∀a∈l,(f a).length<=B)->(l.flatMap f).length<=l.length * B
 |[],_=>sI
 |a::l,h=>by
  rw[afs,aaY,aa5,ak6];have:=h a (aeY ..);have:=qU (l:=l) fun b hb=>h b (aa2 _ hb);omega
theorem Va(l:List ae):(e_ l).length<=2 * l.length:=by
 cases l with
 |nil=>simp[e_]
 |cons a l=>
  rw[e_,aa5,aa5];have:=qU (f:=l_) (B:=2) (l:=l) fun s _=>by simp[l_]
  exact oM
def UY{x:Entry}{n:Nat}(h:x.aE.length<=n):(dn x).length<=8+2 * n:=by grind [Va,dn,lN]
def ZV{x:aF}{n:Nat}(h:x.parts.length<=n/\x.aE.length<=n):(dN x).length<=7+4 * n:=by
 have h1:=qU (f:=dM) (B:=2) (l:=x.parts) fun p _=>by grind [dM]
 have h2:=qU (f:=dI) (B:=2) (l:=x.aE) fun p _=>by grind [dI]
 grind [dN,lN]
def Nc{g:aA}{c e r n:Nat}(h1:g.aB.length<=c)(h2:g.entries.length<=e)(h3:g.rules.length<=r)(h4:∀x∈g.entries,x.aE.length<=n)(h5:∀x∈g.rules,x.parts.length<=n/\x.aE.length<=n):(bf g).length<=30+c * 3+e * (8+2 * n)+r * (7+4 * n):=by
 have k1:=qU (f:=kL) (B:=3) (l:=g.aB) fun p _=>by simp[kL]
 have k2:=qU (f:=dn) (B:=8+2 * n) (l:=g.entries) fun x hx=>UY (h4 x hx);have k3:=qU (f:=dN) (B:=7+4 * n) (l:=g.rules) fun x hx=>ZV (h5 x hx);have m1:=aen 3 h1;have m2:=aen (8+2 * n) h2;have m3:=aen (7+4 * n) h3
 grind [bf,g_]
structure Few(g:aA):Prop where
 aB:g.aB.length<=40
 dw:g.entries.length<=40
 yL:g.rules.length<=40
 JR:∀x∈g.entries,x.aE.length<=10
 Hw:∀x∈g.rules,x.parts.length<=10/\x.aE.length<=10
theorem Few.pr{g:aA}(h:Few g)(hs:St g):Pr g:=by
 have:=Nc (g:=g) h.aB h.dw h.yL h.JR h.Hw;exact Pr.of oM (MX hs)
def PX{x:Tk}(h:cg x=true):x.t.length<=32:=by
 have:=Lj (l:=[x]) awK
 grind [mK]
theorem Hz:∀ {l m:List Tk},eH l m=true->l.all cg=true->m.all cg=true
 |[],[],_,_=>rfl
 |[],_::_,h,_=>awI
 |_::_,[],h,_=>awI
 |x::l,y::m,h,hv=>by
  obtain⟨h1,h2,h3,h4⟩:=Hy h;rw[aep,aas]at hv⊢;refine⟨?_,Hz h4 hv.2⟩
  grind [cg]
def AU{l r:List Tk}{g:aA}(hv:l.all cg=true)(h:ir l= .ok (g,r)):zL g:=⟨Hz (ru hv h).1 hv,(ru hv h).2⟩
def uI(s:ae):(s.length<=65536/\∃l g,LX s 0 l/\jP s=(l,0,0)/\ir l= .ok (g,[])/\cF s=(g,0,0))\/
 (s.length<=65536/\∃l r,LX s 0 l/\jP s=(l,0,0)/\ir l= .error r/\cF s=(aA.zero,xw s.length r,250))\/
 (∃a e,jP s=([],a,e)/\e≠0/\cF s=(aA.zero,a,e)):=by
 by_cases hs:s.length<=65536
 ·rcases Wf s hs with⟨l,hl,h⟩|⟨k,hl,h⟩
  ·have hp:cF s=iy l s.length:=by grind [cF]
   grind [iy,Vc]
  grind [cF]
 ·have h:jP s=([],0,2):=by simp_all[jP]
  grind [cF]
def Fm(s:ae):Pr (cF s).1:=by
 rcases uI s with⟨hs,l,g,hl,h1,hg,hp⟩|⟨hs,l,r,hl,h1,hg,hp⟩|⟨a,e,h1,he,hp⟩
 ·rw[hp];obtain⟨f1,f2,f3⟩:=hl.facts;have hk:=AU f1 hg;have hlen:=FA (ru f1 hg).1;show Pr g;exact Pr.of oM fun x hx=>by
   have:=PX (aaI.1 hk.1 x hx);exact oM
 ·rw[hp];exact af8
 ·rw[hp];exact af8
def yb{s:ae}(h:(cF s).2.2=0):zL (cF s).1/\(cF s).2.1=0:=by
 rcases uI s with⟨hs,l,g,hl,h1,hg,hp⟩|⟨hs,l,r,hl,h1,hg,hp⟩|⟨a,e,h1,he,hp⟩
 ·rw[hp];exact⟨AU hl.facts.1 hg,rfl⟩
 ·exact awN
 exact awN
def Lr{s:ae}{l l':List Tk}{g:aA}(hs:s.length<=65536)(hl:LX s 0 l')(h:eH l l'=true)(hg:ir l= .ok (g,[])):cF s=(g,0,0):=by
 have hp:cF s=iy l' s.length:=by unfold cF;rw[hl.lex hs];rfl
 rw[hp];unfold iy;rcases Ve l l' h with⟨a,k,h1,h2⟩|⟨k,h1,h2⟩<;>grind
def Tv{g:aA}(h:zL g)(hl:(Lib.join ((bf g).map word) [32]).length<=65536):cF (Lib.join ((bf g).map word) [32])=(g,0,0):=by
 obtain⟨l',h1,h2⟩:=N3 (bf g) 0 h.1;exact Lr hl h1 h2 (QD h.2)
end Go.V.Gr
namespace Go.V.Ty
open Go.Proofs Go.Proofs.Tryz Go.RowKit Go.V.Lx Go.V.Gr
def iB(p:ae->Bool)(g:aA):Bool:=mZ g.name&&(decide (0<g.aB.length)&&(g.aB.all mZ&&(p g.start&&(g.entries.all (oC p)&&g.rules.all (jj p)))))
def adh{f:FuncId}{caps:List D}{n0:Nat}{p:ae->Bool}(g:aA)(hg:ov g)(bx:ab)(hf:Lt f caps n0 bx p)(hn:n0<=200):
 az prog 172 0 [g.d,.fn (.func f) caps] bx (fun d bx'=>d= .bool (iB p g)/\∀s,s<200->bx' s=bx s) (fun _ _=>False):=by
 refine dY (fn:=f172) (tab:=[]) (base:=200) mixed ?_ rfl ar rfl;refine eG _ [.tmp 4] 48 rfl rfl rfl ar ?_;simp(disch:=omega) only[go_sem,aA.d,strs];generalize hB:ah (ah (ah (ah (ah (ah bx 202 _) 203 _) 205 _) 205 _) 207 _) 207 _=B;have nd:∀s,s<200->B s=bx s:=fun s hs=>by rw[<-hB];grind [al]
 have b2:B 202=⟨(bx 202).ep+1,1,6,78,[g.d]⟩:=by rw[<-hB];simp[ah,aA.d,strs]
 have b3:B 203=⟨(bx 203).ep+1,1,1,287,[.fn (.func f) caps]⟩:=avr
 have b5:B 205=⟨(bx 205).ep+1,1,1,114,[.fn (.func 232) [.loc 203 ((bx 203).ep+1) 0 0]]⟩:=avr
 have b7:B 207=⟨(bx 207).ep+1,1,1,340,[.fn (.func 237) [.loc 205 ((bx 205).ep+1) 0 0]]⟩:=avr
 have xR:Lt f caps n0 B p:=fun b s hb hs=>hf b s (fun q hq=>(hb q hq).trans (nd q oM)) hs;have YY:=ahX xR hn b3;have fin:∀(b:Bool) (B':ab),b=iB p g->(∀s,s<200->B' s=B s)->D.bool b= .bool (iB p g)/\∀s,s<200->B' s=bx s:=fun b B' h h'=>⟨by rw[h],fun s hs=>(h' s hs).trans (nd s hs)⟩
 refine aI (Cj g.name hg.name) sG ?_;cases h1:mZ g.name
 ·simp(disch:=omega) only[go_sem,h1];simp_all[iB]
 simp(disch:=omega) only[go_sem,h1,b2,aA.d,strs];refine aW (fun h2=>?_) (fun h2=>?_)
 rotate_left
 ·simp(disch:=omega) only[go_sem,h2,adX];simp_all[iB]
 have h2':0<g.aB.length:=oM;simp(disch:=omega) only[go_sem,h2,abq,b2,aA.d,strs];refine aI (Jv g.aB hg.Ih hg.aB) (by simp[go_sem,ji]) ?_;cases h3:g.aB.all mZ
 ·simp(disch:=omega) only[go_sem,h2,abq,h3];exact fin false B (by simp only[iB,h1,h3,akN,akP]) (fun _ _=>rfl)
 simp(disch:=omega) only[go_sem,h2,abq,h3,b5,b2,aA.d,strs];refine ao (YY B g.start (fun _ _=>rfl) hg.start) rfl ?_;rintro d B1 ⟨rfl,nx⟩;cases h4:p g.start
 ·simp(disch:=omega) only[go_sem,h4];exact fin false B1 (by simp_all[iB]) (fun s hs=>nx s oM)
 have c2:=(nx 202 oM).trans b2;simp(disch:=omega) only[go_sem,h4,c2,aA.d,strs];refine ao (adI 250 (abS YY oM b5) oM oM g.entries hg.EY hg.dw B1 (fun s hs=>nx s oM)) rfl ?_;rintro d B2 ⟨rfl,eQ⟩;cases h5:g.entries.all (oC p)
 ·simp(disch:=omega) only[go_sem,h5];exact fin false B2 (by simp only[iB,h1,h3,h4,h5,akN,akP]) (fun s hs=>(eQ s oM).trans (nx s oM))
 replace c2:=(eQ 202 oM).trans c2;simp(disch:=omega) only[go_sem,h5,c2,aA.d,strs];refine ao (adL 300 (agq YY oM b5 b7) oM oM g.rules hg.Dh hg.rules B2 (fun s hs=>(eQ s oM).trans (nx s oM))) rfl ?_;rintro d B3 ⟨rfl,Kc⟩;simp(disch:=omega) only[go_sem];refine fin (g.rules.all (jj p)) B3 ?_ (fun s hs=>(Kc s oM).trans ((eQ s oM).trans (nx s oM)));simp only[iB,h1,h2',h3,h4,h5,abq,akW]
end Go.V.Ty
namespace Go.V.Ty
open Go.Proofs Go.RowKit Go.V.Lx Go.V.Gr
abbrev PM:=List (ae×D×Int)
def dC(m:PM):List D:=m.map fun e=> .aL [.str e.1,e.2.1,.int .i64 e.2.2]
def MJ(m:PM):(dC m).length=m.length:=by simp[dC]
theorem tL(s:ae):∀(m:PM) (i:Nat),(dX .str (.str s) (dC m) i=some none/\∀e∈m,e.1≠s)\/∃j e,dX .str (.str s) (dC m) i=some (some (i+j,e.2.1))/\m[j]? =some e/\e.1=s
 |[],i=> .inl ⟨rfl,sI⟩
 |e::m,i=>by
  by_cases h:s=e.1
  ·exact .inr ⟨0,e,by simp[dC,dX,oq,h],rfl,h.symm⟩
  ·have hb:(s==e.1)=false:=awN
   rcases tL s m (i+1)with⟨h1,h2⟩|⟨j,e',h1,h2,h3⟩
   ·refine .inl ⟨?_,fun x hx=>?_⟩
    ·grind [dC,dX,oq]
    exact awN
   ·refine .inr ⟨j+1,e',?_,awN,h3⟩
    grind [dC,dX,oq]
theorem Gf(s:ae)(v:D):∀(m:PM) (j:Nat),(dC m).modify j (Ft (.str s) v)=dC (m.modify j fun e=>(s,v,e.2.2))
 |[],j=>by simp[dC]
 |e::m,0=>by simp[dC,Ft]
 |e::m,j+1=>by simpa[dC]using Gf s v m j
theorem JQ:∀(m:PM) (j:Nat),(dC m).eraseIdx j=dC (m.eraseIdx j)
 |[],j=>by simp[dC]
 |e::m,0=>by simp[dC]
 |e::m,j+1=>by simpa[dC]using JQ m j
def FN{m:PM}{s:ae}{c:Int}{v:D}(h:∀e∈m,e.1≠s):nj .str (.str s) v c (dC m)=some (.int .i64 (c+1)::dC (m++[(s,v,c)])):=by grind [tL,nj,dC]
def O7(m:PM)(s:ae)(c:Int)(v:D):∃(m':PM) (c':Int),nj .str (.str s) v c (dC m)=some (.int .i64 c'::dC m')/\m'.length<=m.length+1/\((∃e∈m,e.1=s)->m'.length=m.length):=by
 rcases tL s m 0 with⟨h1,h2⟩|⟨j,e,h1,h2,h3⟩
 ·exact⟨m++[(s,v,c)],c+1,FN h2,sI,fun⟨e,he,hs⟩=>(h2 e he hs).elim⟩
 ·exact⟨m.modify j fun e=>(s,v,e.2.2),c,by simp[nj,h1,Gf],sI,sI⟩
def abN{m:PM}{s:ae}{c:Int}(h:∃e∈m,e.1=s):∃j e,m[j]? =some e/\e.1=s/\MI .str (.str s) c (dC m)=some (.int .i64 c::dC (m.eraseIdx j)):=by
 obtain⟨e,he,hs⟩:=h;rcases tL s m 0 with⟨h1,h2⟩|⟨j,e,h1,h2,h3⟩<;>grind [MI,JQ]
def qd(x:aF):Option (ae×ae):=match x.parts with
 |[q]=>if q.text=[]then some (x.cat,q.cat)else none
 |_=>none
def Edge(rs:List aF)(c d:ae):Prop:=∃x∈rs,qd x=some (c,d)
def fY(L:List ae)(c:ae)(x:aF):Bool:=match qd x with
 |some (a,b)=>decide (a=c)&&L.contains b
 |none=>false
def Full(rs:List aF)(L:List ae):Prop:=∀c∈L,rs.any (fY L c)=true
def A1(rs:List aF)(L:List ae):List ae:=L.filter fun c=>rs.any (fY L c)
def ng(rs:List aF):Nat->List ae->List ae
 |0,L=>L
 |k+1,L=>ng rs k (A1 rs L)
def uy(g:aA):Bool:= !(ng g.rules g.aB.length g.aB).isEmpty
theorem Uf{rs:List aF}{L:List ae}{c:ae}:rs.any (fY L c)=true<->∃d∈L,Edge rs c d:=by
 rw[ak7];constructor
 ·rintro⟨x,hx,h⟩;unfold fY at h;split at h
  ·rename_i a b he;simp only[aas,aaH,agB]at h;exact⟨b,h.2,x,hx,by rw[he,h.1]⟩
  ·exact awI
 ·rintro⟨d,hd,x,hx,he⟩
  grind [fY]
def Hb{rs:List aF}{L M:List ae}{c:ae}(h:∀x∈L,x∈M)(hl:rs.any (fY L c)=true):rs.any (fY M c)=true:=by grind [Uf]
def ZN{rs:List aF}{F L:List ae}(hF:Full rs F)(h:∀x∈F,x∈L):∀x∈F,x∈A1 rs L:=fun x hx=>akt.2 ⟨h x hx,Hb h (hF x hx)⟩
theorem KN{rs:List aF}{F:List ae}(hF:Full rs F):∀(k:Nat) (L:List ae),(∀x∈F,x∈L)->∀x∈F,x∈ng rs k L
 |0,L,h=>h
 |k+1,L,h=>KN hF k _ (ZN hF h)
theorem KO{rs:List aF}:∀(k:Nat) (L:List ae),∀x∈ng rs k L,x∈L
 |0,L,x,h=>h
 |k+1,L,x,h=>(akt.1 (KO k _ x h)).1
theorem KQ{rs:List aF}{L:List ae}(h:Full rs L):A1 rs L=L:=List.filter_eq_self.2 h
theorem Hk{rs:List aF}{L:List ae}(h:Full rs L):∀k,ng rs k L=L
 |0=>rfl
 |k+1=>by rw[ng,KQ h,Hk h k]
theorem Oj{rs:List aF}:∀(k:Nat) (L:List ae),Full rs (ng rs k L)\/(ng rs k L).length+k<=L.length
 |0,L=> .inr (aaN _)
 |k+1,L=>by
  rw[ng];by_cases h:(A1 rs L).length<L.length
  ·rcases Oj k (A1 rs L)with h1|h1
   ·exact .inl h1
   exact awN
  grind [Full,List.length_filter_eq_length_iff,A1,KQ,Hk]
theorem M8(rs:List aF):Full rs []:=fun c h=>awv
def UF(g:aA):Full g.rules (ng g.rules g.aB.length g.aB):=by grind [Oj,M8]
theorem UG{g:aA}{L:List ae}(h1:∀x∈L,x∈g.aB)(h2:Full g.rules L)(h3:∀F,Full g.rules F->(∀x∈F,x∈g.aB)->∀x∈F,x∈L):uy g= !L.isEmpty:=by
 unfold uy;cases hL:L with
 |nil=>
  cases hp:ng g.rules g.aB.length g.aB with
  |nil=>rfl
  |cons y ys=>
   have:=h3 _ (UF g) (KO _ _) y awN
   exact awN
 |cons x xs=>
  have:=KN h2 g.aB.length g.aB h1 x awN
  exact awN
end Go.V.Ty
