/- Lemmas on plain data and programs: part B49. -/
import Derived.Test.YtkknfajchefgaaaGreatDoorB48
import Derived.Lib.ItoaLen
set_option linter.all false
set_option maxHeartbeats 8000000
set_option maxRecDepth 100000
namespace Go.V.Rp
open Go.Proofs Go.RowKit Go.V.Lx Go.V.Gr Go.V.Ty Go.V.St
theorem Ji{l:List Item}{i:Item}(h:i∈l):(d_ par i).length<=(aQ l).length:=by
 induction l with
 |nil=>cases h
 |cons j l ih=>
  rw[Bp,aaY,aaY]
  exact awN
def FL(l:List Item):l.length<=(aQ l).length:=by induction l<;>grind [Bp]
theorem WY{r:Rec}(h:bQ r=0):r.s.grams.length<=32:=by
 have h2:=(vf h).1;unfold rh fI vh aX at h2
 exact awN
def KZ{s:ae}(h:(bO s).2.2=0)(hl:s.length<=536870912):C5 (bO s).1:=by
 obtain⟨h1,h2,h3,h4,gl,h5⟩:=Lg mI (j_:=bQ) (src:=s) (r:=(bO s).1) (n:=(bO s).2.1) (by rw[<-h]);have hs:St.iU (bO s).1.s:=by
  have hr:=K0 par bQ s;have hq:bO s=lI par bQ s:=rfl;rw[<-hq]at hr;have BH:=AK _ s (aaN _);cases hy:kZ par (i_ s) 0 Rd.zero with
  |error n=>grind
  |ok y=>
   have bm:=Fv hy oM (fun x hx=>by have:=IV hx;omega)
   exact awN
 generalize(bO s).1=r at *;have hn:=FL (items r);rw[<-show s=aQ (items r)from h2]at hn;have hm:∀i,i∈items r->fC par i/\(d_ par i).length<=536870912:=fun i hi=>by
  have:=Ji hi
  exact awN
 have hz:(aQ [.fU r.s.sources r.s.langs r.s.chunk r.s.quiet r.s.late r.s.gap r.s.most]).length+(aQ (sW r)).length<=s.length:=by
  rw[show s=aQ (items r)from h2,pw,lq,lq]
  exact awN
 have hlen:=hn;unfold items at hm hlen;simp only[aaQ,abr,aa1,afm,aku]at hm;simp only[aa5,aaY,aa0]at hlen;have hv:=wS r.s.aC;have hh:=wR r.s.heard;refine⟨hs,fun x hx=>?_,fun g hg=>?_,⟨?_,?_,?_,?_⟩,fun v cq=>?_,fun x hx=>?_,fun _ _=>⟨oM,?_⟩⟩
 ·have:=zX (aa1.2 ⟨x,hx,rfl⟩:x.words.length∈r.s.heard.map fun h=>h.words.length);refine⟨awN,fun w hw=>?_⟩;obtain⟨g1,g2⟩:=hm (.word w) (.inr (.inr (.inr (.inr (.inr (.inr (.inr (.inr (.inl ⟨x,hx,by simp[hI,hw]⟩)))))))));obtain⟨l1,l2⟩:=DV g2;have e:(Item.word w).f par=[it w.f,it w.u,it w.s]++(w.t::w.alts):=rfl
  exact awN
 ·obtain⟨g1,_⟩:=hm (.ej g) (.inr (.inl ⟨g,hg,rfl⟩));have mF:ma (rq g)=some g:=g1.2;obtain⟨k1,k2,k3,k4⟩:=wY mF;have hp:=Fm (rq g);rw[k4,ni k3,Af,Jn (yb k1).1.2];exact hp
 ·exact awN
 ·exact awN
 ·exact awN
 ·exact awN
 ·have:=zX (aa1.2 ⟨v,cq,rfl⟩:eU v∈r.s.aC.map eU);have e:v.cz.length<=eU v/\v.br.bl.length<=eU v:=avD
  refine⟨awN,awN,fun x hx=>?_⟩;obtain⟨g1,g2⟩:=hm (.sign x) (.inr (.inr (.inr (.inr (.inr (.inr (.inl ⟨v,cq,by simp[vI,hx]⟩)))))));obtain⟨l1,l2⟩:=DV g2;have e:(Item.sign x).f par=(((par.tr x.t).length:Int)::(par.tr x.t++x.c)).map it++[]:=rfl
  exact awN
 ·obtain⟨g1,g2⟩:=hm (.fix x) (.inr (.inr (.inr (.inr (.inr (.inr (.inr (.inr (.inr ⟨x,hx,rfl⟩)))))))));obtain⟨l1,l2⟩:=DV g2;have e:(Item.fix x).f par=[it x.no,it x.at_,it x.known,it x.sp,it x.first,it x.last]++(x.reason::x.words):=rfl
  exact awN
 grind [WY]
end Go.V.Rp
namespace Go.V.Rp
open Go.Proofs Go.Proofs.Tryz Go.RowKit Go.V.Lx Go.V.Gr Go.V.Ty Go.V.St
def O_:Nat->D->D->Bool
 |0,_,_=>false
 |_+1,.ak,.sl _ []=>true
 |_+1,.ak,.ak=>true
 |_+1,.int k a,.int k' b=>decide (k=k')&&decide (a=b)
 |_+1,.str a,.str b=>decide (a=b)
 |_+1,.bool a,.bool b=>decide (a=b)
 |n+1,.agg a,.agg b=>decide (a.length=b.length)&&(a.zip b).all fun p=>O_ n p.1 p.2
 |n+1,.sl s a,.sl t b=>decide (s=t)&&decide (a.length=b.length)&&(a.zip b).all fun p=>decide (p.1.cells.length=p.2.cells.length)&&(p.1.cells.zip p.2.cells).all fun q=>O_ n q.1 q.2
 |_,_,_=>false
def xF{α β:Type}{p:α×β->Bool}{a:List α}{b:List β}(h:(a.zip b).all p=true){i:Nat}{x:α}{y:β}(hx:a[i]? =some x)(hy:b[i]? =some y):p (x,y)=true:=
 aaI.1 h _ (aat (agP.2 ⟨hx,hy⟩))
theorem T2:∀(n:Nat) (d d':D),O_ n d d'=true->bA d d'
 |0,_,_,h=>by simp[O_]at h
 |n+1,d,d',h=>by
  unfold O_ at h;split at h
  ·exact awI
  ·exact .nil _
  ·exact .refl _
  ·simp only[aas,aaH]at h;obtain⟨rfl,rfl⟩:=h;exact .refl _
  ·simp only[aaH]at h;subst h;exact .refl _
  ·simp only[aaH]at h;subst h;exact .refl _
  ·rename_i e;cases e;simp only[aas,aaH]at h;exact .agg h.1 fun i x x' hx jc=>T2 n x x' (xF h.2 hx jc)
  ·rename_i e;cases e;simp only[aas,aaH]at h;obtain⟨⟨rfl,h2⟩,h3⟩:=h;refine .sl h2 (fun i x x' hx jc=>?_) fun i x x' j c c' hx jc hc uS=>?_
   ·have:=xF h3 hx jc
    exact awN
   ·have:=xF h3 hx jc;simp only[aas]at this;exact T2 n c c' (xF this.2 hc uS)
  ·exact awI
def qB(P:Program)(rv:List ResultVar)(d:D):DX->Env->ab->Bool
 | .normal,σ,bx| .ret,σ,bx=>match jz P σ bx rv with
   |some rs=>match aU bx (mL rs)with
    |some r=>O_ 12 r d
    |none=>false
   |none=>false
 |_,_,_=>false
theorem agm{P:Program}{rv:List ResultVar}{d:D}:∀e σ bx,qB P rv d e σ bx=true->Fx P rv d e σ bx:=by
 have key:∀σ bx,(match jz P σ bx rv with
  |some rs=>match aU bx (mL rs)with
   |some r=>O_ 12 r d
   |none=>false
  |none=>false)=true->aJ (jz P σ bx rv) fun rs=>aJ (aU bx (mL rs)) fun r=>bA r d:=by
  grind [aJ,T2]
 intro e σ bx h;cases e<;>first|exact key _ _ h|cases h
def amI{P:Program}{C:Calc}{c:Code}{rv:List ResultVar}{d:D}{σ:Env}{bx:ab}(h:(true=true)=cD P C c (fun e σ bx=>qB P rv d e σ bx=true) σ bx):cD P C c (Fx P rv d) σ bx:=my agm (h.mp rfl)
instance:Ct 15 [] True gD.d:=by
 generalize hS:gD.d=S;refine dp f15 [] [.cell 0 36] fun pre=>?_;rw[<-hS];refine amI ?_
 exact ar
def Wz:C6 Rec.zero:=by
 constructor<;>simp[Rec.zero,Lm];constructor<;>simp[Lm]
def Tl:C6 gD:=by
 refine⟨⟨⟨awL,fun g hg=>?_⟩,awL,awL,⟨awL,fun v hv=>?_⟩,awL,awL,fun h hh=>?_⟩,⟨awL,fun x hx=>?_⟩,awL,awL,fun x hx=>?_⟩
 ·obtain rfl:=aey.1 hg;constructor<;>simp[aA.zero]
 ·obtain rfl:=aey.1 hv;constructor<;>decide
 ·obtain rfl:=aey.1 hh
  exact awN
 ·rcases aaQ.1 hx with rfl|hx<;>grind
 ·obtain rfl:=aey.1 hx
  exact awL
theorem Ln:Ct 10 [Rec.zero.d,zR] True (.bool true):=⟨fun _=>av.ajB ((inferInstance:Ct 10 [Rec.zero.d,Rec.zero.d] (C6 Rec.zero) (.bool true)).h Wz) (.refl _) Pd⟩
theorem wC(s:ae)(l e:Int)(h1:s.length<=536870912)(h2:bO s=(Rec.zero,l,e)):Ct 13 [.str s,I l,I e] True (.bool true):=by
 refine dp f13 [] [.tmp 6] fun pre=>?_;have key:Ct 9 [.str s] True (.aL [Rec.zero.d,I l,I e]):=⟨fun _=>by
  have:=(inferInstance:Ct 9 [.str s] (s.length<=536870912) (.aL [(bO s).1.d,I (bO s).2.1,I (bO s).2.2])).h h1
  grind⟩
 haveI:=key;haveI:=Ln;clear h2 key;generalize Rec.zero=z at *;exact zE
def Wy:C5 gD:=by
 have:=KZ (s:=rN) (by rw[A9]) awL
 grind [A9]
def ZD:C5 Rec.zero:=by
 have hz:Rec.zero.s.grams=[]:=rfl;refine⟨Fv (ls:=[]) (y:=Rd.zero) rfl awL sI,by simp[Rec.zero],awN,awL,by simp[Rec.zero],by simp[Rec.zero],fun _ _=>⟨?_,awL⟩⟩
 exact avT
attribute [local go_sem] List.append_eq List.cons_append List.nil_append in
instance asi:Ct 6 [] True (.bool true):=by
 refine dp f6 [(6,[(4,3)])] [.tmp 0] fun pre=>?_;haveI i0:Ct 13 [.str [],I 1,I 590] True (.bool true):=wC _ _ _ awL Ht;haveI i1:Ct 13 [.str [104,111,117,115,101,32,49,10],I 1,I 590] True (.bool true):=wC _ _ _ awL TC;haveI i2:Ct 13 [.str [115,101,116,117,112,32,49,32,49,32,49,48,48,32,53,48,32,49,48,32,51,48,32,56,10],I 0,I 540] True (.bool true):=wC _ _ _ awL TE;haveI i3:Ct 13 [.str [115,101,116,117,112,32,49,32,49,32,49,48,48,32,53,48,32,49,48,32,51,48,32,48,56,10],I 1,I 590] True (.bool true):=wC _ _ _ awL acO;haveI i4:Ct 13 [.str [115,101,116,117,112,32,49,32,49,32,49,48,48,32,53,48,32,49,48,32,51,48,32,56],I 1,I 590] True (.bool true):=wC _ _ _ awL WV;haveI i5:Ct 8 [gD.d] True (.aL [.str [115,101,116,117,112,32,49,32,49,32,49,48,48,32,53,48,32,49,48,32,51,48,32,56,10,116,101,114,109,32,52,32,49,32,50,32,48,32,50,32,112,111,105,110,116,32,111,102,32,110,111,117,110,32,112,10,116,101,114,109,32,53,32,48,32,48,32,48,32,49,32,120,10,104,111,117,115,101,32,50,32,51,32,48,32,48,32,57,32,49,32,48,32,56,32,55,32,54,10,98,117,100,103,101,116,32,48,32,49,32,50,32,51,32,52,10,118,105,101,119,101,114,32,51,32,48,32,50,32,49,48,48,32,48,32,48,32,49,32,53,32,49,48,32,49,49,10,103,108,121,112,104,32,57,55,32,49,50,50,32,57,10,107,101,114,110,32,57,55,32,57,56,32,52,48,57,53,10,98,108,111,99,107,101,100,32,49,32,50,32,51,32,52,10,118,105,115,105,116,32,53,32,51,32,49,32,48,10,104,101,97,114,100,32,53,48,32,48,32,48,32,52,53,32,49,32,48,32,48,10,119,111,114,100,32,49,48,32,50,48,32,50,32,103,111,111,100,32,103,111,100,10,102,105,120,32,49,32,55,48,32,56,48,32,50,32,49,48,32,49,49,32,109,105,115,104,101,97,114,100,32,98,97,100,10],I 0]):=⟨fun _=>by
  have:=(I5 gD Wy).h trivial;rwa[yH]at this⟩
 haveI i6:Ct 9 [.str [115,101,116,117,112,32,49,32,49,32,49,48,48,32,53,48,32,49,48,32,51,48,32,56,10,116,101,114,109,32,52,32,49,32,50,32,48,32,50,32,112,111,105,110,116,32,111,102,32,110,111,117,110,32,112,10,116,101,114,109,32,53,32,48,32,48,32,48,32,49,32,120,10,104,111,117,115,101,32,50,32,51,32,48,32,48,32,57,32,49,32,48,32,56,32,55,32,54,10,98,117,100,103,101,116,32,48,32,49,32,50,32,51,32,52,10,118,105,101,119,101,114,32,51,32,48,32,50,32,49,48,48,32,48,32,48,32,49,32,53,32,49,48,32,49,49,10,103,108,121,112,104,32,57,55,32,49,50,50,32,57,10,107,101,114,110,32,57,55,32,57,56,32,52,48,57,53,10,98,108,111,99,107,101,100,32,49,32,50,32,51,32,52,10,118,105,115,105,116,32,53,32,51,32,49,32,48,10,104,101,97,114,100,32,53,48,32,48,32,48,32,52,53,32,49,32,48,32,48,10,119,111,114,100,32,49,48,32,50,48,32,50,32,103,111,111,100,32,103,111,100,10,102,105,120,32,49,32,55,48,32,56,48,32,50,32,49,48,32,49,49,32,109,105,115,104,101,97,114,100,32,98,97,100,10]] True (.aL [gD.d,I 0,I 0]):=⟨fun _=>by
  have:=(inferInstance:Ct 9 [.str rN] (rN.length<=536870912) (.aL [(bO rN).1.d,I (bO rN).2.1,I (bO rN).2.2])).h awL;rwa[A9]at this⟩
 haveI i7:Ct 8 [zR] True (.aL [.str [],I 540]):=⟨fun _=>by
  have:=(I5 Rec.zero ZD).h trivial
  grind [Tx,av.aby,Pd]⟩
 haveI i8:Ct 10 [gD.d,gD.d] True (.bool true):=⟨fun _=>(inferInstance:Ct 10 [gD.d,gD.d] (C6 gD) (.bool true)).h Tl⟩
 haveI i9:Ct 15 [] True gD.d:=inferInstance;generalize gD=w at *;dsimp only at i5 i6;exact zE
end Go.V.Rp
namespace Go.V.Rp
open Go.Proofs Go.Proofs.Tryz Go.RowKit Go.V.Lx Go.V.Gr Go.V.Ty Go.V.St
structure LJ(r:Rec):Prop where
 p:C5 r
 s:C6 r
 l:(cw r).1.length<=134217728
def pj(r:Rec):Bool:=Au r.s&&DK r.cn
theorem Io(r:Rec)(hF:C4 r.s):Ct 7 [r.d] True (.bool (pj r)):=⟨fun _=>(inferInstance:Ct 7 [r.d] (C4 r.s) (.bool (Au r.s&&DK r.cn))).h hF⟩
theorem Hn(r:Rec)(ok:C5 r):Ct 8 [r.d] True (.aL [.str (cw r).1,I (cw r).2]):=I5 r ok
theorem UC(r:Rec)(ok:C5 r):Ct 11 [r.d] True (I (bQ r)):=⟨fun _=>(inferInstance:Ct 11 [r.d] (St.iU r.s) (I (bQ r))).h ok.s⟩
theorem TB(s:ae)(hl:s.length<=536870912):Ct 9 [.str s] True (.aL [(bO s).1.d,I (bO s).2.1,I (bO s).2.2]):=⟨fun _=>(inferInstance:Ct 9 [.str s] (s.length<=536870912) (.aL [(bO s).1.d,I (bO s).2.1,I (bO s).2.2])).h hl⟩
theorem ai7(r:Rec)(ok:C6 r):Ct 10 [r.d,r.d] True (.bool true):=⟨fun _=>(inferInstance:Ct 10 [r.d,r.d] (C6 r) (.bool true)).h ok⟩
theorem adR(r:Rec)(src:ae)(hF:C4 r.s)(ok:pj r=true->LJ r):Ct 3 [r.d,.str src] True (.bool true):=by
 refine dp f3 [] [.tmp 4] fun pre=>?_;haveI:=Io r hF;by_cases hf:pj r=true
 case neg=>
  exact arZ
 obtain⟨C1,Oa,Ob⟩:=ok hf;rw[hf]at this;haveI hp:=Hn r C1;haveI hc:=UC r C1;haveI hs:=ai7 r Oa;by_cases hl:6000<(src.length:Int)
 ·clear hf ok C1 Oa Ob;exact zE
 haveI hr:=TB src oM;haveI hz:=Ln;have zw:(bO src).2.2=0->C5 (bO src).1:=fun h=>KZ h oM;have Ny:=@TD src;have QV:=@acP src;generalize bO src=R at *;obtain⟨x,l,f⟩:=R;have key:∀y:Rec,f=0->x=y->Ct 8 [y.d] True (.aL [.str src,I 0])/\Ct 11 [y.d] True (I 0)/\l=0:=fun y h e=>by grind [Hn,UC]
 have CB:=@kH r;have rB:=@On r;have hq3:=@Ho r;generalize cw r=A at *;obtain⟨a,e⟩:=A;replace Ob:a.length<=134217728:=Ob;by_cases h:e=0
 ·subst h;obtain⟨g1,-,-,g2⟩:=CB rfl;have h3:=TB a oM;rw[hq3 rfl]at h3;rw[g1]at hc;clear CB rB hq3 g1 g2 Ob;by_cases h2:f=0
  ·subst h2;obtain⟨k1,k2,k3⟩:=key x rfl rfl;subst k3;clear Ny QV zw key;exact zE
  ·obtain⟨k1,k2,k3⟩:=QV h2;subst k1;clear Ny QV zw key;exact zE
 ·obtain⟨g1,g2⟩:=rB h;replace g1:a=[]:=g1;subst g1;replace g2:e=590\/bQ r=e:=g2.imp id Eq.symm;clear CB rB hq3 Ob;generalize bQ r=c at *;by_cases h2:f=0
  ·subst h2;obtain⟨k1,k2,k3⟩:=key x rfl rfl;subst k3;clear Ny QV zw key;rcases g2 with rfl|rfl<;>repeat' first|exact zQ|with_reducible apply zJ<;>intro _|refine zK ?_
  ·obtain⟨k1,k2,k3⟩:=QV h2;subst k1;clear Ny QV zw key;rcases g2 with rfl|rfl<;>repeat' first|exact zQ|with_reducible apply zJ<;>intro _|refine zK ?_
theorem QE(s:ae):zb 10 [10] s=R4 s:=by
 unfold zb R4;induction s with
 |nil=>rfl
 |cons x s ih=>
  rw[zU,du];have:=Xj 10 s;by_cases h:x=10
  ·rw[aaO h,aaO h];cases hs:zU 10 s<;>grind [Dm]
  ·rw[aaw h,aaw h];cases hs:zU 10 s with
   |nil=>grind
   |cons y l=>
    rw[hs]at ih;cases hc:du s with
    |mk a b=>
     rw[hc]at ih;cases a with
     |nil=>cases l<;>simp_all[Dm]
     |cons a m=>cases l<;>simp_all[Dm]
def ZT{r:Rec}(h:bQ r=0):2<=(items r).length:=by
 have h2:=(vf h).1;unfold rh fI vh aX at h2;simp only[aas,aaH]at h2
 grind [items,List.length_map]
def acz(l:ae):∀o∈yD l,o.length<=l.length+40:=by simp[yD]
def XD{r:Rec}(h:(cw r).2=0){k:Nat}(hk:k<(items r).length){i:Item}(hi:(items r)[k]? =some i){o:ae}(ho:o∈yD (d_ par i)):bO ((fe r++[[]]).set k (o++[10])).flatten=(Rec.zero,(k:Int)+1,590)/\((fe r++[[]]).set k (o++[10])).flatten.length<=2 * (cw r).1.length+41:=by
 have h1:=Ji (aat hi);have h2:=acz _ o ho;obtain⟨-,-,-,h4⟩:=kH h;have hl:k<(fe r).length:=by simpa[fe]using hk
 have e:((fe r++[[]]).set k (o++[10])).flatten=eu par ((items r).take k)++(o++10::((fe r).drop (k+1)).flatten):=by
  rw[List.set_append_left _ _ hl,List.set_eq_take_append_cons_drop,aaO hl]
  grind [List.singleton_append,HQ,fe,List.map_take]
 rw[e,XE h hk hi ho];refine⟨rfl,?_⟩;have e2:(cw r).1=aQ ((items r).take k)++(aQ ((items r).drop k)):=by rw[h4,<-lq,aeZ]
 have e3:(aQ ((items r).drop k)).length=(d_ par i).length+1+((fe r).drop (k+1)).flatten.length:=by
  rw[ak3 hk,Bp,fe,<-List.map_drop];have:(items r)[k]=i:=awN
  rw[this];simp only[aaY,aa5,aeW];rfl
 exact awN
theorem aiD:∀xs:List ae,Lib.join xs []=xs.flatten
 |[]=>rfl
 |x::l=>by rw[Lib.join_cons,Lib.joinTail];simp
theorem abb(xs:List ae)(h1:xs.length<=140737488355328)(h2:xs.flatten.length<=140737488355328):Ct 14 [.sl 1 (xs.map D.str),.str []] True (.str xs.flatten):=⟨fun _=>by grind [join_c,aiD]⟩
theorem Ed(r:Rec)(a t:Nat)(ha:a<65536)(ht:t<256)(hF:C4 r.s)(ok:pj r=true->LJ r):Ct 4 [r.d,.int .u16 a,.int .u8 t] True (.bool true):=by
 refine dp f4 [] [.tmp 6] fun pre=>?_;haveI:=Io r hF;by_cases hf:pj r=true
 case neg=>
  exact arZ
 obtain⟨C1,Oa,Ob⟩:=ok hf;rw[hf]at this;haveI hp:=Hn r C1;clear ok C1 Oa hf hF;by_cases he:(cw r).2=0
 case neg=>repeat' first|exact zQ|with_reducible apply zJ<;>intro _|refine zK ?_
 have hw:=fun k hk i hi o ho=>@XD r he k hk i hi o ho;have hr:2<=(items r).length:=ZT (kH he).1;have QK:=L5 he;rw[<-QE]at QK;rw[he]at hp;have hnA:(items r).length<=(cw r).1.length:=by simp_all[kH,FL]
 have vS:(fe r).length=(items r).length:=by simp[fe]
 have VR:∀(k:Nat) (i:Item),(items r)[k]? =some i->(fe r)[k]? =some (d_ par i++[10]):=fun k i h=>by simp[fe,h]
 have BH:∀i∈items r,(d_ par i).length<=(cw r).1.length:=fun i hi=>by simp_all[kH,Ji]
 generalize(cw r).1=A at *;generalize fe r=L at *;generalize items r=l at *;generalize hn:l.length=n at *;have hk:a % n<n:=ak4 _ oM;obtain⟨i,Ke⟩:∃i,l[a % n]? =some i:=⟨_,aaS oM⟩
 have Nu:=VR _ _ Ke;have hw:=fun o ho=>hw _ hk _ Ke o ho;have BH:=BH i (aat Ke);generalize d_ par i=ln at *;generalize hkk:a % n=k at *;have jG:((L++[[]]).map D.str)[k]? =some (.str (ln++[10])):=awN
 have hen:((L++[[]]).map D.str)[n]? =some (.str []):=awN
 have hRl:(L++[[]]).length=n+1:=by simp[vS]
 have bI:∀o:ae,((L++[[]]).map D.str).set k (.str o)=((L++[[]]).set k o).map D.str:=fun o=>by rw[List.map_set]
 generalize L++[[]]=R at *;clear Ke Nu VR vS;have w1:IntKind.i64.wrap (((n+1:Nat):Int) - 1)=(n:Int):=awm
 have c1:¬((n+1:Nat):Int)<3:=oM;have c2:(n:Int)≠0:=oM;have m1:Int.tmod (a:Int) (n:Int)=(k:Int):=awN
 have m2:Int.tmod (t:Int) ((32:Nat):Int)=((t % 32:Nat):Int):=rfl;replace hw:Hid _:=hw;replace bI:Hid _:=bI;refine zW ?_;intros;refine ao (OS _ A oM) rfl ?_;rintro d bx' ⟨e,rfl,h2,h3⟩;rw[QK]at h2;rw[QK,hRl];have hq:t % 32<32:=ak4 _ awL;generalize t % 32=q at *;have x1:([32]:ae).length=1:=rfl;have x2:(ln++[10]).length=ln.length+1:=sI
 obtain⟨o,ho⟩:∃o,(yD ln)[q]? =some o:=⟨_,aaS (show q<(yD ln).length from hq)⟩
 obtain⟨w2,w3⟩:=hw.out o (aat ho);have GQ:((yD ln).map fun o=>D.str (o++[10]))[q]? =some (.str (o++[10])):=awN
 have ho3:=bI.out (o++[10]);have rF:(R.set k (o++[10])).length=n+1:=awN
 generalize R.set k (o++[10])=xs at *;haveI Er:=wC xs.flatten ((k:Int)+1) 590 oM w2;have hj:=abb xs oM oM;have w4:IntKind.i64.wrap ((k:Int)+1)=(k:Int)+1:=awm
 clear hw bI ho w2;simp only[yD,abk,aex,aeF,adC]at GQ;generalize hE:R.map D.str=es at *;refine zW ?_;intros;refine lx (hj.h trivial) (by
  rw[dh,jQ];simp only[ah,aaO];rw[ja _ _ _ _ _ _ awL (by rw[aa0,rF]) avK];rfl) rfl ?_
 clear GQ;exact zE
def FI{α:Type}(f:α->Nat)(l:List α){j:Nat}{x:α}(hx:l[j]? =some x):((l.take (j+1)).map f).sum=((l.take j).map f).sum+f x/\((l.take j).map f).sum+f x<=(l.map f).sum:=by
 have e:((l.take (j+1)).map f).sum=((l.take j).map f).sum+f x:=by rw[ae2,hx];simp
 refine⟨e,?_⟩;rw[<-e]
 conv=>rhs;rw[<-aeZ (j+1) l,aeI,List.sum_append]
 exact oM
theorem acv(r:Rec)(a:Nat)(ha:a<65536)(hF:C4 r.s)(ok:pj r=true->LJ r):Ct 5 [r.d,.int .u16 a] True (.bool true):=by
 refine dp f5 [] [.tmp 4] fun pre=>?_;haveI:=Io r hF;by_cases hf:pj r=true
 case neg=>
  exact arZ
 obtain⟨C1,Oa,Ob⟩:=ok hf;rw[hf]at this;haveI hp:=Hn r C1;by_cases he:(cw r).2=0
 case neg=>
  clear ok C1 Oa hf hF;exact zE
 have hS:=C1.s;obtain⟨h1,⟨gl,h2⟩,h3,h4⟩:=kH he;have hm:=V9 h2;have hA:Hid ((cw r).1=aQ (items r)):=show _=_ by rw[h4]
 have hmA:=FL (items r);rw[<-show(cw r).1=aQ (items r) by rw[h4],hm]at hmA;have QK:=L5 he;rw[<-QE]at QK;have au:=fun n hn=>@S6 r n hn;have Ew:=fun n hn=>@aac r he n hn;have hen:((fe r++[[]]).map D.str)[many r]? =some (.str []):=by
  have vS:(fe r).length=many r:=by rw[<-hm];simp[fe]
  rw[aaZ,abn oM,vS];exact sI
 have hRl:(fe r++[[]]).length=many r+1:=by rw[<-hm];simp[fe]
 rw[hm]at au;rw[he]at hp;generalize hI:items r=l at *;generalize fe r++[[]]=R at *;generalize(cw r).1=A at *;replace au:Hid _:=au;replace Ew:Hid _:=Ew;generalize hM:many r=n at *;have qp:=hM;unfold many at qp;replace hM:Hid _:=hM;replace h2:Hid _:=h2;have q1:Lm r.s.aC:=hS.lv;have q2:Lm r.s.heard:=hS.lh;clear ok C1 Oa hf hF hS h3 h4 hm;refine zW ?_;intros;refine fresh (fun σ B=>σ 1= .int .u16 a/\σ 5= .str A/\σ 7= .loc 7 1 0 0/\σ 8=I ((n - (r.s.aC.map eU).sum - (r.s.heard.map fun h=>h.words.length).sum:Nat):Int)/\σ 68= .sl 14 (r.s.aC.map aV.d)/\σ 69=I r.s.aC.length/\σ 70=I 0/\B 7=⟨1,1,15,33,[r.s.d]⟩) ⟨sG,sG,sG,by simp[go_sem];omega,sG,sG,sG,awx⟩ ?_;rintro σ B ⟨q1',q5,q7,q8,q68,q69,q70,b7⟩;have hsum:(r.s.aC.map eU).sum+(r.s.heard.map fun h=>h.words.length).sum<=n:=oM;clear qp;generalize vS:n - (r.s.aC.map eU).sum - (r.s.heard.map fun h=>h.words.length).sum=n0 at *;refine bT r.s.aC [(8,8),(10,10),(70,94)] [(10,10)] (fun j τ _=>τ 70=I j/\τ 8=I ((n0+((r.s.aC.take j).map eU).sum:Nat):Int)) q1 ⟨q70,by simpa using q8⟩ (fun j x τ β hx hj hw hi=>?_) fun τ β xd hi=>?_
 ·obtain⟨QQ,oH⟩:=hi;obtain⟨e1,e2⟩:=FI eU r.s.aC hx;generalize((r.s.aC.take j).map eU).sum=m at *;have e3:eU x=x.bq.gs.length+x.bq.ks.length+x.cz.length+x.br.bl.length:=rfl;refine zW ?_;intros;exact aaR (D.int .i64) oM
 obtain⟨hi7,hi8⟩:=hi;rw[show(r.s.aC.take r.s.aC.length)=r.s.aC from aaP]at hi8;generalize VN:n0+(r.s.aC.map eU).sum=n1 at *;refine zW ?_;intros;refine fresh (fun σ B=>σ 1= .int .u16 a/\σ 5= .str A/\σ 8=I n1/\σ 96= .sl 8 (r.s.heard.map bL.d)/\σ 97=I r.s.heard.length/\σ 98=I 0) ⟨avA,avA,avA,sG,sG,sG⟩ ?_;rintro σ B ⟨q1',q5,q8,vU,q97,q98⟩;refine bT r.s.heard [(8,8),(12,12),(98,109)] [(12,12)] (fun j τ _=>τ 98=I j/\τ 8=I ((n1+((r.s.heard.take j).map fun h=>h.words.length).sum:Nat):Int)) q2 ⟨q98,by simpa using q8⟩ (fun j x τ β hx hj hw hi=>?_) fun τ β xd hi=>?_
 ·obtain⟨QQ,oH⟩:=hi;obtain⟨e1,e2⟩:=FI (fun h:bL=>h.words.length) r.s.heard hx;generalize((r.s.heard.take j).map fun h=>h.words.length).sum=m at *;refine zW ?_;intros;exact aaR (D.int .i64) oM
 obtain⟨hi7,hi8⟩:=hi;rw[show(r.s.heard.take r.s.heard.length)=r.s.heard from aaP,show n1+(r.s.heard.map fun h=>h.words.length).sum=n by omega]at hi8;haveI V0:=aaJ (OS _ A oM);rw[QK]at V0;have hk:a % (n+1)<=n:=by have:=ak4 a (show 0<n+1 by omega);omega
 have m1:Int.tmod (a:Int) ((n:Int)+1)=((a % (n+1):Nat):Int):=rfl;have c1:((n+1:Nat):Int)=(n:Int)+1:=oM;generalize a % (n+1)=k at *;have qw:=au.out k hk;have uU:=Ew.out k;rw[<-qw]at uU;have Er:(R.take k).flatten.length<=A.length:=by
  rw[qw,hA.out,<-aeZ k l,lq,aaY,aeZ];exact af9 _ _
 haveI hj:Ct 14 [.sl 1 ((R.map D.str).take k),.str []] True (.str (R.take k).flatten):=by
  rw[<-List.map_take];exact abb _ awe oM
 haveI pQ:=TB (R.take k).flatten oM;clear qw;rcases Nat.eq_zero_or_pos k with rfl|mQ
 ·rw[show(R.take 0).flatten=[]from rfl,show(R.map D.str).take 0=[]from rfl]at hj;rw[show(R.take 0).flatten=[]from rfl,Ht]at pQ;dsimp only at pQ;clear uU Er;exact zE
 ·obtain⟨y1,y2⟩:=uU mQ;generalize(R.take k).flatten=X at *;generalize bO X=Y at *;obtain⟨x,y,z⟩:=Y;replace y1:y=0:=y1;subst y1;replace y2:¬z=590:=y2;have k1:¬(k:Int)=0:=oM;exact zE
end Go.V.Rp
namespace Go.V.Rp
open Go.Proofs Go.RowKit Go.V.Lx Go.V.Gr Go.V.Ty Go.V.St
theorem Q8:∀l:List ae,(∀x∈l,x.length<=64)->(lF l).length<=65 * l.length
 |[],_=>aes _
 |[x],h=>by grind [px]
 |x::y::l,h=>by
  have h1:=h x sI;have h2:=Q8 (y::l) fun z hz=>h z (aa2 _ hz)
  grind [lW]
def Zn{i:Item}(h:fC par i)(h2:aef i)(hg:∀g,i≠ .ej g)(hw:∀w,i= .word w->w.alts.length<=10):(d_ par i).length+1<=5330:=by
 have h0:i.w.length<=64:=by cases i<;>exact Nat.le_of_ble_eq_true rfl
 have h3:(i.f par).length<=80/\∀x∈i.ts par,x.length<=64:=by
  have hb:∀s,dG s=true->s.length<=64:=fun s hs=>by unfold dG at hs;grind
  cases i with
  |ej g=>grind
  |term x=>
   have h2:x.src.length+x.vn.length<=8:=h2;refine⟨?_,fun s hs=>hb s (h.2.1 s hs)⟩
   grind [Item.f,Item.ns,Item.ts,List.length_nil]
  |sign x=>
   have h2:(tc x.t).length+x.c.length<=8:=h2;refine⟨?_,by simp[Item.ts]⟩;simp only[Item.f,Item.ns,Item.ts,aaY,aa0,aa5,aeW];have:par.tr x.t=tc x.t:=rfl
   exact awN
  |word x=>
   have:=hw x rfl;refine⟨?_,fun s hs=>hb s (h.2 s hs)⟩
   grind [Item.f,Item.ns,Item.ts,List.length_cons]
  |fix x=>
   have h2:x.words.length<=64:=h2;refine⟨?_,fun s hs=>hb s (h.2 s hs)⟩
   grind [Item.f,Item.ns,Item.ts,List.length_cons]
  |_=>exact⟨by simp[Item.f,Item.ns,Item.ts],by simp[Item.ts]⟩
 have h4:=Q8 (i.w::i.f par) fun x hx=>by
  rcases aaQ.1 hx with rfl|hx
  ·exact h0
  ·rcases abr.1 hx with hx|hx
   ·obtain⟨n,hn,rfl⟩:=aa1.1 hx;have hn:=h.1 n hn
    grind [iT,Lib.itoa_length_le]
   exact awN
 rw[aa5]at h4;have:d_ par i=lF (i.w::i.f par):=rfl
 exact awN
theorem RL:∀l:List Item,(∀i∈l,(d_ par i).length+1<=5330)->(aQ l).length<=5330 * l.length
 |[],_=>aes _
 |i::l,h=>by
  have h1:=h i sI;have h2:=RL l fun z hz=>h z (aa2 _ hz)
  grind [Bp]
theorem Jg{α:Type}(f:α->Nat)(n:Nat):∀l:List α,(∀x∈l,f x<=n)->(l.map f).sum<=n * l.length
 |[],_=>aes _
 |x::l,h=>by
  have h1:=h x sI;have h2:=Jg f n l fun z hz=>h z (aa2 _ hz)
  grind [Nat.mul_add]
theorem EZ{r:Rec}(h:bQ r=0)(hf:pj r=true):(sW r).length<=800/\r.s.grams.length<=3/\∀x∈r.s.heard,∀w∈x.words,w.alts.length<=10:=by
 obtain⟨h1,h2,h3,h4,h5⟩:=vf h;unfold pj Au Sx Gi DK at hf;simp only[aas,ae_,akm,akB,Bool.not_eq_false',akD,aaH,afa,aaI]at hf;obtain⟨⟨⟨⟨f1,f2⟩,f3⟩,f4⟩,f5⟩:=hf;have hv:r.s.aC.length<=4:=oM;have hh:r.s.heard.length<=16:=oM;rw[aeu oM]at f4;have Q1:=Jg eU 150 r.s.aC fun v cq=>by
  have:=f1.1.1.2.2 v (by grind [List.take_of_length_le]);unfold Yy LB at this;simp only[aas,ae_,akm,afa]at this;exact avD
 have hw:∀x∈r.s.heard,x.words.length<=5/\∀w∈x.words,w.alts.length<=10:=fun x hx=>by
  have:=f4 x hx;unfold SA Gj at this;simp only[aas,ae_,akm,Bool.not_eq_false',afa,aaI]at this
  grind [List.take_of_length_le,Yz]
 have hhs:=Jg (fun h:bL=>h.words.length) 5 r.s.heard fun x hx=>(hw x hx).1
 grind [sW,wS,wR]
def Ql{r:Rec}(h:bQ r=0)(hf:pj r=true)(hw:∀x∈r.s.heard,yk x=true):(aQ [.fU r.s.sources r.s.langs r.s.chunk r.s.quiet r.s.late r.s.gap r.s.most]).length+(aQ (sW r)).length<=4269330:=by
 obtain⟨f1,f2,f3⟩:=EZ h hf;have hl:∀i,i∈items r->(∀g,i≠ .ej g)->(d_ par i).length+1<=5330:=fun i hi hg=>by
  obtain⟨o1,o2⟩:=CK h hw i hi fun g _ e=>absurd e (hg g);refine Zn o1 o2 hg fun w e=>?_;subst e;unfold items at hi;simp only[aaQ,abr,aa1,afm,aku,vI,hI]at hi
  exact awN
 have h1:=hl (.fU r.s.sources r.s.langs r.s.chunk r.s.quiet r.s.late r.s.gap r.s.most) (by rw[pw];simp) sI;have h2:=RL (sW r) fun i hi=>hl i (by grind [pw]) fun g e=>by simp_all[sW,vI,hI]
 grind [Jj]
def abV{r:Rec}(hf:pj r=true):(cw r).1.length<=134217728:=by
 by_cases he:(cw r).2=0
 ·obtain⟨h1,⟨gl,h2⟩,h3,h4⟩:=kH he;have hw:=Pa h3;have h5:=Ql h1 hf hw;obtain⟨_,f2,_⟩:=EZ h1 hf;have h6:=Co r.s.grams.tail fun g hg=>Gu (h3 _ (by simp_all[pw]));have e:(cw r).1=aQ (items r):=awM
  grind [pw,lq]
 simp_all[On]
def ac4{g:aA}(h:ov g)(n:Int):St (cN g n) where
 name:=h.name
 start:=h.start
 aB:=h.aB
 dw:=fun x hx=>by
  obtain⟨y,hy,rfl⟩:=aa1.1 hx;have:=h.dw y hy;exact⟨this.text,this.cat,this.aE⟩
 yL:=fun x hx=>by
  obtain⟨y,hy,rfl⟩:=aa1.1 hx;have:=h.rules y hy;refine⟨this.cat,fun p hp=>?_,this.aE⟩;obtain⟨q,hq,rfl⟩:=aa1.1 hp;have:=this.parts q hq;exact⟨this.cat,this.text⟩
def acM{g:aA}(h:ov g)(hf:Ty.sq g=true)(n:Int):Pr (cN g n):=by
 obtain⟨l1,l2,l3,l4,l5⟩:=aeg hf;have:=Nc (g:=cN g n) (c:=40) (e:=600) (r:=200) (n:=20) l1 (by simpa[cN]using l2) (by simpa[cN]using l3) (fun x hx=>by
  obtain⟨y,hy,rfl⟩:=aa1.1 hx
  grind [sg]) (fun x hx=>by
  obtain⟨y,hy,rfl⟩:=aa1.1 hx
  grind [gj])
 exact Pr.of oM (MX (ac4 h n))
abbrev eg:Sh:=.int .i64
def apd{n:Int}(h:(Lit.int .i64 n).wf=true):i64 n:=by
 simp[Lit.wf,IntKind.min,IntKind.max,IntKind.signed,IntKind.bits]at h;exact⟨oM,oM⟩
def ky{α:Type}{e:Sh}{sz:Nat}{f:α->D}{p:α->Prop}(key:∀ys,e.cp ys->∃x:α,e.pack ys=f x/\p x){ys:List D}(h:(Sh.slice sz e).cp ys):∃l:List α,ys=[.sl sz (l.map f)]/\Lm l/\∀x∈l,p x:=by
 simp only[Sh.cp]at h;obtain⟨es,rfl,hl,h⟩:=h;obtain⟨l,rfl,hp⟩:=tT (f:=f) (p:=p) (es:=es) fun x hx=>awN
 rw[aa0]at hl;exact⟨l,rfl,gf hl,hp⟩
def HH:Sh:=.agg [.str,eg,eg,eg,vj]
def agx:Sh:=.agg [eg,eg,eg,.slice 5 HH]
def Xa:Sh:=.agg [eg,eg,agx]
def D6:Sh:=.agg [eg,eg,Xa]
def YW(ys:List D)(h:HH.cp ys):∃x:Word,HH.pack ys=x.d/\Lm x.alts:=by
 simp only[HH,Sh.cp,Sh.jo]at h;obtain⟨_,_,rfl,⟨t,rfl,_⟩,_,_,rfl,⟨f,rfl,h1⟩,_,_,rfl,⟨u,rfl,h2⟩,_,_,rfl,⟨s,rfl,h3⟩,_,_,rfl,h4,rfl⟩:=h;obtain⟨l,rfl,hl,_⟩:=tO h4;exact⟨⟨t,f,u,s,l⟩,rfl,hl⟩
def Vu(ys:List D)(h:D6.cp ys):∃x:bL,D6.pack ys=x.d/\Oc x:=by
 simp only[D6,Xa,agx,Sh.cp,Sh.jo]at h;obtain⟨_,_,rfl,⟨a,rfl,h1⟩,_,_,rfl,⟨b,rfl,h2⟩,_,_,rfl,⟨_,_,rfl,⟨c,rfl,h3⟩,_,_,rfl,⟨d,rfl,h4⟩,_,_,rfl,⟨_,_,rfl,⟨e,rfl,h5⟩,_,_,rfl,⟨f,rfl,h6⟩,_,_,rfl,⟨g,rfl,h7⟩,_,_,rfl,h8,rfl⟩,rfl⟩,rfl⟩:=h;obtain⟨l,rfl,hl⟩:=ky (f:=Word.d) (p:=fun x=>Lm x.alts) YW (sz:=5) (by simp only[Sh.cp];exact h8);exact⟨⟨a,b,c,d,e,f,g,l⟩,rfl,hl⟩
def HG:Sh:=.agg [eg,eg,eg,eg,vj,vj,.str,.bool]
def YV(ys:List D)(h:HG.cp ys):∃x:Term,HG.pack ys=x.d/\St.EE x:=by
 simp only[HG,Sh.cp,Sh.jo]at h;obtain⟨_,_,rfl,⟨a,rfl,_⟩,_,_,rfl,⟨b,rfl,_⟩,_,_,rfl,⟨c,rfl,_⟩,_,_,rfl,⟨e,rfl,_⟩,_,_,rfl,h1,_,_,rfl,h2,_,_,rfl,⟨t,rfl,h3⟩,_,_,rfl,⟨g,rfl⟩,rfl⟩:=h;obtain⟨l,rfl,hl,_⟩:=tO h1;obtain⟨m,rfl,hm,_⟩:=tO h2;exact⟨⟨a,b,c,e,l,m,t,g⟩,rfl,gf h3,hl,hm⟩
def D7:Sh:=.agg [eg,eg,eg,eg,eg,eg,eg,eg,eg,eg]
def Vv(ys:List D)(h:D7.cp ys):∃x:cY,D7.pack ys=x.d/\True:=by
 simp only[D7,Sh.cp,Sh.jo]at h;obtain⟨_,_,rfl,⟨a,rfl,_⟩,_,_,rfl,⟨b,rfl,_⟩,_,_,rfl,⟨c,rfl,_⟩,_,_,rfl,⟨d,rfl,_⟩,_,_,rfl,⟨e,rfl,_⟩,_,_,rfl,⟨f,rfl,_⟩,_,_,rfl,⟨g,rfl,_⟩,_,_,rfl,⟨i,rfl,_⟩,_,_,rfl,⟨j,rfl,_⟩,_,_,rfl,⟨k,rfl,_⟩,rfl⟩:=h;exact⟨⟨a,b,c,d,e,f,g,i,j,k⟩,rfl,trivial⟩
def Bf:Sh:=.agg [eg,.agg (List.replicate 4 eg)]
def SO(ys:List D)(h:Bf.cp ys):∃x:bn,Bf.pack ys=x.d/\True:=by
 simp only[Bf,List.replicate,Sh.cp,Sh.jo]at h;obtain⟨_,_,rfl,⟨a,rfl,_⟩,_,_,rfl,⟨_,_,rfl,⟨b,rfl,_⟩,_,_,rfl,⟨c,rfl,_⟩,_,_,rfl,⟨d,rfl,_⟩,_,_,rfl,⟨e,rfl,_⟩,rfl⟩,rfl⟩:=h;exact⟨⟨a,b,c,d,e⟩,rfl,trivial⟩
def wG:Sh:=.agg [eg,eg,eg,eg,eg,eg,eg]
def Vw(ys:List D)(h:wG.cp ys):∃x:cJ,wG.pack ys=x.d/\True:=by
 simp only[wG,Sh.cp,Sh.jo]at h;obtain⟨_,_,rfl,⟨a,rfl,_⟩,_,_,rfl,⟨b,rfl,_⟩,_,_,rfl,⟨c,rfl,_⟩,_,_,rfl,⟨d,rfl,_⟩,_,_,rfl,⟨e,rfl,_⟩,_,_,rfl,⟨f,rfl,_⟩,_,_,rfl,⟨g,rfl,_⟩,rfl⟩:=h;exact⟨⟨a,b,c,d,e,f,g⟩,rfl,trivial⟩
def rS:Sh:=.agg [eg,eg,eg,eg]
def Vx(ys:List D)(h:rS.cp ys):∃x:bD,rS.pack ys=x.d/\i64 x.kind:=by
 simp only[rS,Sh.cp,Sh.jo]at h;obtain⟨_,_,rfl,⟨a,rfl,_⟩,_,_,rfl,⟨b,rfl,_⟩,_,_,rfl,⟨c,rfl,h1⟩,_,_,rfl,⟨d,rfl,_⟩,rfl⟩:=h;exact⟨⟨a,b,c,d⟩,rfl,apd h1⟩
def yj:Sh:=.agg [eg,eg,eg]
def Vs(ys:List D)(h:yj.cp ys):∃x:ia,yj.pack ys=x.d/\True:=by
 exact aqi
def YQ(ys:List D)(h:yj.cp ys):∃x:kj,yj.pack ys=x.d/\True:=by
 exact aqi
def YS(ys:List D)(h:rS.cp ys):∃x:iK,rS.pack ys=x.d/\True:=by
 simp only[rS,Sh.cp,Sh.jo]at h;obtain⟨_,_,rfl,⟨a,rfl,_⟩,_,_,rfl,⟨b,rfl,_⟩,_,_,rfl,⟨c,rfl,h1⟩,_,_,rfl,⟨d,rfl,_⟩,rfl⟩:=h;exact⟨⟨a,b,c,d⟩,rfl,trivial⟩
def HF:Sh:=.agg [.str,.slice 1 eg]
def ab7(ys:List D)(h:eg.cp ys):∃x:Int,eg.pack ys= .int .i64 x/\True:=by
 simp only[Sh.cp]at h;obtain⟨n,rfl,_⟩:=h;exact⟨n,rfl,trivial⟩
def YU(ys:List D)(h:HF.cp ys):∃x:Sign,HF.pack ys=x.d/\Lm x.c:=by
 rw[HF,Sh.cp]at h;simp only[Sh.jo]at h;obtain⟨_,_,rfl,h0,_,_,rfl,h1,rfl⟩:=h;simp only[Sh.cp]at h0;obtain⟨t,rfl,_⟩:=h0;obtain⟨l,rfl,hl,_⟩:=ky (f:=D.int .i64) (p:=fun _=>True) ab7 h1;exact⟨⟨t,l⟩,rfl,hl⟩
def Bg:Sh:=.agg [eg,eg,eg,eg,eg,eg,.bool,.agg [.slice 3 yj,eg,.slice 3 yj],.slice 2 HF,.agg [eg,eg,.slice 4 rS]]
def we{ys:List D}(h:eg.cp ys):∃n,ys=[I n]:=by
 simp only[Sh.cp]at h
 exact awN
def aid{ys:List D}(h:Sh.bool.cp ys):∃n,ys=[.bool n]:=by grind [Sh.cp]
def SP(ys:List D)(h:Bg.cp ys):∃x:aV,Bg.pack ys=x.d/\(Od x/\Tm x):=by
 rw[Bg,Sh.cp]at h;simp only[Sh.jo]at h;obtain⟨_,_,rfl,ha,_,_,rfl,hb,_,_,rfl,hc,_,_,rfl,hd,_,_,rfl,he,_,_,rfl,hf,_,_,rfl,hg,_,_,rfl,h1,_,_,rfl,h2,_,_,rfl,h3,rfl⟩:=h;rw[Sh.cp]at h1 h3;simp only[Sh.jo]at h1 h3;obtain⟨_,_,rfl,i1,_,_,rfl,i2,_,_,rfl,i3,rfl⟩:=h1;obtain⟨_,_,rfl,j1,_,_,rfl,j2,_,_,rfl,j3,rfl⟩:=h3;obtain⟨a,rfl⟩:=we ha;obtain⟨b,rfl⟩:=we hb;obtain⟨c,rfl⟩:=we hc;obtain⟨d,rfl⟩:=we hd;obtain⟨e,rfl⟩:=we he;obtain⟨f,rfl⟩:=we hf;obtain⟨g,rfl⟩:=aid hg;obtain⟨o,rfl⟩:=we i2;obtain⟨w,rfl⟩:=we j1;obtain⟨z,rfl⟩:=we j2;obtain⟨gs,rfl,k1,_⟩:=ky Vs i1;obtain⟨ks,rfl,k2,_⟩:=ky YQ i3;obtain⟨ss,rfl,k3,k4⟩:=ky YU h2;obtain⟨bl,rfl,k5,_⟩:=ky YS j3;exact⟨⟨a,b,c,d,e,f,g,⟨gs,o,ks⟩,ss,⟨w,z,bl⟩⟩,rfl,⟨k1,k2⟩,k1,k2,k3,k4,k5⟩
def LQ:Sh:=.agg [eg,eg,eg,eg,eg,eg,vj,.str]
def ab6(ys:List D)(h:LQ.cp ys):∃x:Fix,LQ.pack ys=x.d/\Lm x.words:=by
 simp only[LQ,Sh.cp,Sh.jo]at h;obtain⟨_,_,rfl,⟨a,rfl,_⟩,_,_,rfl,⟨b,rfl,_⟩,_,_,rfl,⟨c,rfl,_⟩,_,_,rfl,⟨d,rfl,_⟩,_,_,rfl,⟨e,rfl,_⟩,_,_,rfl,⟨f,rfl,_⟩,_,_,rfl,h1,_,_,rfl,⟨t,rfl,_⟩,rfl⟩:=h;obtain⟨l,rfl,hl,_⟩:=tO h1;exact⟨⟨a,b,c,d,e,f,l,t⟩,rfl,hl⟩
def abt:Sh:=.agg [wG,.slice 6 Dp,.slice 8 HG,.slice 10 D7,.slice 5 Bf,.slice 7 wG,.slice 14 Bg,.slice 4 rS,.slice 8 D6]
def yi:Sh:=.agg [abt,.slice 8 LQ]
structure Ua(r:Rec):Prop where
 gr:Lm r.s.grams/\∀g∈r.s.grams,ov g
 te:Lm r.s.cB/\∀x∈r.s.cB,St.EE x
 ho:Lm r.s.bG
 lb:Lm r.s.bp
 lt:Lm r.s.cy
 vi:Lm r.s.aC/\∀v∈r.s.aC,Od v/\Tm v
 vs:Lm r.s.cr/\∀v∈r.s.cr,i64 v.kind
 he:Lm r.s.heard/\∀h∈r.s.heard,Oc h
 fi:Lm r.cn/\∀x∈r.cn,Lm x.words
def Vt(ys:List D)(h:Dp.cp ys):∃g:aA,Dp.pack ys=g.d/\ov g:=YP ⟨ys,rfl,h⟩
def IB{d:D}(h:yi.has d):∃r:Rec,d=r.d/\Ua r:=by
 obtain⟨ys,rfl,h⟩:=h;rw[yi,Sh.cp]at h;simp only[Sh.jo]at h;obtain⟨_,_,rfl,h,_,_,rfl,h9,rfl⟩:=h;rw[abt,Sh.cp]at h;simp only[Sh.jo]at h;obtain⟨_,_,rfl,h0,_,_,rfl,h1,_,_,rfl,h2,_,_,rfl,h3,_,_,rfl,h4,_,_,rfl,h5,_,_,rfl,h6,_,_,rfl,h7,_,_,rfl,h8,rfl⟩:=h;simp only[wG,Sh.cp,Sh.jo]at h0;obtain⟨_,_,rfl,⟨a,rfl,_⟩,_,_,rfl,⟨b,rfl,_⟩,_,_,rfl,⟨c,rfl,_⟩,_,_,rfl,⟨d,rfl,_⟩,_,_,rfl,⟨e,rfl,_⟩,_,_,rfl,⟨f,rfl,_⟩,_,_,rfl,⟨g,rfl,_⟩,rfl⟩:=h0;obtain⟨l1,rfl,p1⟩:=ky Vt h1;obtain⟨l2,rfl,p2⟩:=ky YV h2;obtain⟨l3,rfl,p3,_⟩:=ky Vv h3;obtain⟨l4,rfl,p4,_⟩:=ky SO h4;obtain⟨l5,rfl,p5,_⟩:=ky Vw h5;obtain⟨l6,rfl,p6⟩:=ky SP h6;obtain⟨l7,rfl,p7⟩:=ky Vx h7;obtain⟨l8,rfl,p8⟩:=ky Vu h8;obtain⟨l9,rfl,p9⟩:=ky ab6 h9;exact⟨⟨⟨a,b,c,d,e,f,g,l1,l2,l3,l4,l5,l6,l7,l8⟩,l9⟩,rfl,⟨p1,p2,p3,p4,p5,p6,p7,p8,p9⟩⟩
theorem Ua.f4{r:Rec}(o:Ua r):C4 r.s:=⟨o.gr.2,o.gr.1,o.te.1,o.vi.1,o.he.1,fun h hh=>(o.he.2 h hh).1⟩
theorem Ua.all{r:Rec}(o:Ua r)(hf:pj r=true):LJ r:=by
 have hg:∀g∈r.s.grams,Ty.sq g=true:=fun g hg=>by
  have GG:=hf;unfold pj Au at GG;simp only[aas,aaI]at GG
  grind [Sy]
 refine⟨⟨⟨fun g vO=>⟨o.gr.2 g vO,fun x hx=>?_⟩,o.te.2,fun v hv=>(o.vi.2 v hv).1,o.vs.2,o.gr.1,o.te.1,o.vi.1,o.vs.1,o.he.1⟩,o.he.2,fun g vO=>acM (o.gr.2 g (aqb vO)) (hg g (aqb vO)) 0,⟨o.ho,o.lb,o.lt,o.fi.1⟩,fun v hv=>⟨(o.vi.2 v hv).2.s,(o.vi.2 v hv).2.b,(o.vi.2 v hv).2.c⟩,o.fi.2,fun h hw=>?_⟩,⟨⟨⟨o.gr.1,fun g hg=>Xe (o.gr.2 g hg)⟩,o.lb,o.lt,⟨o.vi.1,fun v hv=>(o.vi.2 v hv).2⟩,o.vs.1,o.he⟩,⟨o.te.1,fun x hx=>(o.te.2 x hx).2⟩,o.ho,o.fi⟩,abV hf⟩
 ·have h2:=hg g vO;unfold Ty.sq at h2;simp only[aas,aaI]at h2;have h3:=h2.2.2 x hx;simp only[Ty.wQ,aas,aaH]at h3;exact oM
 ·have:=Ql h hf hw
  grind [EZ]
end Go.V.Rp
