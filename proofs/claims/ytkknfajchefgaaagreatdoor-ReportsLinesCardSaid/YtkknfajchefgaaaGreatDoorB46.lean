/- Lemmas on plain data and programs: part B46. -/
import Derived.Test.YtkknfajchefgaaaGreatDoorB45
set_option linter.all false
set_option maxHeartbeats 8000000
set_option maxRecDepth 100000
namespace Go.V.Rp
open Go.Proofs Go.RowKit Go.V.Lx Go.V.Gr Go.V.Ty Go.V.St
def nr (k:Nat) {r p:Nat} (mk:List Int->Option Item) (h:∀l i,mk l=some i->i.row=r/\i.part=p:=by
 intro l i h;first|unfold tY at h|unfold tX at h|unfold tZ at h|unfold tW at h|unfold xq at h|unfold tV at h|unfold ua at h|unfold nN at h
 split at h<;>first|(injection h with h;subst h;exact⟨rfl,rfl⟩)|cases h):r_ r p (cx k mk):=I0 h
def HX:r_ 7 0 (cx 10 t_):=I0 fun l i h=>by
 unfold t_ at h;split at h
 ·split at h
  ·injection h with h;subst h;exact⟨rfl,rfl⟩
  ·exact awI
 ·exact awI
def aaq:r_ 9 1 iY:=fun fs i m h=>by obtain⟨w,rfl⟩:=RQ h;exact⟨rfl,rfl⟩
def Qt:r_ 10 0 lz:=fun fs i m h=>by obtain⟨w,rfl⟩:=aei h;exact⟨rfl,rfl⟩
theorem YN:r_ 2 0 ld:=fun fs i m h=>by
 unfold ld at h;cases hg:ma (lF fs)with
 |none=>grind
 |some g=>rw[hg]at h;exact aq_
inductive ahG(w:ae):Prop
 |no (h:dX .str (.str w) qj 0=some none) (hp:∀fs,eM par w fs=none)
 |yes (i r p:Nat) (f:FuncId) (iq:List ae->Option (Item×List ae)) (h:dX .str (.str w) qj 0=some (some (i,.agg [I r,I p,.fn (.func f) []]))) (hp:∀fs,eM par w fs=gd (iq fs)) (hr:r_ r p iq) (hu:EM f r p iq)
def agn(w:ae):ahG w:=by
 by_cases h0:w=CP
 ·subst h0;exact .yes 0 1 0 _ _ (by rfl) acF (nr 7 tY) (W9.u (nr 7 tY) awL awL fun _=>trivial)
 by_cases h1:w=kD
 ·subst h1;exact .yes 1 2 0 _ _ (by rfl) af1 YN (aeq)
 by_cases h2:w=G4
 ·subst h2;exact .yes 2 3 0 _ _ (by rfl) af4 OY (aad.u OY awL awL fun _=>trivial)
 by_cases h3:w=CO
 ·subst h3;exact .yes 3 4 0 _ _ (by rfl) acE (nr 10 tX) (VV.u (nr 10 tX) awL awL fun _=>trivial)
 by_cases h4:w=zC
 ·subst h4;exact .yes 4 5 0 _ _ (by rfl) ZK F3 (Sb.u F3 awL awL fun _=>trivial)
 by_cases h5:w=CQ
 ·subst h5;exact .yes 5 6 0 _ _ (by rfl) acG (nr 7 tZ) (Xt.u (nr 7 tZ) awL awL fun _=>trivial)
 by_cases h6:w=zD
 ·subst h6;exact .yes 6 7 0 _ _ (by rfl) ZL HX (TZ.u HX)
 by_cases h7:w=CM
 ·subst h7;exact .yes 7 7 1 _ _ (by rfl) acC (nr 3 tW) (Vb.u (nr 3 tW) awL)
 by_cases h8:w=G2
 ·subst h8;exact .yes 8 7 2 _ _ (by rfl) af2 (nr 3 xq) (Zl.u (nr 3 xq) awL)
 by_cases h9:w=G3
 ·subst h9;exact .yes 9 7 3 _ _ (by rfl) af3 ON (Z2.u ON awL)
 by_cases jF:w=xk
 ·subst jF;exact .yes 10 7 4 _ _ (by rfl) acB (nr 4 tV) (Un.u (nr 4 tV) awL)
 by_cases gM:w=CR
 ·subst gM;exact .yes 11 8 0 _ _ (by rfl) acH (nr 4 ua) (Xy.u (nr 4 ua) awL awL fun _=>trivial)
 by_cases fa:w=CN
 ·subst fa;exact .yes 12 9 0 _ _ (by rfl) acD (nr 7 nN) (ab_)
 by_cases kc:w=G5
 ·subst kc;exact .yes 13 9 1 _ _ (by rfl) af5 aaq (agY)
 by_cases mB:w=NS
 ·subst mB;exact .yes 14 10 0 _ _ (by rfl) aiW Qt (abY.u Qt awL awL fun _=>trivial)
 refine .no (AO ?_) fun fs=>?_
 ·simp only[qj,Wr,aas,ap9,ne_eq]
  exact awN
 simp_all[eM,LL]
end Go.V.Rp
namespace Go.V.Rp
open Go.Proofs Go.Proofs.Tryz Go.RowKit Go.V.Lx Go.V.Gr Go.V.Ty Go.V.St
def yP(w:ae)(r p:Nat):Prop:=(dX .str (.str w) qj 0=some none/\r=0/\p=0)\/∃i f,dX .str (.str w) qj 0=some (some (i,.agg [I r,I p,.fn (.func f) []]))
def L1(bx' bx:ab):Prop:=∀q,q≠1005->(q<100\/1000<=q)->bx' q=bx q
theorem IL:∀(l:List ae),l≠[]->l.length<=(lF l).length+1/\∀x∈l,x.length<=(lF l).length
 |[],h=>absurd rfl h
 |[x],_=>by rw[px];simp
 |x::y::l,_=>by
  obtain⟨h1,h2⟩:=IL (y::l) sI;rw[lW]
  exact awN
def Qu{s:ae}(h:s.length<=1099511627775):ou (fL s):=by
 have:=IL (fL s) (zV s);rw[rJ]at this;exact⟨oM,fun x hx=>awN⟩
theorem qh.of{B B':ab}{e:Nat}{x:Rd}{w:ae}{n:NL}(h:qh B e x w n)(h1:B' 1005=B 1005)(h2:∀q,206<=q->q<=260->B' q=B q):qh B' e x w n:=by
 have hl:∀q∈[254,232,233,240,235,241],B' q=B q:=fun q hq=>h2 q awN awN;refine⟨⟨h1.trans h.b.b,h.b.l.of fun q hq=>h2 q avt avt,h.b.v.k hl⟩,fun h7=>(h.l7 h7).k fun q hq=>hl q awN,h.h8,h.h9⟩
theorem qh.word{B:ab}{e:Nat}{x:Rd}{w w':ae}{n:NL}{v:Bx}(h:qh B e x w n)(hv:v=⟨e,1,17,110,[.agg (zP x.r n w')]⟩):qh (ah B 1005 v) e x w' n:=by
 have h2:∀q,206<=q->q<=260->ah B 1005 v q=B q:=fun q q1 q2=>al oM;have hl:∀q∈[254,232,233,240,235,241],ah B 1005 v q=B q:=fun q hq=>h2 q awN awN;refine⟨⟨(aY _ _ _).trans hv,h.b.l.of fun q hq=>h2 q avt avt,h.b.v.k hl⟩,fun h7=>(h.l7 h7).k fun q hq=>hl q awN,h.h8,h.h9⟩
def Qv(r p a b:Nat):Ci r p a b=dz r p a b:=by
 unfold Ci dz;have e1:((r:Int)<=1)<->r<=1:=oM;have e2:((0:Int)<p)<->0<p:=oM;have e3:((r:Int)=1)<->r=1:=oM;have e4:((a:Int)=0)<->a=0:=oM;have e5:((r:Int)=a)<->r=a:=oM;have e6:((b:Int)<=p)<->b<=p:=oM;have e7:((1:Int)<=a)<->1<=a:=oM;have e8:((a:Int)<=r)<->a<=r:=oM
 exact awN
def JZ(a b:Int):Ci 0 0 a b=false:=by unfold Ci;simp
def abA{x:Rd}{s:ae}(h1:s.getLast? =some 10)(h2:(bJ 32 s.dropLast).2.2=true):pZ par x s=(eM par (bJ 32 s.dropLast).1 (fL (bJ 32 s.dropLast).2.1)).bind (push x):=by
 unfold pZ;rw[aaO h1];unfold ow;rw[RB,aaO h2];cases hs:fL (bJ 32 s.dropLast).2.1<;>grind [zV]
def abB{x:Rd}{s:ae}(h:¬(s.getLast? =some 10/\(bJ 32 s.dropLast).2.2=true)):pZ par x s=none:=by
 unfold pZ;by_cases h1:s.getLast? =some 10<;>simp_all[ow,RB]
theorem uh{x:Rd}{r p:Nat}{iq:List ae->Option (Item×List ae)}(hr:r_ r p iq)(fs:List ae):(gd (iq fs)).bind (push x)=match iq fs with
 |some (i,[])=>if dz r p x.row x.part then some ⟨ins x.r i,r,p⟩else none
 |_=>none:=by
 unfold gd;cases hc:iq fs with
 |none=>rfl
 |some q=>
  obtain⟨i,m⟩:=q;obtain⟨rfl,rfl⟩:=hr _ _ _ hc;cases m with
  |nil=>rfl
  |cons a m=>rfl
def ahI(e:Nat)(B:ab)(x:Rd)(w:ae)(n:NL)(s:ae)(hR:qh B e x w n)(hw:yP w x.row x.part)(hs:s.length<=1099511627776)(hz:kh x.r<=1099511627):El prog (dD prog) [(8000006,[]),(6,[(10,4)])] f28 100 [.loc 1005 e 0 0,.str s] B (fun d B'=>(∃y n' w',pZ par x s=some y/\d= .bool true/\qh B' e y w' n'/\yP w' y.row y.part/\L1 B' B)\/(pZ par x s=none/\d= .bool false/\L1 B' B)) (fun _ _=>False):=by
 refine rp _ [.cell 4 4] 61 rfl rfl rfl ar ar ?_;have anA:=abA (x:=x) (s:=s);have cH:=abB (x:=x) (s:=s);generalize hS:pZ par x s=S at *;clear hS;have mc:(if s.getLast? =some 10 then s.dropLast else s).length<=1099511627776:=awN
 have ans:s.getLast? =some 10->(bJ 32 s.dropLast).2.1.length<=1099511627775:=fun h=>by
  have h1:=aaR List.length (ph 32 s.dropLast)
  grind [JN]
 have hB:=hR.b.b;have hbo:=hR.b.nX;generalize ann:decide (s.getLast? =some 10)=ok;have bm:ok=true<->s.getLast? =some 10:=awN
 generalize h2:(if s.getLast? =some 10 then s.dropLast else s)=s1 at *;generalize h3:bJ 32 s1=C3;obtain⟨w1,rest,fnd⟩:=C3;generalize h4:(if fnd=true then w1 else s1)=W;have hY:ok=true->fnd=true->S=(eM par W (fL rest)).bind (push x)/\rest.length<=1099511627775:=fun g1 g2=>awN
 have hN:ok=false\/fnd=false->S=none:=fun g=>cH fun⟨g1,g2⟩=>awN
 replace hY:Hid _:=hY;replace hN:Hid _:=hN;replace hR:Hid _:=hR;clear anA cH ans bm;refine zW ?_;intros;refine ao (ago _) rfl fun d B1 hq=>?_;obtain⟨e2,rfl,hm,hk⟩:=hq;have Nt:=(hk 104 awL).trans (aY _ _ _);have sE:=(hk 1005 awL).trans ((al awL).trans hB);have Kd:∀q,q≠104->q≠301->B1 q=B q:=fun q q1 q2=>(hk q q2).trans (al q1);replace Kd:Hid _:=Kd;clear hk ann h2 h3 h4 hB;have vA:=agn W;generalize hEP:(B 104).ep+1=ep at *;clear hEP;have Iw:∀v v',ah (ah B1 111 v) 111 v' 104=⟨ep,1,1,4,[.bool false]⟩:=fun v v'=>(al awL).trans ((al awL).trans Nt);replace Iw:Hid _:=Iw;rcases hw with⟨hw,NF,eA⟩|⟨j,g,hw⟩
 ·rcases vA with⟨hf,hp⟩|⟨i,r,p,f,iq,hf,hp,hr,hu⟩
  ·replace hp:Hid _:=hp;have CH:=JZ 0 0;have Nk:Hid (S=none):=by
    by_cases g1:ok=true
    ·by_cases g2:fnd=true
     ·exact(hY.out g1 g2).1.trans (by rw[hp.out];rfl)
     exact awN
    exact awN
   refine zW ?_;intros;refine DT au6 ?_;repeat' first|exact zQ|with_reducible apply zJ<;>intro _|((with_reducible refine dU ?_ (fun _=>?_) fun _=>?_);exact pr)|refine zK ?_|fail
   all_goals first|contradiction|skip
   all_goals
    refine bM _ (mY (dB (x:=.bool false) (ah (ah B1 111 _) 111 _) (fun c=>sG) (Iw.out _ _))) fun m' aT hq=>?_;obtain⟨rfl,q1,q2⟩:=hq;refine zW ?_;intros;exact .inr ⟨Nk.out,fun q g1 g2=>(q2 q oM oM).trans ((al oM).trans ((al oM).trans (Kd.out q oM oM)))⟩
  ·replace hp:Hid _:=hp;replace hr:Hid _:=hr;replace hu:Hid _:=hu;have CH:Ci r p 0 0=dz r p x.row x.part:=by have:=Qv r p 0 0;grind
   generalize hFO:dz r p x.row x.part=fo at *;have Nk:Hid (ok=false\/fnd=false\/fo=false->S=none):=fun g=>by
    by_cases g1:ok=true
    ·by_cases g2:fnd=true
     ·have g3:fo=false:=awN
      refine(hY.out g1 g2).1.trans ?_;rw[hp.out,uh hr.out,hFO,g3]
      exact awN
     ·exact hN.out (.inr awN)
    ·exact hN.out (.inl awN)
   refine zW ?_;intros;refine DT au6 ?_;repeat' first|exact zQ|with_reducible apply zJ<;>intro _|((with_reducible refine dU ?_ (fun _=>?_) fun _=>?_);exact pr)|refine zK ?_|fail
   all_goals first|contradiction|skip
   ·obtain⟨hS,xW⟩:=hY.out ‹_› ‹_›;have anr:rest.length<=1099511627776:=oM;replace xW:Hid _:=xW;replace hS:Hid (S=_):=hS;refine zW ?_;intros;have pO:dz r p x.row x.part=true:=awN
    have zj:∀v1 v2 v3 v4 q,q≠104->q≠301->q≠111->q≠112->ah (ah (ah (ah B1 111 v1) 111 v2) 112 v3) 112 v4 q=B q:=fun v1 v2 v3 v4 q g1 g2 g3 g4=>(al g4).trans ((al g4).trans ((al g3).trans ((al g3).trans (Kd.out q g1 g2))));have h7:∀v1 v2 v3 v4,ah (ah (ah (ah B1 111 v1) 111 v2) 112 v3) 112 v4 104=⟨ep,1,1,4,[.bool false]⟩:=fun v1 v2 v3 v4=>(al awL).trans ((al awL).trans ((al awL).trans ((al awL).trans Nt)));refine bj (hu.out e ((B1 112).ep+1) (ah (ah (ah (ah B1 111 _) 111 _) 112 _) 112 _) x w n (fL rest) (hR.out.of (zj _ _ _ _ 1005 awL awL awL awL) fun q g1 g2=>zj _ _ _ _ q oM oM oM oM) pO (aY _ _ _) (Qu xW.out) hz (by rw[rJ];omega)) rfl (fun d B8 hq=>?_) fun d B8 hq=>?_
    ·obtain⟨i1,m,n',c1,rfl,c3,c4,c5⟩:=hq;have h8:=(c5 104 awL awL (.inl awL)).trans (h7 _ _ _ _);have hb8:=c3.b.b;have qq:=hS.out;rw[hp.out,uh hr.out,c1]at qq;have hF:∀q,q≠1005->(q<100\/1000<=q)->B8 q=B q:=fun q g1 g2=>(c5 q g1 oM oM).trans (zj _ _ _ _ q oM oM oM oM);replace hF:Hid _:=hF;replace qq:Hid _:=qq;replace c3:Hid _:=c3;clear hS c1 zj h7 Nt sE hm c5;rcases c4 with c4|⟨rfl,c4⟩
     ·have c6:B8 112=⟨(B1 112).ep+1,1,1,188,[.agg [.sl 1 (m.map D.str)]]⟩:=c4;cases m with
      |nil=>
       repeat' first|exact zQ|with_reducible apply zJ<;>intro _|((with_reducible refine dU ?_ (fun _=>?_) fun _=>?_);exact pr)|refine zK ?_|fail
       ·refine bM _ (mY (ly (x:=.bool true) (ah (ah B8 1005 _) 104 _) (aY _ _ _))) fun m' aT hq=>?_;obtain⟨rfl,rfl⟩:=hq;refine zW ?_;intros;refine .inl ⟨⟨ins x.r i1,r,p⟩,n',W,qq.out.trans (aaO pO),?_,.inr ⟨i,f,hf⟩,fun q g1 g2=>(al oM).trans ((al g1).trans (hF.out q g1 g2))⟩;exact(c3.out.word rfl).of (al awL) fun q g1 g2=>al oM
       ·contradiction
      |cons a m=>
       have h0:¬((m.length+1:Nat):Int)=0:=oM;repeat' first|exact zQ|with_reducible apply zJ<;>intro _|((with_reducible refine dU ?_ (fun _=>?_) fun _=>?_);exact pr)|refine zK ?_|fail
       grind
       ·refine bM _ (mY (dB (x:=.bool false) B8 (fun c=>sG) h8)) fun m' aT hq=>?_;obtain⟨rfl,q1,q2⟩:=hq;refine zW ?_;intros;exact .inr ⟨qq.out,fun q g1 g2=>(q2 q oM oM).trans (hF.out q g1 g2)⟩
     ·repeat' first|exact zQ|with_reducible apply zJ<;>intro _|((with_reducible refine dU ?_ (fun _=>?_) fun _=>?_);exact pr)|refine zK ?_|fail
      ·refine bM _ (mY (ly (x:=.bool true) (ah (ah B8 1005 _) 104 _) (aY _ _ _))) fun m' aT hq=>?_;obtain⟨rfl,rfl⟩:=hq;refine zW ?_;intros;refine .inl ⟨⟨ins x.r i1,r,p⟩,n',W,qq.out.trans (aaO pO),?_,.inr ⟨i,f,hf⟩,fun q g1 g2=>(al oM).trans ((al g1).trans (hF.out q g1 g2))⟩;exact(c3.out.word rfl).of (al awL) fun q g1 g2=>al oM
      exact awN
    ·obtain⟨c1,rfl,c5⟩:=hq;have h8:=(c5 104 awL awL (.inl awL)).trans (h7 _ _ _ _);have hF:∀q,q≠1005->(q<100\/1000<=q)->B8 q=B q:=fun q g1 g2=>(c5 q g1 oM oM).trans (zj _ _ _ _ q oM oM oM oM);have qq:S=none:=by rw[hS.out,hp.out,uh hr.out,c1]
     replace hF:Hid _:=hF;replace qq:Hid _:=qq;clear hS c1 zj h7 Nt sE hm c5;refine zW ?_;intros;refine bM _ (mY (dB (x:=.bool false) B8 (fun c=>sG) h8)) fun m' aT hq=>?_;obtain⟨rfl,q1,q2⟩:=hq;refine zW ?_;intros;exact .inr ⟨qq.out,fun q g1 g2=>(q2 q oM oM).trans (hF.out q g1 g2)⟩
   all_goals
    refine bM _ (mY (dB (x:=.bool false) (ah (ah B1 111 _) 111 _) (fun c=>sG) (Iw.out _ _))) fun m' aT hq=>?_;obtain⟨rfl,q1,q2⟩:=hq;refine zW ?_;intros;exact .inr ⟨Nk.out awJ,fun q g1 g2=>(q2 q oM oM).trans ((al oM).trans ((al oM).trans (Kd.out q oM oM)))⟩
 ·rcases vA with⟨hf,hp⟩|⟨i,r,p,f,iq,hf,hp,hr,hu⟩
  ·replace hp:Hid _:=hp;have CH:=JZ x.row x.part;have Nk:Hid (S=none):=by
    by_cases g1:ok=true
    ·by_cases g2:fnd=true
     ·exact(hY.out g1 g2).1.trans (by rw[hp.out];rfl)
     exact awN
    exact awN
   refine zW ?_;intros;refine DT au6 ?_;repeat' first|exact zQ|with_reducible apply zJ<;>intro _|((with_reducible refine dU ?_ (fun _=>?_) fun _=>?_);exact pr)|refine zK ?_|fail
   all_goals first|grind|skip
   all_goals
    refine bM _ (mY (dB (x:=.bool false) (ah (ah B1 111 _) 111 _) (fun c=>sG) (Iw.out _ _))) fun m' aT hq=>?_;obtain⟨rfl,q1,q2⟩:=hq;refine zW ?_;intros;exact .inr ⟨Nk.out,fun q g1 g2=>(q2 q oM oM).trans ((al oM).trans ((al oM).trans (Kd.out q oM oM)))⟩
  ·replace hp:Hid _:=hp;replace hr:Hid _:=hr;replace hu:Hid _:=hu;have CH:=(Qv r p x.row x.part)
   generalize hFO:dz r p x.row x.part=fo at *;have Nk:Hid (ok=false\/fnd=false\/fo=false->S=none):=fun g=>by
    by_cases g1:ok=true
    ·by_cases g2:fnd=true
     ·have g3:fo=false:=awN
      refine(hY.out g1 g2).1.trans ?_;rw[hp.out,uh hr.out,hFO,g3]
      exact awN
     ·exact hN.out (.inr awN)
    ·exact hN.out (.inl awN)
   refine zW ?_;intros;refine DT au6 ?_;repeat' first|exact zQ|with_reducible apply zJ<;>intro _|((with_reducible refine dU ?_ (fun _=>?_) fun _=>?_);exact pr)|refine zK ?_|fail
   all_goals first|contradiction|skip
   ·obtain⟨hS,xW⟩:=hY.out ‹_› ‹_›;have anr:rest.length<=1099511627776:=oM;replace xW:Hid _:=xW;replace hS:Hid (S=_):=hS;refine zW ?_;intros;have pO:dz r p x.row x.part=true:=awN
    have zj:∀v1 v2 v3 v4 q,q≠104->q≠301->q≠111->q≠112->ah (ah (ah (ah B1 111 v1) 111 v2) 112 v3) 112 v4 q=B q:=fun v1 v2 v3 v4 q g1 g2 g3 g4=>(al g4).trans ((al g4).trans ((al g3).trans ((al g3).trans (Kd.out q g1 g2))));have h7:∀v1 v2 v3 v4,ah (ah (ah (ah B1 111 v1) 111 v2) 112 v3) 112 v4 104=⟨ep,1,1,4,[.bool false]⟩:=fun v1 v2 v3 v4=>(al awL).trans ((al awL).trans ((al awL).trans ((al awL).trans Nt)));refine bj (hu.out e ((B1 112).ep+1) (ah (ah (ah (ah B1 111 _) 111 _) 112 _) 112 _) x w n (fL rest) (hR.out.of (zj _ _ _ _ 1005 awL awL awL awL) fun q g1 g2=>zj _ _ _ _ q oM oM oM oM) pO (aY _ _ _) (Qu xW.out) hz (by rw[rJ];omega)) rfl (fun d B8 hq=>?_) fun d B8 hq=>?_
    ·obtain⟨i1,m,n',c1,rfl,c3,c4,c5⟩:=hq;have h8:=(c5 104 awL awL (.inl awL)).trans (h7 _ _ _ _);have hb8:=c3.b.b;have qq:=hS.out;rw[hp.out,uh hr.out,c1]at qq;have hF:∀q,q≠1005->(q<100\/1000<=q)->B8 q=B q:=fun q g1 g2=>(c5 q g1 oM oM).trans (zj _ _ _ _ q oM oM oM oM);replace hF:Hid _:=hF;replace qq:Hid _:=qq;replace c3:Hid _:=c3;clear hS c1 zj h7 Nt sE hm c5;rcases c4 with c4|⟨rfl,c4⟩
     ·have c6:B8 112=⟨(B1 112).ep+1,1,1,188,[.agg [.sl 1 (m.map D.str)]]⟩:=c4;cases m with
      |nil=>
       repeat' first|exact zQ|with_reducible apply zJ<;>intro _|((with_reducible refine dU ?_ (fun _=>?_) fun _=>?_);exact pr)|refine zK ?_|fail
       ·refine bM _ (mY (ly (x:=.bool true) (ah (ah B8 1005 _) 104 _) (aY _ _ _))) fun m' aT hq=>?_;obtain⟨rfl,rfl⟩:=hq;refine zW ?_;intros;refine .inl ⟨⟨ins x.r i1,r,p⟩,n',W,qq.out.trans (aaO pO),?_,.inr ⟨i,f,hf⟩,fun q g1 g2=>(al oM).trans ((al g1).trans (hF.out q g1 g2))⟩;exact(c3.out.word rfl).of (al awL) fun q g1 g2=>al oM
       exact awN
      |cons a m=>
       have h0:¬((m.length+1:Nat):Int)=0:=oM;repeat' first|exact zQ|with_reducible apply zJ<;>intro _|((with_reducible refine dU ?_ (fun _=>?_) fun _=>?_);exact pr)|refine zK ?_|fail
       ·exact awN
       ·refine bM _ (mY (dB (x:=.bool false) B8 (fun c=>sG) h8)) fun m' aT hq=>?_;obtain⟨rfl,q1,q2⟩:=hq;refine zW ?_;intros;exact .inr ⟨qq.out,fun q g1 g2=>(q2 q oM oM).trans (hF.out q g1 g2)⟩
     ·repeat' first|exact zQ|with_reducible apply zJ<;>intro _|((with_reducible refine dU ?_ (fun _=>?_) fun _=>?_);exact pr)|refine zK ?_|fail
      ·refine bM _ (mY (ly (x:=.bool true) (ah (ah B8 1005 _) 104 _) (aY _ _ _))) fun m' aT hq=>?_;obtain⟨rfl,rfl⟩:=hq;refine zW ?_;intros;refine .inl ⟨⟨ins x.r i1,r,p⟩,n',W,qq.out.trans (aaO pO),?_,.inr ⟨i,f,hf⟩,fun q g1 g2=>(al oM).trans ((al g1).trans (hF.out q g1 g2))⟩;exact(c3.out.word rfl).of (al awL) fun q g1 g2=>al oM
      exact awN
    ·obtain⟨c1,rfl,c5⟩:=hq;have h8:=(c5 104 awL awL (.inl awL)).trans (h7 _ _ _ _);have hF:∀q,q≠1005->(q<100\/1000<=q)->B8 q=B q:=fun q g1 g2=>(c5 q g1 oM oM).trans (zj _ _ _ _ q oM oM oM oM);have qq:S=none:=by rw[hS.out,hp.out,uh hr.out,c1]
     replace hF:Hid _:=hF;replace qq:Hid _:=qq;clear hS c1 zj h7 Nt sE hm c5;refine zW ?_;intros;refine bM _ (mY (dB (x:=.bool false) B8 (fun c=>sG) h8)) fun m' aT hq=>?_;obtain⟨rfl,q1,q2⟩:=hq;refine zW ?_;intros;exact .inr ⟨qq.out,fun q g1 g2=>(q2 q oM oM).trans (hF.out q g1 g2)⟩
   all_goals
    refine bM _ (mY (dB (x:=.bool false) (ah (ah B1 111 _) 111 _) (fun c=>sG) (Iw.out _ _))) fun m' aT hq=>?_;obtain⟨rfl,q1,q2⟩:=hq;refine zW ?_;intros;exact .inr ⟨Nk.out awJ,fun q g1 g2=>(q2 q oM oM).trans ((al oM).trans ((al oM).trans (Kd.out q oM oM)))⟩
def afJ(e:Nat)(B:ab)(x:Rd)(w:ae)(n:NL)(s:ae)(hR:qh B e x w n)(hw:yP w x.row x.part)(hs:s.length<=1099511627776)(hz:kh x.r<=1099511627):az prog 28 100 [.loc 1005 e 0 0,.str s] B (fun d B'=>(∃y n' w',pZ par x s=some y/\d= .bool true/\qh B' e y w' n'/\yP w' y.row y.part/\L1 B' B)\/(pZ par x s=none/\d= .bool false/\L1 B' B)) (fun _ _=>False):=SD (ahI e B x w n s hR hw hs hz)
end Go.V.Rp
namespace Go.V.Rp
open Go.Proofs Go.RowKit Go.V.Lx Go.V.Gr Go.V.Ty Go.V.St
theorem W3:∀ {ls:List ae} {n:Nat} {x y:Rd},kZ par ls n x= .ok y->∃l,(∀i∈l,fC par i)/\ls=l.map (fun i=>d_ par i++[10])/\iz l x=some y
 |[],n,x,y,h=>by
  injection h with h;exact⟨[],sI,rfl,by rw[xA,h]⟩
 |s::ls,n,x,y,h=>by
  rw[kZ]at h;cases ha:pZ par x s with
  |none=>grind
  |some z=>
   rw[ha]at h;obtain⟨l,h1,h2,h3⟩:=W3 h;unfold pZ at ha;by_cases hl:s.getLast? =some 10
   ·rw[aaO hl]at ha;obtain⟨i,g1,g2,g3⟩:=aax mI ha;refine⟨i::l,List.forall_mem_cons.2 ⟨g1,h1⟩,?_,by grind [lK]⟩;obtain⟨ys,rfl⟩:=List.getLast?_eq_some_iff.1 hl
    exact awN
   exact awN
def Ry{ls:List ae}{y:Rd}(h:kZ par ls 0 Rd.zero= .ok y):y=Rd.zero\/((items y.r).length=ls.length/\(∃gl,y.r.s.grams=aA.zero::gl)/\∀i∈items y.r,fC par i/\d_ par i++[10]∈ls):=by
 obtain⟨l,h1,h2,h3⟩:=W3 h;by_cases hl:l=[]
 ·grind [xA]
 ·obtain⟨hI,hi⟩:=K7 h3 hl;refine .inr ⟨by rw[hi,h2,aa0],hI.z,fun i hm=>?_⟩
  exact awN
def ags{ls:List ae}{y:Rd}(h:kZ par ls 0 Rd.zero= .ok y):kh y.r<=2 * ls.length+3:=by
 rcases Ry h with rfl|⟨h1,⟨gl,h2⟩,h3⟩
 ·show 1+0<=_;exact oM
 grind [items,List.length_map,kh]
theorem zX{n:Nat}:∀ {l:List Nat},n∈l->n<=l.sum
 |x::l,h=>by
  rw[aqf];rcases aaQ.1 h with rfl|h
  ·exact oM
  ·have:=zX h;exact oM
def ZC:St.zL aA.zero:=⟨⟨vk,vk,avW,avW,avW,avW,avW,avW⟩,avW⟩
def O5{g:aA}(h:(bF g).2=0):iB g.aB.contains g=true:=by grind [bF]
def ZB{g:aA}(h:fC par (.ej g)):St.zL g:=by
 have h:ma (rq g)=some g:=h.2;obtain⟨h1,h2,h3,h4⟩:=wY h;have hs:ov (cF (rq g)).1:=Oi (s:=rq g) (a:=(cF (rq g)).2.1) (by rw[<-h1]);have ht:=O5 h3;rw[h4,ni h3];refine⟨ac2 hs,fun x hx=>?_⟩;obtain⟨y,hy,rfl⟩:=aa1.1 hx
 grind [Bc,lZ]
def DV{i:Item}{n:Nat}(h:(d_ par i).length<=n):(i.f par).length<=n+1/\∀x∈i.f par,x.length<=n:=by
 have:=IL (i.w::i.f par) sI;have e:lF (i.w::i.f par)=d_ par i:=rfl
 exact awN
def Fv{ls:List ae}{y:Rd}(h:kZ par ls 0 Rd.zero= .ok y)(hl:ls.length<=1099511627776)(hs:∀s∈ls,s.length<=1099511627776):St.iU y.r.s:=by
 rcases Ry h with rfl|⟨h1,⟨gl,h2⟩,h3⟩
 ·exact⟨auQ,auQ,auQ,auQ,auL,auL,auL,auL,auL⟩
 have hm:∀i,i∈items y.r->fC par i/\(d_ par i).length<=1099511627776:=fun i hi=>awN
 have hlen:=h1;unfold items at hm h1;simp only[aaQ,abr,aa1,afm,aku]at hm;simp only[aa5,aaY,aa0]at h1;have hv:=wS y.r.s.aC;have hh:=wR y.r.s.heard;refine⟨fun g hg=>?_,fun x hx=>?_,fun v cq=>?_,fun x hx=>?_,?_,?_,?_,?_,?_⟩
 ·rw[h2]at hg;rcases aaQ.1 hg with rfl|hg
  ·exact ZC
  ·exact ZB (hm _ (.inr (.inl ⟨g,awN,rfl⟩))).1
 ·obtain⟨g1,g2⟩:=hm (.term x) (.inr (.inr (.inl ⟨x,hx,rfl⟩)));obtain⟨l1,l2⟩:=DV g2;have e:(Item.term x).f par=[it x.no,it x.at_,it x.known,it x.bH,it (x.src.length:Int)]++(x.src++if x.gone then[]else x.cat::x.vn):=rfl;rw[e]at l1 l2;cases eJ:x.gone with
  |true=>
   obtain⟨e1,e2⟩:=g1.2.2 eJ
   exact awN
  |false=>
   exact awN
 ·have:=zX (aa1.2 ⟨v,cq,rfl⟩:eU v∈y.r.s.aC.map eU);have e:v.bq.gs.length<=eU v/\v.bq.ks.length<=eU v:=avD
  exact awN
 ·obtain⟨g1,_⟩:=hm (.visit x) (.inr (.inr (.inr (.inr (.inr (.inr (.inr (.inl ⟨x,hx,rfl⟩))))))));have:=g1.1 x.kind avX
  grind [iT,i64]
 ·exact awN
 ·exact awN
 ·exact awN
 ·exact awN
 exact awN
end Go.V.Rp
namespace Go.V.Rp
open Go.Proofs Go.Proofs.Tryz Go.RowKit Go.V.Lx Go.V.Gr Go.V.Ty Go.V.St
theorem dS.out{bx:ab}{ts:List Nat}{el esz:Nat}{x:D}{m:List D}(h:dS bx ts el esz x m):∃r,aU bx x=some r/\bA r (.sl esz m):=by
 obtain⟨l,h1,h2,h3⟩:=h
 grind [ud]
theorem pY.w{bx:ab}{t el esz:Nat}{x:D}{m:List D}(h:pY bx t el esz x m):dS bx [t] el esz x m:=by
 rcases h with⟨rfl,rfl,_⟩|⟨e,es,rfl,h2,h3,h4⟩
 ·exact⟨[],.nil _ _ _ _,.nil,rfl⟩
 ·exact⟨es,.inr ⟨t,e,sI,rfl,h2⟩,h3,h4⟩
def agj{B:ab}{x:Rec}{n:NL}(h7:Jr B x n)(hv:dS B [254] 62 14 n.v (x.s.aC.map aV.d))(he:dS B [241] 69 8 n.e (x.s.heard.map bL.d)):
 ∃r,aU B (.agg [I x.s.sources,I x.s.langs,I x.s.chunk,I x.s.quiet,I x.s.late,I x.s.gap,I x.s.most,n.g,n.t,n.h,n.b,n.r,n.v,n.s,n.e,n.x])=some r/\bA r x.d:=by
 obtain⟨r1,a1,w1⟩:=h7.g.out;obtain⟨r2,a2,w2⟩:=h7.t.out;obtain⟨r3,a3,w3⟩:=h7.h.out;obtain⟨r4,a4,w4⟩:=h7.b.out;obtain⟨r5,a5,w5⟩:=h7.r.out;obtain⟨r6,a6,w6⟩:=hv.out;obtain⟨r7,a7,w7⟩:=h7.s.out;obtain⟨r8,a8,w8⟩:=he.out;obtain⟨r9,a9,w9⟩:=h7.x.out;refine⟨.agg [I x.s.sources,I x.s.langs,I x.s.chunk,I x.s.quiet,I x.s.late,I x.s.gap,I x.s.most,r1,r2,r3,r4,r5,r6,r7,r8,r9],?_,.agg rfl fun j c c' e1 e2=>?_⟩
 ·exact auX
 ·rcases j with _|_|_|_|_|_|_|_|_|_|_|_|_|_|_|_|j<;>simp[Rec.l]at e1 e2<;>subst e1<;>subst e2<;>first|exact .refl _|assumption
def acN(B:ab)(e:Nat)(h:B 1005=⟨e,1,17,110,[.agg (zP Rec.zero ⟨.ak,.ak,.ak,.ak,.ak,.ak,.ak,.ak,.ak⟩ [])]⟩)(h1:(B 254).k≠1)(h2:(B 241).k≠1):qh B e Rd.zero [] ⟨.ak,.ak,.ak,.ak,.ak,.ak,.ak,.ak,.ak⟩:=by
 have z:∀ts el esz,dS B ts el esz .ak []:=fun ts el esz=>⟨[],.nil _ _ _ _,.nil,rfl⟩
 exact⟨⟨h,⟨z _ _ _,z _ _ _,z _ _ _,z _ _ _,z _ _ _,z _ _ _,z _ _ _⟩,.inl ⟨.inl (.inl ⟨rfl,rfl,h1⟩),rfl,rfl,h2⟩⟩,(fun h=>awI),fun _=>rfl,fun h=>awI⟩
def last_zero:yP [] Rd.zero.row Rd.zero.part:=.inl ⟨AO ar,rfl,rfl⟩
theorem OE(a b:List ae):∀(n:Nat) (x:Rd),kZ par (a++b) n x=match kZ par a n x with
 | .error k=> .error k
 | .ok y=>kZ par b (n+a.length) y:=by
 induction a<;>grind [kZ]
def acx{s:ae}{n:Nat}{it:List D}(h:(AP s)[n]? =some it):∃x,(i_ s)[n]? =some x/\it=[I ((n+1:Nat):Int),.str x]:=by
 unfold AP at h
 exact awN
def IV{s x:ae}(h:x∈i_ s):x.length<=s.length:=by
 have e:=y8 s;have hl:=aaR List.length e;rw[aaY]at hl;unfold i_ at h;rcases abr.1 h with h|h
 ·obtain⟨y,hy,rfl⟩:=aa1.1 h;have:(y++[10]).length<=(wO (du s).1).length:=by
   unfold wO;have:∀l:List ae,y∈l->(y++[10]).length<=((l.map fun x=>x++[10]).flatten).length:=by
    intro l;induction l<;>grind
   exact awN
  exact oM
 exact awN
abbrev zR:D:=.agg [I 0,I 0,I 0,I 0,I 0,I 0,I 0,.ak,.ak,.ak,.ak,.ak,.ak,.ak,.ak,.ak]
theorem Pd:bA zR Rec.zero.d:=.agg rfl fun j c c' e1 e2=>by rcases j with _|_|_|_|_|_|_|_|_|_|_|_|_|_|_|_|j<;>simp[Rec.l,Rec.zero]at e1 e2<;>subst e1<;>subst e2<;>first|exact .refl _|exact .nil _
def ag1(B:ab)(m k:Int):∃r,aU B (.aL [zR,I m,I k])=some r/\bA r (.aL [Rec.zero.d,I m,I k]):=⟨.aL [zR,I m,I k],rfl,rX Pd (.refl _) (.refl _)⟩
abbrev RdJ(s:ae)(n:Nat)(β:ab):Prop:=∃y,kZ par ((i_ s).take n) 0 Rd.zero= .ok y/\(∃w nl,qh β 1 y w nl/\yP w y.row y.part)/\β 1002=⟨1,1,16,36,[zR]⟩/\β 1003=⟨1,1,1,3,[I 0]⟩/\β 1004=⟨1,1,1,39,[I 0]⟩
theorem qh.cut{B:ab}{e:Nat}{x:Rd}{w:ae}{n:NL}{k:Nat}(h:qh B e x w n)(hk:1005<k):qh (bg k B) e x w n:=h.of (iD oM) fun q q1 q2=>iD oM
theorem qh.HU{B:ab}{e:Nat}{x:Rd}{w:ae}{n:NL}{k:Nat}(h:qh (bg k B) e x w n)(hk:1005<k):qh B e x w n:=h.of (iD oM).symm fun q q1 q2=>(iD oM).symm
def Oz(s:ae)(hs:s.length<=536870912):az prog 9 1000 [.str s] (fun _=> .none) (fun d bx'=>∃r,aU bx' d=some r/\bA r (.aL [(bO s).1.d,I (bO s).2.1,I (bO s).2.2])) fun _ _=>False:=by
 have bZ:=K0 par bQ s;change bO s=_ at bZ;generalize bO s=R at *;have BH:=AK _ s (aaN _);refine fB 29 1000 f9 [(4000009,[(0,2000000254),(0,2000000241)]),(11,[(3,2),(3,1)])] [.cell 2 36,.cell 3 3,.cell 4 39] ?_;refine zW ?_;intros;refine ao (Tj s 1008 _) rfl fun d B1 hq=>?_;obtain⟨rfl,rfl⟩:=hq;refine zW ?_;intros;refine fresh (fun σ B=>σ 2= .loc 1002 1 0 0/\σ 3= .loc 1003 1 0 0/\σ 4= .loc 1004 1 0 0/\σ 5= .loc 1005 1 0 0/\σ 0= .str s/\σ 9= .fn (.func 55) [.loc 1009 1 0 0]/\B 1002=⟨1,1,16,36,[zR]⟩/\B 1003=⟨1,1,1,3,[I 0]⟩/\B 1004=⟨1,1,1,39,[I 0]⟩/\B 1009=⟨1,1,1,9,[.str s]⟩/\qh B 1 Rd.zero [] ⟨.ak,.ak,.ak,.ak,.ak,.ak,.ak,.ak,.ak⟩) ⟨sG,sG,sG,sG,sG,sG,avv,avv,avv,avv,acN _ _ (by simp[ah,Bx.none,Rec.zero]) avv avv⟩ ?_;rintro σ B ⟨s2,s3,s4,s5,s0,s9,b2,b3,b4,b9,hR⟩;refine JC 55 1009 1 ⟨1,1,1,9,[.str s]⟩ (AP s) none 44 (RdJ s) (by simp[go_sem,s9]) awL (by simp[b9]) (PD s oM 1) ?_ ?_ ?_
 ·exact⟨Rd.zero,rfl,⟨[],_,hR.of (by simp[bg,ah]) (fun q q1 q2=>by rw[iD oM,al oM]),last_zero⟩,by simp[bg,ah,b2],by simp[bg,ah,b3],by simp[bg,ah,b4]⟩
 ·rintro n it bx1 hi ⟨y,hy,⟨w,nl,hc,hw⟩,c2,c3,c4⟩;obtain⟨x,hx,rfl⟩:=acx hi;replace hc:=hc.HU awL;rw[iD awL]at c2 c3 c4;have rF:=IV (aat hx);have bz:=ags hy;rw[afd]at bz;have hn:=(aaL.1 hx).1;have rD:kZ par ((i_ s).take (n+1)) 0 Rd.zero=match pZ par y x with
   |none=> .error (n+1)
   |some z=> .ok z:=by
   rw[ae2,hx,akS,OE,hy];simp only[kZ,afd,aks (ak_ hn),aeC]
   exact awN
  refine⟨rfl,?_⟩;replace hc:Hid _:=hc;replace hy:Hid _:=hy;replace rD:Hid _:=rD;replace bZ:Hid _:=bZ;clear hi hR b2 b3 b4 b9;refine zW ?_;intros;refine ao (afJ 1 _ y w nl x hc.out hw oM oM) rfl (fun d B2 hq=>?_);have hF:∀B2,L1 B2 bx1->∀q,1029<=q->q<1073->B2 q=bx1 q:=fun B2 h q q1 q2=>h q oM (.inr oM);rcases hq with⟨y',nl',w',ha,rfl,qt,nG,hf⟩|⟨ha,rfl,hf⟩
  ·have h2:=(hf 1002 awL (.inr awL)).trans c2;have h3:=(hf 1003 awL (.inr awL)).trans c3;have h4:=(hf 1004 awL (.inr awL)).trans c4;replace qt:Hid _:=qt;replace ha:Hid _:=ha;replace nG:Hid _:=nG;clear hw;refine zW ?_;intros;exact⟨hF _ hf,y',rD.out.trans (by rw[ha.out]),⟨w',nl',qt.out.cut awL,nG.out⟩,(iD awL).trans h2,(iD awL).trans h3,(iD awL).trans h4⟩
  ·have h2:=(hf 1002 awL (.inr awL)).trans c2;have h3:=(hf 1003 awL (.inr awL)).trans c3;have h4:=(hf 1004 awL (.inr awL)).trans c4;replace ha:Hid _:=ha;clear hw;refine zW ?_;intros;refine⟨fun q q1 q2=>?_,fun aT hc=>?_⟩
   ·exact awN
   ·have k2:=F_ hc (s:=1002) awL;have k3:=F_ hc (s:=1003) awL;have k4:=F_ hc (s:=1004) awL;simp only[ah,Nat.reduceEqDiff,abo,aa_]at k2 k3 k4;have hR:R=(Rec.zero,((n+1:Nat):Int),590):=by
     have h:=OE ((i_ s).take (n+1)) ((i_ s).drop (n+1)) 0 Rd.zero;rw[aeZ,rD.out,ha.out]at h;have h5:=bZ.out
     exact awN
    subst hR;clear hc;refine zW ?_;intros;exact ag1 aT _ _
 ·rintro bx1 ⟨y,hy,⟨w,nl,hc,hw⟩,c2,c3,c4⟩;replace hc:=hc.HU awL;rw[iD awL]at c2 c3 c4;rw[show(AP s).length=(i_ s).length by simp[AP],aaP]at hy;rw[hy]at bZ;simp only at bZ;simp only[C_];have bm:=Fv hy oM (fun x hx=>by have:=IV hx;omega);clear hR b2 b3 b4 b9 hy hw;by_cases h0:s=[]
  ·rw[aaO h0]at bZ;subst bZ;refine zW ?_;exact arS
  ·rw[aaw h0]at bZ;obtain⟨M,M',l,l',hm1,xT,hk,hv,he,mG,nF⟩:=P5 hc.b.v;have xb:∀σ':Env,(if(bx1 254).k=1 then Option.map (fun es=>(σ',Go.V.dO bx1 254 es)) (cE bx1 (bx1 254).es)else some (σ',bx1))=some (σ',M):=fun σ'=>awN
   have GG:∀σ':Env,(if(M 241).k=1 then Option.map (fun es=>(σ',Go.V.dO M 241 es)) (cE M (M 241).es)else some (σ',M))=some (σ',M'):=fun σ'=>awN
   have hb:=(hk 1005 awL).trans hc.b.b;have d2:=(hk 1002 awL).trans c2;have d3:=(hk 1003 awL).trans c3;have d4:=(hk 1004 awL).trans c4;have fin:∀B':ab,(∀q,q<1000->B' q=M' q)->∃r,aU B' (.agg [I y.r.s.sources,I y.r.s.langs,I y.r.s.chunk,I y.r.s.quiet,I y.r.s.late,I y.r.s.gap,I y.r.s.most,nl.g,nl.t,nl.h,nl.b,nl.r,nl.v,nl.s,nl.e,nl.x])=some r/\bA r y.r.d:=fun B' hB=>
    agj (hc.b.l.of fun q hq=>(hB q avt).trans (hk q avs)) ((pY.w hv).of fun t ht=>hB t awN) (dS.of ⟨l',he,mG,nF⟩ fun t ht=>hB t awN)
   have fQ:=hc.b.nX;have key:Ct 11 [y.r.d] (St.iU y.r.s) (I (bQ y.r)):=inferInstance;obtain⟨r,ho,Ey⟩:=fin M' fun _ _=>rfl;have ain:=av.aby (key.h bm) Ey;clear key bm Ey hc hm1 xT he mG nF hv hk c2 c3 c4;unfold jk at fQ;obtain⟨⟨e1,o1,_⟩,⟨e2,o2,_⟩,⟨e3,o3,_⟩,⟨e4,o4,_⟩,⟨e5,o5,_⟩,⟨e6,o6,_⟩,⟨e7,o7,_⟩,⟨e8,o8,_⟩,⟨e9,o9,_⟩⟩:=fQ;replace fin:Hid _:=fin;generalize xW:bQ y.r=rl at *;refine zW ?_;intros;refine lx ain (by rw[dh,ho];rfl) rfl ?_;by_cases hz:rl=0
   ·subst hz;rw[aaw sI]at bZ;subst bZ;refine zW ?_;intros;generalize hB:ah (ah (ah (ah M' 1004 _) 1002 _) 1003 _) 1004 _=B';obtain⟨r2,h1,h2⟩:=fin.out B' fun q hq=>by rw[<-hB,al oM,al oM,al oM,al oM]
    simp only[go_sem]at h1;exact⟨.aL [r2,I 0,I 0],by rw[h1];rfl,rX h2 (.refl _) (.refl _)⟩
   ·rw[aaO hz]at bZ;subst bZ;refine zW ?_;exact arS
instance(s:ae):Ct 9 [.str s] (s.length<=536870912) (.aL [(bO s).1.d,I (bO s).2.1,I (bO s).2.2]):=⟨fun h=>(Oz s h).to (fun _ _ h=>h) fun d' bx' h=>h⟩
end Go.V.Rp
