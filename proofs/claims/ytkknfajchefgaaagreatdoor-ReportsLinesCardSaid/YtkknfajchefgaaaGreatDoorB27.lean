/- Lemmas on plain data and programs: part B27. -/
import Derived.Test.YtkknfajchefgaaaGreatDoorB26
set_option linter.all false
set_option maxHeartbeats 8000000
set_option maxRecDepth 100000
namespace Go.V.Gr
open Go.Proofs Go.Proofs.Tryz Go.RowKit Go.V.Lx
variable {bx:ab} {l:List Tk} {n e:Nat} {g:G6}
def ca(m:Nat)(bx bx':ab):Prop:=∀q,q≠14->q<m->bx' q=bx q
def JJ(e n:Nat)(g:G6)(bx0:ab)(m:Nat)(bx:ab)(l:List Tk):Prop:=cS bx e l n g/\l.length<=1000000/\ca m bx0 bx
def P4{α:Type}(p:Rd α)(enc:α->D)(e n:Nat)(g:G6)(m:Nat)(bx:ab)(l:List Tk):D->ab->Prop:=fun d bx'=>∃a r,p l= .ok (a,r)/\(∃x,aU bx' d=some x/\bA x (enc a))/\cS (aS bx' [d]) e r n g/\ca m bx (aS bx' [d])
def FR{α:Type}(p:Rd α)(n m:Nat)(bx:ab)(l:List Tk):D->ab->Prop:=fun d bx'=>∃r,p l= .error r/\d=sV n r/\ca m bx bx'
theorem JJ.D4{bx0:ab}{m s:Nat}(h:m<=s)(h':s≠14):DD (JJ e n g bx0 m) s 1000000:=
 ⟨fun bx bx' l hj hq=>⟨(hq 14 (Ne.symm h')).trans hj.1,hj.2.1,fun q h1 h2=>(hq q oM).trans (hj.2.2 q h1 h2)⟩,fun bx l hj=>hj.2.1⟩
theorem JJ.tok{bx0:ab}{m:Nat}(bx:ab)(l:List Tk)(h:JJ e n g bx0 m bx l):uo bx=l.length:=adg h.1
def tS{α:Type}{p:Rd α}{enc:α->D}{bx0:ab}{m M s:Nat}{f:FuncId}{cs:List D}(hf:jU p)(hm:m<=M)(hs:s<M)(dq:s≠14)
 (h:∀bx l,JJ e n g bx0 m bx l->az prog f 0 cs bx (P4 p enc e n g M bx l) (FR p n M bx l)):DA (JJ e n g bx0 m) (ca m bx0) s n f cs p enc:=by
 intro bx l hj;refine(h bx l hj).mono ?_ ?_
 ·rintro d bx' ⟨a,r,h1,h2,h3,h4⟩;exact⟨a,r,h1,h2,⟨h3,adz (hf.len h1) hj.2.1,fun q q1 q2=>(h4 q q1 oM).trans (hj.2.2 q q1 q2)⟩,h4 s dq hs⟩
 ·rintro d bx' ⟨r,h1,h2,h4⟩;exact⟨r,h1,h2,fun q q1 q2=>(h4 q q1 oM).trans (hj.2.2 q q1 q2)⟩
theorem FT.pT{α:Type}{p:Rd α}{enc:α->D}{d:D}{bx':ab}(m:Nat)(hp:∀a,aU bx' (enc a)=some (enc a)/\aS bx' [enc a]=bx')(h:FT p enc e n g bx l d bx'):P4 p enc e n g m bx l d bx':=by
 obtain⟨a,r,h1,rfl,h2,h3⟩:=h;exact⟨a,r,h1,⟨_,(hp a).1,.refl _⟩,awN,by rw[(hp a).2];exact fun q h1 _=>h3 q h1⟩
theorem FQ.pT{α:Type}{p:Rd α}{d:D}{bx':ab}(m:Nat)(h:FQ p n bx l d bx'):FR p n m bx l d bx':=by
 obtain⟨r,h1,h2,h3⟩:=h;exact⟨r,h1,h2,fun q h1 _=>h3 q h1⟩
def KR(bx:ab)(a:ae):aU bx (.str a)=some (.str a)/\aS bx [.str a]=bx:=by intros;grind [aU,aS,cK]
def Hm(bx:ab)(a:Part):aU bx a.d=some a.d/\aS bx [a.d]=bx:=by intros;simp_all[Part.d,aU,cE,jZ,aS,cK]
def Hl(bx:ab)(a:bt):aU bx a.d=some a.d/\aS bx [a.d]=bx:=by intros;simp_all[bt.d,aU,cE,jZ,aS,cK]
def wE{bx0:ab}{m:Nat}{f:FuncId}{cs:List D}{more:List Tk->Bool}(h:∀bx l,JJ e n g bx0 m bx l->az prog f 0 cs bx (fun d bx'=>d= .bool (more l)/\bx'=bx) (fun _ _=>False)):DC (JJ e n g bx0 m) f cs more:=h
def WH(b:Nat)(gN:14<b)(hl:l.length<=140737488355328)(hb:cS bx e l n g):az prog 217 0 [.loc 14 e 0 0] bx (P4 mn Part.d e n g b bx l) (FR mn n b bx l):=by
 refine fB 11 b f217 [] [.cell 2 161] ?_;have bh:(14:Nat)≠b+2:=oM;have oe:∀v,cS (ah bx (b+2) v) e l n g:=fun v=>by grind [cS,ah]
 simp(disch:=omega) only[go_sem];refine ao (IK [58] hl (oe _)) rfl ?_;rintro d bx1 ⟨rfl,YX⟩;have q0:bx1 (b+2)=⟨(bx (b+2)).ep+1,1,3,161,[(Part.mk [] 0 []).d]⟩:=by simp_all[ah,Part.d]
 have qs:∀q,q≠b+2->bx1 q=bx q:=fun q h=>by simp_all[ah]
 have Nl:cS bx1 e l n g:=awN
 clear YX;simp(disch:=omega) only[go_sem];refine aO (fun h1=>?_) (fun h1=>?_)
 ·simp(disch:=omega) only[go_sem];refine bj (qz [58] hl Nl) rfl (fun d aT hp=>?_) (fun d aT hp=>?_)
  ·obtain⟨a,r,k1,rfl,k2,k3⟩:=hp;have q2:=(k3 (b+2) (Ne.symm bh)).trans q0;simp(disch:=omega) only[go_sem,q2,Part.d];refine⟨Part.mk [] 0 a,r,?_,?_,?_,?_⟩
   ·simp_all[mn,Rd.bind,Rd.pure]
   ·exact⟨_,(Hm _ (Part.mk [] 0 a)).1,.refl _⟩
   ·simp_all[aS,cK,cS,ah]
   ·exact aq4
  ·obtain⟨r,k1,rfl,k3⟩:=hp;simp(disch:=omega) only[go_sem];refine⟨r,?_,rfl,fun q h2 h3=>?_⟩
   ·simp_all[mn,Rd.bind]
   ·exact arI
 ·simp(disch:=omega) only[go_sem];refine bj (FY hl Nl) rfl (fun d aT hp=>?_) (fun d aT hp=>?_)
  ·obtain⟨a,r,k1,rfl,k2,k3⟩:=hp;have q2:=(k3 (b+2) (Ne.symm bh)).trans q0;simp(disch:=omega) only[go_sem,q2,Part.d];refine⟨Part.mk a 0 [],r,?_,?_,?_,?_⟩
   ·simp_all[mn,Rd.bind,Rd.pure]
   ·exact⟨_,(Hm _ (Part.mk a 0 [])).1,.refl _⟩
   ·simp_all[aS,cK,cS,ah]
   ·exact aq4
  ·obtain⟨r,k1,rfl,k3⟩:=hp;simp(disch:=omega) only[go_sem];refine⟨r,?_,rfl,fun q h2 h3=>?_⟩
   ·simp_all[mn,Rd.bind]
   ·exact arI
def U9(b:Nat)(gN:14<b)(hl:l.length<=140737488355328)(hb:cS bx e l n g):az prog 221 0 [.loc 14 e 0 0] bx (P4 mi bt.d e n g b bx l) (FR mi n b bx l):=by
 refine fB 11 b f221 [] [.cell 2 210] ?_;have bh:(14:Nat)≠b+2:=oM;have oe:∀v,cS (ah bx (b+2) v) e l n g:=fun v=>by grind [cS,ah]
 simp(disch:=omega) only[go_sem];refine ao (IK [58] hl (oe _)) rfl ?_;rintro d bx1 ⟨rfl,YX⟩;have q0:bx1 (b+2)=⟨(bx (b+2)).ep+1,1,2,210,[(bt.mk 0 []).d]⟩:=by simp_all[ah,bt.d]
 have qs:∀q,q≠b+2->bx1 q=bx q:=fun q h=>by simp_all[ah]
 have Nl:cS bx1 e l n g:=awN
 clear YX;simp(disch:=omega) only[go_sem];refine aO (fun h1=>?_) (fun h1=>?_)
 ·simp(disch:=omega) only[go_sem];refine bj (qz [58] hl Nl) rfl (fun d aT hp=>?_) (fun d aT hp=>?_)
  ·obtain⟨a,r,k1,rfl,k2,k3⟩:=hp;have q2:=(k3 (b+2) (Ne.symm bh)).trans q0;simp(disch:=omega) only[go_sem,q2,bt.d];refine⟨bt.mk 0 a,r,?_,?_,?_,?_⟩
   ·simp_all[mi,Rd.bind,Rd.pure]
   ·exact⟨_,(Hl _ (bt.mk 0 a)).1,.refl _⟩
   ·simp_all[aS,cK,cS,ah]
   ·exact aq4
  ·obtain⟨r,k1,rfl,k3⟩:=hp;simp(disch:=omega) only[go_sem];refine⟨r,?_,rfl,fun q h2 h3=>?_⟩
   ·simp_all[mi,Rd.bind]
   ·exact arI
 ·simp(disch:=omega) only[go_sem];refine bj (N8 hl Nl) rfl (fun d aT hp=>?_) (fun d aT hp=>?_)
  ·obtain⟨a,r,k1,rfl,k2,k3⟩:=hp;have q2:=(k3 (b+2) (Ne.symm bh)).trans q0;simp(disch:=omega) only[go_sem,q2,bt.d];refine⟨bt.mk a [],r,?_,?_,?_,?_⟩
   ·simp_all[mi,Rd.bind,Rd.pure]
   ·exact⟨_,(Hl _ (bt.mk a [])).1,.refl _⟩
   ·simp_all[aS,cK,cS,ah]
   ·exact aq4
  ·obtain⟨r,k1,rfl,k3⟩:=hp;simp(disch:=omega) only[go_sem];refine⟨r,?_,rfl,fun q h2 h3=>?_⟩
   ·simp_all[mi,Rd.bind]
   ·exact arI
theorem iW.am2{α:Type}{p:Rd α}(_:iW p)(h:jU p):jU p:=h
theorem N4{α:Type}{more:List Tk->Bool}{item:Rd α}(he:iW item):∀(k:Nat) (l:List Tk) (xs:List α) (r:List Tk),many more item k l= .ok (xs,r)->xs.length+r.length<=l.length
 |0,l,xs,r,h=>auS
 |k+1,l,xs,r,h=>by
  simp only[many]at h;split at h
  ·obtain⟨a,r1,h1,h2⟩:=cj h;obtain⟨ys,r2,h3,h4⟩:=cj h2;simp only[Rd.pure]at h4;injection h4 with h4;injection h4 with g1 g2;subst g1;subst g2;have:=N4 he k r1 ys _ h3;have:=he _ _ _ h1
   exact awN
  exact awN
def Bi{α:Type}{more:List Tk->Bool}{item:Rd α}(he:iW item){l r:List Tk}{xs:List α}(h:cb more item l= .ok (xs,r)):xs.length+r.length<=l.length:=N4 he _ _ _ _ h
def Ad{lo:Nat}{T:TypeId->TI}{e esz b size d:Nat}{ag jV:Bool}{z:List D}{x:D}{xs ys:List D}{ts:List Nat}{K2:D×ab->Prop}(hx:aP bx ts e esz x xs)(hz:(T e).zero.length=esz)
 (h1:(xs.length+ys.length) * b<=140737488355328) (h2:0<esz) (h3:0<b) (bC:∀t,t∈ts->lo<=t)
 (hk:∀x' bx',aP bx' (d::ts) e esz x' (xs++ys)->(∀s,s≠d->s∉ts->bx' s=bx s)->K2 (x',bx')):
 aJ (jC lo T ⟨.slice e esz b ag,size,jV,z⟩ (some d) bx x ys) K2:=by
 by_cases hy:ys=[]
 ·subst hy;refine nJ hx (hk _ _ ?_ fun _ _ _=>rfl);rw[aez];rcases hx with h|⟨t,e',ht,h⟩
  ·exact .inl h
  ·exact .inr ⟨t,e',aa2 _ ht,h⟩
 grind [il,aP.mk]
theorem iZ{ts:List Nat}{el esz:Nat}{x:D}{xs:List D}(h:aP bx ts el esz x xs)(q:Nat)(hq:q∉ts):cK bx x q=bx q:=by
 rcases h with⟨rfl,_⟩|⟨t,k,ht,rfl,_⟩
 ·rfl
 ·have:q≠t:=fun e=>hq (e▸ht);simp[cK,ah,this]
def tN(d:D):aS bx [d]=cK bx d:=by simp[aS]
def Lk{a b c d f a' b' c' d' f':D}(h1:bA a a')(h2:bA b b')(h3:bA c c')(h4:bA d d')(h5:bA f f'):bA (.agg [a,b,c,d,f]) (.agg [a',b',c',d',f']):=by
 refine .agg rfl fun i x x' hx jc=>?_
 exact awN
def abR(hl:l.length<=1000000)(hb:cS bx e l n g):az prog 163 0 [.loc 14 e 0 0] bx (P4 fG Entry.d e n g 160 bx l) (FR fG n 160 bx l):=by
 refine fB 25 160 f163 [(2000001,[]),(2000003,[]),(1000011,[]),(1,[(6,5)]),(3,[(7,5),(7,3)])] [.cell 2 152] ?_;have mD:bx 14=_:=hb;simp(disch:=omega) only[go_sem];refine gU (.load 0 1 (.load 2 1 (.both 1 [1] (.aD 4 (.both 3 [] (.both 5 [] (.aD 6 (.both 7 [] .fin .stop)) .stop) .stop)) .stop))) ar ?_;simp(disch:=omega) only[go_sem];generalize(bx 161).ep+1=k1;generalize(ah bx 161 ⟨k1,1,1,217,[.loc 14 e 0 0]⟩ 162).ep+1=k2;refine bj (qz (l:=l) (n:=n) (g:=g) gL oM (by simp[cS,ah,mD])) rfl (fun d bx1 hp=>?_) (fun d bx1 hp=>?_)
 rotate_left
 ·obtain⟨r,h1,rfl,h3⟩:=hp;simp(disch:=omega) only[go_sem];exact fun _=>⟨r,by simp only[fG,Rd.bind,h1],rfl,fun q q1 q2=>by rw[h3 q q1];grind [al]⟩
 obtain⟨a1,r1,h1,rfl,p1,f1⟩:=hp;have l1:=(gm gL) _ _ _ h1;have q1:bx1 161=⟨k1,1,1,217,[.loc 14 e 0 0]⟩:=(f1 161 awL).trans awx;have q2:bx1 162=⟨k2,1,5,152,[.agg [.str [],.str [],.int .i64 0,.ak,.int .i64 0]]⟩:=(f1 162 awL).trans awx;have M6:ca 160 bx bx1:=fun q q1 q2=>by rw[f1 q q1];grind [al]
 simp(disch:=omega) only[go_sem,q1,q2];refine bj (qz (n:=n) (g:=g) EL oM p1) rfl (fun d aT hp=>?_) (fun d aT hp=>?_)
 rotate_left
 ·obtain⟨r,h2,rfl,h3⟩:=hp;simp(disch:=omega) only[go_sem];exact fun _=>⟨r,au4,rfl,fun q q1 q2=>(h3 q q1).trans (M6 q q1 q2)⟩
 obtain⟨a2,r2,h2,rfl,p2,f2⟩:=hp;have l2:=(gm EL) _ _ _ h2;replace q1:=(f2 161 awL).trans q1;replace q2:=(f2 162 awL).trans q2;have Gq:ca 160 bx aT:=fun q q1 q2=>(f2 q q1).trans (M6 q q1 q2);have p2':aT 14=_:=p2;clear f1 f2 M6 p1;simp(disch:=omega) only[go_sem,q1,q2];refine bj (qz (l:=r2) (n:=n) (g:=g) iC oM (by simp[cS,ah,p2'])) rfl (fun d jD hp=>?_) (fun d jD hp=>?_)
 rotate_left
 ·obtain⟨r,h3,rfl,f3⟩:=hp;simp(disch:=omega) only[go_sem];exact⟨r,au4,rfl,fun q q1 q2=>by
   rw[f3 q q1];simp(disch:=omega) only[al];exact Gq q q1 q2⟩
 obtain⟨a3,r3,h3,rfl,p3,f3⟩:=hp;have l3:=(gm iC) _ _ _ h3;replace q1:jD 161=⟨k1,1,1,217,[.loc 14 e 0 0]⟩:=(f3 161 awL).trans awb;replace q2:jD 162=⟨k2,1,5,152,[.agg [.str a1,.str a2,.int .i64 0,.ak,.int .i64 0]]⟩:=(f3 162 awL).trans awx;have J0:ca 160 bx jD:=fun q q1 q2=>by
  rw[f3 q q1];simp(disch:=omega) only[al];exact Gq q q1 q2
 have p3':jD 14=_:=p3;clear f3 Gq p2 p2';simp(disch:=omega) only[go_sem,q1,q2];refine gU (.aD 0 (.load 1 2 (.load 2 1 (.aD 4 (.both 3 [2] (.both 5 [2] (.both 6 [] (.aD 7 (.both 8 [] .fin .stop)) .stop) .stop) .stop))))) ar ?_;simp(disch:=omega) only[go_sem,q1,q2];generalize(jD 171).ep+1=k3;refine ao (Ag (bx:=_) (e:=e) 190 [44]) rfl ?_;rintro d jE ⟨k4,k5,rfl,b1,b2,b3⟩;have q3:jE 171=⟨k3,1,1,9,[.str a3]⟩:=(b3 171 awL awL).trans awx;replace q1:jE 161=⟨k1,1,1,217,[.loc 14 e 0 0]⟩:=(b3 161 awL awL).trans awb;replace q2:jE 162=⟨k2,1,5,152,[.agg [.str a1,.str a2,.int .i64 0,.ba 171 k3 1 0 1,.int .i64 0]]⟩:=(b3 162 awL awL).trans awx;have p4:cS jE e r3 n g:=(b3 14 awL awL).trans (by simp[ah,p3']);have qn:ca 160 bx jE:=fun q q1 q2=>by
  rw[b3 q oM oM];simp(disch:=omega) only[al];exact J0 q q1 q2
 clear b3 J0 p3 p3';have KX:=q2;simp(disch:=omega) only[go_sem,q1,q2];have gN:∀(b':ab) (m:Nat) (l':List Tk),JJ e n g jE 200 b' l'->Ptr b' 192 k4 e/\L3 b' 193 k5 [44]/\Ptr b' 161 k1 e:=fun b' m l' hj=>⟨(hj.2.2 192 awL awL).trans b1,(hj.2.2 193 awL awL).trans b2,(hj.2.2 161 awL awL).trans q1⟩
 refine f_ (Lb 200 (J:=JJ e n g jE 200) (Z:=ca 200 jE) (more:=eY [44]) (item:=gq [44]) (n:=n) (JJ.D4 awL awL)
  (wE fun b' l' hj=>xL 192 193 k4 k5 [44] avj hj.1 (gN b' 0 l' hj).1 (gN b' 0 l' hj).2.1)
  (tS (M:=212) ((gm [44]).am2 (gP [44])) awL awL awL fun b' l' hj=>(Yr 161 k1 avj hj.1 (gN b' 0 l' hj).2.2).mono (fun d bx' h=>h.pT 212 fun a=>KR _ _) (fun d bx' h=>h.pT 212))
  JJ.tok (gm [44]) rfl (fun _ _ _ h=>h) (fun _ _ _ h=>h) (l:=r3) ⟨p4,oM,fun _ _ _=>rfl⟩) rfl (fun d fc hp=>?_) (fun d fc hp=>?_)
 rotate_left
 ·obtain⟨r,h4,rfl,f5⟩:=hp;simp(disch:=omega) only[go_sem];exact fun _=>⟨r,au4,rfl,fun q q1 q2=>(f5 q q1 oM).trans (qn q q1 q2)⟩
 obtain⟨xs,r4,h4,hv,p5,_,f5⟩:=hp;obtain⟨y,hy,hw⟩:=hv.out (ji xs);refine⟨y,_,hy,hw,?_⟩;have hz:∀q,q≠211->aS fc [d] q=fc q:=fun q hq=>avo
 have l4:=(lT (more:=eY [44]) (gP [44])).len h4;have rF:xs.length<=1000000:=by
  have:=Bi (gm [44]) h4;exact oM
 replace q1:aS fc [d] 161=_:=((hz 161 awL).trans (f5 161 awL awL)).trans q1;replace q2:aS fc [d] 162=_:=((hz 162 awL).trans (f5 162 awL awL)).trans q2;replace q3:aS fc [d] 171=_:=((hz 171 awL).trans (f5 171 awL awL)).trans q3;replace p5:cS (aS fc [d]) e r4 n g:=(hz 14 awL).trans p5;have wV:ca 160 bx (aS fc [d]):=fun q q1 q2=>((hz q oM).trans (f5 q q1 oM)).trans (qn q q1 q2);clear hz f5 hv hy hw qn b1 b2 gN p4;generalize aS fc [d]=B_ at *;simp(disch:=omega) only[go_sem,q1,q2,KX];refine Ad (ts:=[171]) (xs:=[.str a3]) (show aP B_ [171] 9 1 (.ba 171 k3 1 0 1) [.str a3]from aP.mk sI q3) sG ?_ oM oM sI (fun x' pJ hv hf=>?_)
 ·exact awN
 replace q1:pJ 161=_:=(hf 161 awL awL).trans q1;replace q2:pJ 162=_:=(hf 162 awL awL).trans q2;have p7:pJ 14=_:=(hf 14 awL awL).trans p5;have xO:ca 160 bx pJ:=fun q q1 q2=>(hf q oM awe).trans (wV q q1 q2);obtain⟨v1,v2,v3⟩:=hv.facts;clear hf wV p5 q3 KX;simp(disch:=omega) only[go_sem,q1,q2,v1,v2,v3];refine bj (UP (l:=r4) (n:=n) (g:=g) oM avS) rfl (fun d mu hp=>?_) (fun d mu hp=>?_)
 rotate_left
 ·obtain⟨r,h5,rfl,f8⟩:=hp;simp(disch:=omega) only[go_sem];exact⟨r,au4,rfl,fun q q1 q2=>by
   rw[f8 q q1];simp(disch:=omega) only[al];exact xO q q1 q2⟩
 obtain⟨c,r5,h5,rfl,p8,f8⟩:=hp;replace q1:mu 161=⟨k1,1,1,217,[.loc 14 e 0 0]⟩:=(f8 161 awL).trans awb;replace q2:mu 162=⟨k2,1,5,152,[.agg [.str a1,.str a2,.int .i64 0,x',.int .i64 0]]⟩:=(f8 162 awL).trans awx;have ND:aP mu [179,171] 9 1 x' ((a3::xs).map D.str):=(show aP pJ [179,171] _ 1 x' ((a3::xs).map D.str)from hv).of fun q hq=>by
  have:q≠14/\q≠162:=awN
  exact auv
 have M7:ca 160 bx mu:=fun q q1 q2=>by
  exact ark
 have p8':mu 14=_:=p8;clear f8 hv xO p7;simp(disch:=omega) only[go_sem,q1,q2,v1,v2,v3];have hv9:∀v,aP (ah (ah mu 162 v) 162 v) [179,171] 9 1 x' ((a3::xs).map D.str):=fun v=>ND.of fun q hq=>awg
 obtain⟨y,hy,hw⟩:=(hv9 ⟨k2,1,5,152,[.agg [.str a1,.str a2,.int .i64 0,x',.int .i64 c]]⟩).out (ji _);have hz:∀q,q≠179->q≠171->∀v,cK (ah (ah mu 162 v) 162 v) x' q=ah (ah mu 162 v) 162 v q:=fun q q1 q2 v=>iZ (hv9 v) q awN;refine⟨⟨a1,a2,0,a3::xs,c⟩,r5,?_,⟨.agg [.str a1,.str a2,.int .i64 0,y,.int .i64 c],?_,Lk (.refl _) (.refl _) (.refl _) hw (.refl _)⟩,?_,fun q q1 q2=>?_⟩
 ·simp_all[fG,Rd.bind,Rd.pure]
 ·simp_all[aU,cE,jZ]
 ·have e1:=hz 14 awL awL ⟨k2,1,5,152,[.agg [.str a1,.str a2,.int .i64 0,x',.int .i64 c]]⟩;simp only[aS,cK,cS];rw[e1];simp[ah,p8']
 ·have e1:=hz q oM oM ⟨k2,1,5,152,[.agg [.str a1,.str a2,.int .i64 0,x',.int .i64 c]]⟩;simp only[aS,cK];rw[e1];simp(disch:=omega) only[al];exact M7 q q1 q2
end Go.V.Gr
namespace Go.V.Gr
open Go.Proofs Go.Proofs.Tryz Go.RowKit Go.V.Lx
variable {bx:ab} {l:List Tk} {n e:Nat} {g:G6}
def agp(hl:l.length<=1000000)(hb:cS bx e l n g):az prog 165 0 [.loc 14 e 0 0] bx (P4 gI aF.d e n g 250 bx l) (FR gI n 250 bx l):=by
 refine fB 38 250 f165 [(2000004,[]),(2000007,[]),(1000010,[]),(1000024,[]),(4,[(7,3)]),(7,[(7,3)])] [.cell 2 157] ?_;have mD:bx 14=_:=hb;simp(disch:=omega) only[go_sem];generalize(bx 251).ep+1=k1;generalize(ah bx 251 ⟨k1,1,1,217,[.loc 14 e 0 0]⟩ 252).ep+1=k2;refine bj (qz (l:=l) (n:=n) (g:=g) gJ oM (by simp[cS,ah,mD])) rfl (fun d bx1 hp=>?_) (fun d bx1 hp=>?_)
 rotate_left
 ·obtain⟨r,h1,rfl,h3⟩:=hp;simp(disch:=omega) only[go_sem];exact⟨r,by simp only[gI,Rd.bind,h1],rfl,fun q q1 q2=>by rw[h3 q q1];grind [al]⟩
 obtain⟨a1,r1,h1,rfl,p1,f1⟩:=hp;have l1:=(gm gJ) _ _ _ h1;have q1:bx1 251=⟨k1,1,1,217,[.loc 14 e 0 0]⟩:=(f1 251 awL).trans awx;have q2:bx1 252=⟨k2,1,5,157,[.agg [.str [],.int .i64 0,.ak,.ak,.int .i64 0]]⟩:=(f1 252 awL).trans awx;have M6:ca 250 bx bx1:=fun q q1 q2=>by rw[f1 q q1];grind [al]
 have p1':bx1 14=_:=p1;clear f1 p1;simp(disch:=omega) only[go_sem,q1,q2];refine bj (vo (l:=r1) (n:=n) (g:=g) [61] oM (by simp[cS,ah,p1'])) rfl (fun d aT hp=>?_) (fun d aT hp=>?_)
 rotate_left
 ·obtain⟨r,h2,rfl,h3⟩:=hp;simp(disch:=omega) only[go_sem];exact⟨r,auZ,rfl,fun q q1 q2=>by
   rw[h3 q q1];simp(disch:=omega) only[al];exact M6 q q1 q2⟩
 obtain⟨_,r2,h2,rfl,p2,f2⟩:=hp;have l2:=uv h2;replace q1:aT 251=⟨k1,1,1,217,[.loc 14 e 0 0]⟩:=(f2 251 awL).trans awb;replace q2:aT 252=⟨k2,1,5,157,[.agg [.str a1,.int .i64 0,.ak,.ak,.int .i64 0]]⟩:=(f2 252 awL).trans awx;have Gq:ca 250 bx aT:=fun q q1 q2=>by
  rw[f2 q q1];simp(disch:=omega) only[al];exact M6 q q1 q2
 clear f2 M6 p1';simp(disch:=omega) only[go_sem,q1,q2];refine f_ (WH 290 awL oM p2) rfl (fun d jD hp=>?_) (fun d jD hp=>?_)
 rotate_left
 ·obtain⟨r,h3,rfl,f3⟩:=hp;simp(disch:=omega) only[go_sem];exact⟨r,auZ,rfl,fun q q1 q2=>(f3 q q1 oM).trans (Gq q q1 q2)⟩
 obtain⟨a3,r3,h3,⟨x,hx,hw⟩,p3,f3⟩:=hp;refine⟨x,_,hx,hw,?_⟩;have l3:=Ce _ _ _ h3;replace q1:aS jD [d] 251=_:=(f3 251 awL awL).trans q1;replace q2:aS jD [d] 252=_:=(f3 252 awL awL).trans q2;have J0:ca 250 bx (aS jD [d]):=fun q q1 q2=>(f3 q q1 oM).trans (Gq q q1 q2);clear f3 Gq p2 hx hw;generalize aS jD [d]=jE at *;have p4:jE 14=_:=p3;simp(disch:=omega) only[go_sem,q1,q2,Part.d];refine gU (.aD 0 (.load 1 2 (.aD 2 (.load 3 1 (.aD 4 (.both 5 [2] (.both 6 [] (.aD 7 (.both 8 [] .fin .stop)) .stop) .stop)))))) ar ?_;generalize(jE 260).ep+1=k3;simp(disch:=omega) only[go_sem,q1,q2];generalize hB:ah (ah jE 260 ⟨k3,1,3,161,[.agg [.str a3.cat,.int .i64 a3.no,.str a3.text]]⟩) 252 ⟨k2,1,5,157,[.agg [.str a1,.int .i64 0,.ba 260 k3 3 0 1,.ak,.int .i64 0]]⟩=B;have q3:B 260=⟨k3,1,3,161,[a3.d]⟩:=by rw[<-hB];simp[ah,Part.d]
 replace q1:B 251=⟨k1,1,1,217,[.loc 14 e 0 0]⟩:=by rw[<-hB];simp[ah,q1]
 replace q2:B 252=⟨k2,1,5,157,[.agg [.str a1,.int .i64 0,.ba 260 k3 3 0 1,.ak,.int .i64 0]]⟩:=avr
 have p5:cS B e r3 n g:=by rw[<-hB];simp[cS,ah,p4]
 have qn:ca 250 bx B:=fun q q1 q2=>by
  exact aru
 clear hB J0 p3 p4;have KX:=q2;have gN:∀(b':ab) (l':List Tk),JJ e n g B 290 b' l'->Ptr b' 251 k1 e:=fun b' l' hj=>(hj.2.2 251 awL awL).trans q1;refine f_ (Xh 300 (J:=JJ e n g B 290) (Z:=ca 290 B) (more:=wm) (item:=mn) (n:=n) (JJ.D4 awL awL)
  (wE fun b' l' hj=>acQ 251 k1 avj hj.1 (gN b' l' hj))
  (tS (M:=320) wX awL awL awL fun b' l' hj=>WH 320 awL avj hj.1)
  JJ.tok Ce rfl (fun _ _ _ h=>h) (fun _ _ _ h=>h) (l:=r3) ⟨p5,oM,fun _ _ _=>rfl⟩) rfl (fun d fc hp=>?_) (fun d fc hp=>?_)
 rotate_left
 ·obtain⟨r,h4,rfl,f5⟩:=hp;exact aql
 obtain⟨xs,r4,h4,hv,p6,_,f5⟩:=hp;obtain⟨y,hy,hw⟩:=hv.out (uL xs);refine⟨y,_,hy,hw,?_⟩;have hz:∀q,q≠311->aS fc [d] q=fc q:=fun q hq=>avo
 have l4:=Bi Ce h4;replace q1:aS fc [d] 251=_:=((hz 251 awL).trans (f5 251 awL awL)).trans q1;replace q2:aS fc [d] 252=_:=((hz 252 awL).trans (f5 252 awL awL)).trans q2;replace q3:aS fc [d] 260=_:=((hz 260 awL).trans (f5 260 awL awL)).trans q3;replace p6:cS (aS fc [d]) e r4 n g:=(hz 14 awL).trans p6;have wV:ca 250 bx (aS fc [d]):=fun q q1 q2=>((hz q oM).trans (f5 q q1 oM)).trans (qn q q1 q2);clear hz f5 hv hy hw qn gN p5;generalize aS fc [d]=B_ at *;simp(disch:=omega) only[go_sem,q1,q2,KX];refine Ad (ts:=[260]) (xs:=[a3.d]) (show aP B_ [260] 161 3 (.ba 260 k3 3 0 1) [a3.d]from aP.mk sI q3) sG ?_ oM oM sI (fun x' pJ hv hf=>?_)
 ·exact awN
 replace q1:pJ 251=_:=(hf 251 awL awL).trans q1;replace q2:pJ 252=_:=(hf 252 awL awL).trans q2;have p7:pJ 14=_:=(hf 14 awL awL).trans p6;have xO:ca 250 bx pJ:=fun q q1 q2=>(hf q oM awe).trans (wV q q1 q2);obtain⟨v1,v2,v3⟩:=hv.facts;clear hf wV p6 q3 KX;simp(disch:=omega) only[go_sem,q1,q2,v1,v2,v3];refine bj (vo (l:=r4) (n:=n) (g:=g) iC oM avS) rfl (fun d mu hp=>?_) (fun d mu hp=>?_)
 rotate_left
 ·obtain⟨r,h5,rfl,f8⟩:=hp;simp(disch:=omega) only[go_sem];exact⟨r,auZ,rfl,fun q q1 q2=>by
   rw[f8 q q1];simp(disch:=omega) only[al];exact xO q q1 q2⟩
 obtain⟨_,r5,h5,rfl,p8,f8⟩:=hp;have l5:=uv h5;replace q1:mu 251=⟨k1,1,1,217,[.loc 14 e 0 0]⟩:=(f8 251 awL).trans awb;replace q2:mu 252=⟨k2,1,5,157,[.agg [.str a1,.int .i64 0,x',.ak,.int .i64 0]]⟩:=(f8 252 awL).trans awx;replace hv:aP mu [268,260] 161 3 x' ((a3::xs).map Part.d):=(show aP pJ [268,260] _ 3 x' ((a3::xs).map Part.d)from hv).of fun q hq=>by
  have:q≠14/\q≠252:=awN
  exact auv
 have M7:ca 250 bx mu:=fun q q1 q2=>by
  exact ark
 clear f8 xO p7;simp(disch:=omega) only[go_sem,q1,q2,v1,v2,v3];refine f_ (U9 330 awL oM p8) rfl (fun d jD hp=>?_) (fun d jD hp=>?_)
 rotate_left
 ·obtain⟨r,h6,rfl,f3⟩:=hp;simp(disch:=omega) only[go_sem];exact⟨r,auZ,rfl,fun q q1 q2=>(f3 q q1 oM).trans (M7 q q1 q2)⟩
 obtain⟨a6,r6,h6,⟨x,hx,hw⟩,p3,f3⟩:=hp;refine⟨x,_,hx,hw,?_⟩;have l6:=Cd _ _ _ h6;replace q1:aS jD [d] 251=_:=(f3 251 awL awL).trans q1;replace q2:aS jD [d] 252=_:=(f3 252 awL awL).trans q2;replace hv:aP (aS jD [d]) [268,260] 161 3 x' ((a3::xs).map Part.d):=hv.of fun q hq=>f3 q awN awN;have J0:ca 250 bx (aS jD [d]):=fun q q1 q2=>(f3 q q1 oM).trans (M7 q q1 q2);clear f3 M7 p8 hx hw;generalize aS jD [d]=jE at *;have p4:jE 14=_:=p3;simp(disch:=omega) only[go_sem,q1,q2,bt.d,v1,v2,v3];refine gU (.aD 0 (.load 1 2 (.aD 2 (.load 3 1 (.aD 4 (.both 5 [2] (.both 6 [] (.aD 7 (.both 8 [] .fin .stop)) .stop) .stop)))))) ar ?_;generalize(jE 274).ep+1=k4;simp(disch:=omega) only[go_sem,q1,q2,v1,v2,v3];generalize hB:ah (ah jE 274 ⟨k4,1,2,210,[.agg [.int .i64 a6.part,.str a6.text]]⟩) 252 ⟨k2,1,5,157,[.agg [.str a1,.int .i64 0,x',.ba 274 k4 2 0 1,.int .i64 0]]⟩=B;have q3:B 274=⟨k4,1,2,210,[a6.d]⟩:=by rw[<-hB];simp[ah,bt.d]
 replace q1:B 251=⟨k1,1,1,217,[.loc 14 e 0 0]⟩:=by rw[<-hB];simp[ah,q1]
 replace q2:B 252=⟨k2,1,5,157,[.agg [.str a1,.int .i64 0,x',.ba 274 k4 2 0 1,.int .i64 0]]⟩:=avr
 replace hv:aP B [268,260] 161 3 x' ((a3::xs).map Part.d):=hv.of fun q hq=>by
  have:q≠274/\q≠252:=awN
  rw[<-hB];simp[ah,this]
 have p5:cS B e r6 n g:=by rw[<-hB];simp[cS,ah,p4]
 have qn:ca 250 bx B:=fun q q1 q2=>by
  exact aru
 clear hB J0 p3 p4;have KX:=q2;have gN:∀(b':ab) (l':List Tk),JJ e n g B 290 b' l'->Ptr b' 251 k1 e:=fun b' l' hj=>(hj.2.2 251 awL awL).trans q1;refine f_ (Xg 340 (J:=JJ e n g B 290) (Z:=ca 290 B) (more:=uH) (item:=mi) (n:=n) (JJ.D4 awL awL)
  (wE fun b' l' hj=>acR 251 k1 avj hj.1 (gN b' l' hj))
  (tS (M:=360) wW awL awL awL fun b' l' hj=>U9 360 awL avj hj.1)
  JJ.tok Cd rfl (fun _ _ _ h=>h) (fun _ _ _ h=>h) (l:=r6) ⟨p5,oM,fun _ _ _=>rfl⟩) rfl (fun d fc hp=>?_) (fun d fc hp=>?_)
 rotate_left
 ·obtain⟨r,h7,rfl,f5⟩:=hp;exact aql
 obtain⟨gs,r7,h7,hg,p6,_,f5⟩:=hp;obtain⟨y,hy,hw⟩:=hg.out (uK gs);refine⟨y,_,hy,hw,?_⟩;have hz:∀q,q≠351->aS fc [d] q=fc q:=fun q hq=>avo
 have l7:=Bi Cd h7;replace q1:aS fc [d] 251=_:=((hz 251 awL).trans (f5 251 awL awL)).trans q1;replace q2:aS fc [d] 252=_:=((hz 252 awL).trans (f5 252 awL awL)).trans q2;replace q3:aS fc [d] 274=_:=((hz 274 awL).trans (f5 274 awL awL)).trans q3;replace hv:aP (aS fc [d]) [268,260] 161 3 x' ((a3::xs).map Part.d):=hv.of fun q hq=>(hz q awN).trans (f5 q awN awN);replace p6:cS (aS fc [d]) e r7 n g:=(hz 14 awL).trans p6;have wV:ca 250 bx (aS fc [d]):=fun q q1 q2=>((hz q oM).trans (f5 q q1 oM)).trans (qn q q1 q2);clear hz f5 hg hy hw qn gN p5;generalize aS fc [d]=B_ at *;simp(disch:=omega) only[go_sem,q1,q2,KX,v1,v2,v3];refine Ad (ts:=[274]) (xs:=[a6.d]) (show aP B_ [274] 210 2 (.ba 274 k4 2 0 1) [a6.d]from aP.mk sI q3) sG ?_ oM oM sI (fun y' pJ hg hf=>?_)
 ·exact awN
 replace q1:pJ 251=_:=(hf 251 awL awL).trans q1;replace q2:pJ 252=_:=(hf 252 awL awL).trans q2;replace hv:aP pJ [268,260] 161 3 x' ((a3::xs).map Part.d):=hv.of fun q hq=>hf q awN awN;have p7:pJ 14=_:=(hf 14 awL awL).trans p6;have xO:ca 250 bx pJ:=fun q q1 q2=>(hf q oM awe).trans (wV q q1 q2);obtain⟨w1,w2,w3⟩:=hg.facts;clear hf wV p6 q3 KX;simp(disch:=omega) only[go_sem,q1,q2,v1,v2,v3,w1,w2,w3];refine bj (UP (l:=r7) (n:=n) (g:=g) oM avS) rfl (fun d mu hp=>?_) (fun d mu hp=>?_)
 rotate_left
 ·obtain⟨r,h8,rfl,f8⟩:=hp;simp(disch:=omega) only[go_sem];exact⟨r,auZ,rfl,fun q q1 q2=>by
   rw[f8 q q1];simp(disch:=omega) only[al];exact xO q q1 q2⟩
 obtain⟨c,r8,h8,rfl,p8,f8⟩:=hp;replace q1:mu 251=⟨k1,1,1,217,[.loc 14 e 0 0]⟩:=(f8 251 awL).trans awb;replace q2:mu 252=⟨k2,1,5,157,[.agg [.str a1,.int .i64 0,x',y',.int .i64 0]]⟩:=(f8 252 awL).trans awx;have ND:aP mu [268,260] 161 3 x' ((a3::xs).map Part.d):=hv.of fun q hq=>by
  have:q≠14/\q≠252:=awN
  exact auv
 have VE:aP mu [282,274] 210 2 y' ((a6::gs).map bt.d):=(show aP pJ [282,274] _ 2 y' ((a6::gs).map bt.d)from hg).of fun q hq=>by
  have:q≠14/\q≠252:=awN
  exact auv
 have M7:ca 250 bx mu:=fun q q1 q2=>by
  exact ark
 have p8':mu 14=_:=p8;clear f8 hv hg xO p7;simp(disch:=omega) only[go_sem,q1,q2,v1,v2,v3,w1,w2,w3];generalize hB:ah (ah mu 252 ⟨k2,1,5,157,[.agg [.str a1,.int .i64 0,x',y',.int .i64 c]]⟩) 252 ⟨k2,1,5,157,[.agg [.str a1,.int .i64 0,x',y',.int .i64 c]]⟩=B;have hBq:∀q,q≠252->B q=mu q:=fun q hq=>by rw[<-hB];simp[ah,hq]
 clear hB;replace ND:aP B [268,260] 161 3 x' ((a3::xs).map Part.d):=ND.of fun q hq=>hBq q awN;replace VE:aP B [282,274] 210 2 y' ((a6::gs).map bt.d):=VE.of fun q hq=>hBq q awN;obtain⟨y,hy,hw⟩:=ND.out (uL _);obtain⟨z,hz,hwz⟩:=VE.out (uK _);have hg9:aP (cK B x') [282,274] 210 2 y' ((a6::gs).map bt.d):=VE.of fun q hq=>iZ ND q awN;have hfz:∀q,q≠268->q≠260->q≠282->q≠274->cK (cK B x') y' q=B q:=fun q q1 q2 q3 q4=>by rw[iZ hg9 q awN,iZ ND q awN]
 refine⟨⟨a1,0,a3::xs,a6::gs,c⟩,r8,?_,⟨.agg [.str a1,.int .i64 0,y,z,.int .i64 c],?_,Lk (.refl _) (.refl _) hw hwz (.refl _)⟩,?_,fun q q1 q2=>?_⟩
 ·simp_all[gI,Rd.bind,Rd.pure]
 ·simp_all[aU,cE,jZ]
 ·simp_all[aS,cK,cS]
 ·simp only[aS,cK];rw[hfz q oM oM oM oM,hBq q oM];exact M7 q q1 q2
end Go.V.Gr
namespace Go.V.Gr
open Go.Proofs Go.Proofs.Tryz Go.RowKit Go.V.Lx
variable {bx:ab} {l:List Tk} {n e:Nat} {g:G6}
def Tz(x:Entry):(Entry.d x).pure=true:=by simp[Entry.d,strs,go_sem,ji]
def WM(x:aF):(aF.d x).pure=true:=by simp[aF.d,go_sem,uL,uK]
def Ls(l:List Entry):D.aH (l.map Entry.d)=true:=kg _ _ Tz
def PE(l:List aF):D.aH (l.map aF.d)=true:=kg _ _ WM
def UX(hl:l.length<=1000000)(hb:cS bx e l n g):az prog 88 0 [.loc 14 e 0 0] bx (fun d bx'=>∃es r,cb (eY gL) fG l= .ok (es,r)/\d= .aL []/\cS bx' e r n {g with e:=.sl 5 (es.map Entry.d)}/\ca 130 bx bx') (FR (cb (eY gL) fG) n 130 bx l):=by
 refine fB 11 0 f88 [] [] ?_;simp(disch:=omega) only[go_sem];refine ao (Ag (bx:=bx) (e:=e) 130 gL) rfl ?_;rintro d jE ⟨k4,k5,rfl,b1,b2,b3⟩;have p4:cS jE e l n g:=(b3 14 awL awL).trans hb;have qn:ca 130 bx jE:=fun q q1 q2=>b3 q oM oM;simp(disch:=omega) only[go_sem];have gN:∀(b':ab) (l':List Tk),JJ e n g jE 140 b' l'->Ptr b' 132 k4 e/\L3 b' 133 k5 gL:=fun b' l' hj=>⟨(hj.2.2 132 awL awL).trans b1,(hj.2.2 133 awL awL).trans b2⟩
 refine f_ (Xf 140 (J:=JJ e n g jE 140) (Z:=ca 140 jE) (more:=eY gL) (item:=fG) (n:=n) (JJ.D4 awL awL)
  (wE fun b' l' hj=>xL 132 133 k4 k5 gL avj hj.1 (gN b' l' hj).1 (gN b' l' hj).2)
  (tS (M:=160) J1 awL awL awL fun b' l' hj=>abR hj.2.1 hj.1)
  JJ.tok Su rfl (fun _ _ _ h=>h) (fun _ _ _ h=>h) (l:=l) ⟨p4,hl,fun _ _ _=>rfl⟩) rfl (fun d fc hp=>?_) (fun d fc hp=>?_)
 rotate_left
 ·exact aqq
 obtain⟨xs,r4,h4,hv,p5,_,f5⟩:=hp;obtain⟨y,hy,hw⟩:=hv.out (Ls xs);refine⟨y,_,hy,hw,?_⟩;have hz:∀q,q≠151->aS fc [d] q=fc q:=fun q hq=>avo
 replace p5:cS (aS fc [d]) e r4 n g:=(hz 14 awL).trans p5;have wV:ca 130 bx (aS fc [d]):=fun q q1 q2=>((hz q oM).trans (f5 q q1 oM)).trans (qn q q1 q2);generalize aS fc [d]=B_ at *;have p6:B_ 14=⟨e,1,8,219,[pd r4 n g]⟩:=p5;simp(disch:=omega) only[go_sem,p6,pd];refine⟨xs,r4,h4,?_,fun q q1 q2=>?_⟩
 ·simp[cS,ah,pd]
 ·simp only[al q1];exact wV q q1 q2
def acU(hl:l.length<=1000000)(hb:cS bx e l n g):az prog 89 0 [.loc 14 e 0 0] bx (fun d bx'=>∃es r,cb (eY gJ) gI l= .ok (es,r)/\d= .aL []/\cS bx' e r n {g with f:=.sl 5 (es.map aF.d)}/\ca 220 bx bx') (FR (cb (eY gJ) gI) n 220 bx l):=by
 refine fB 11 0 f89 [] [] ?_;simp(disch:=omega) only[go_sem];refine ao (Ag (bx:=bx) (e:=e) 220 gJ) rfl ?_;rintro d jE ⟨k4,k5,rfl,b1,b2,b3⟩;have p4:cS jE e l n g:=(b3 14 awL awL).trans hb;have qn:ca 220 bx jE:=fun q q1 q2=>b3 q oM oM;simp(disch:=omega) only[go_sem];have gN:∀(b':ab) (l':List Tk),JJ e n g jE 230 b' l'->Ptr b' 222 k4 e/\L3 b' 223 k5 gJ:=fun b' l' hj=>⟨(hj.2.2 222 awL awL).trans b1,(hj.2.2 223 awL awL).trans b2⟩
 refine f_ (Xi 230 (J:=JJ e n g jE 230) (Z:=ca 230 jE) (more:=eY gJ) (item:=gI) (n:=n) (JJ.D4 awL awL)
  (wE fun b' l' hj=>xL 222 223 k4 k5 gJ avj hj.1 (gN b' l' hj).1 (gN b' l' hj).2)
  (tS (M:=250) Na awL awL awL fun b' l' hj=>agp hj.2.1 hj.1)
  JJ.tok US rfl (fun _ _ _ h=>h) (fun _ _ _ h=>h) (l:=l) ⟨p4,hl,fun _ _ _=>rfl⟩) rfl (fun d fc hp=>?_) (fun d fc hp=>?_)
 rotate_left
 ·exact aqq
 obtain⟨xs,r4,h4,hv,p5,_,f5⟩:=hp;obtain⟨y,hy,hw⟩:=hv.out (PE xs);refine⟨y,_,hy,hw,?_⟩;have hz:∀q,q≠241->aS fc [d] q=fc q:=fun q hq=>avo
 replace p5:cS (aS fc [d]) e r4 n g:=(hz 14 awL).trans p5;have wV:ca 220 bx (aS fc [d]):=fun q q1 q2=>((hz q oM).trans (f5 q q1 oM)).trans (qn q q1 q2);generalize aS fc [d]=B_ at *;have p6:B_ 14=⟨e,1,8,219,[pd r4 n g]⟩:=p5;simp(disch:=omega) only[go_sem,p6,pd];refine⟨xs,r4,h4,?_,fun q q1 q2=>?_⟩
 ·simp[cS,ah,pd]
 ·simp only[al q1];exact wV q q1 q2
def aeX(hl:l.length<=1000000)(hb:cS bx e l n g):az prog 87 0 [.loc 14 e 0 0] bx (fun d bx'=>∃h r,kO l= .ok (h,r)/\d= .aL []/\cS bx' e r n {g with a:=.str h.1,b:=strs h.2.1,c:=.str h.2.2}/\ca 100 bx bx') (FR kO n 100 bx l):=by
 refine fB 27 0 f87 [] [] ?_;simp(disch:=omega) only[go_sem];refine bj (qz kN oM hb) rfl (fun d bx1 hp=>?_) (fun d bx1 hp=>?_)
 rotate_left
 ·obtain⟨r,h1,rfl,h3⟩:=hp;simp(disch:=omega) only[go_sem];exact⟨r,by simp only[kO,Rd.bind,h1],rfl,fun q q1 q2=>h3 q q1⟩
 obtain⟨a1,r1,h1,rfl,p1,f1⟩:=hp;have l1:=(gm kN) _ _ _ h1;have p1':bx1 14=⟨e,1,8,219,[pd r1 n g]⟩:=p1;simp(disch:=omega) only[go_sem,p1',pd];refine bj (vo (l:=r1) (n:=n) (g:={g with a:=.str a1}) [59] oM (by simp[cS,ah,pd])) rfl (fun d aT hp=>?_) (fun d aT hp=>?_)
 rotate_left
 ·obtain⟨r,h2,rfl,h3⟩:=hp;simp(disch:=omega) only[go_sem];exact⟨r,au5,rfl,fun q q1 q2=>by rw[h3 q q1,al q1];exact f1 q q1⟩
 obtain⟨_,r2,h2,rfl,p2,f2⟩:=hp;have l2:=uv h2;have Gq:ca 100 bx aT:=fun q q1 q2=>by rw[f2 q q1,al q1];exact f1 q q1
 clear f1 f2;simp(disch:=omega) only[go_sem];refine ao (Ag (bx:=aT) (e:=e) 100 h_) rfl ?_;rintro d jE ⟨k4,k5,rfl,b1,b2,b3⟩;have p4:cS jE e r2 n {g with a:=.str a1}:=(b3 14 awL awL).trans p2;have qn:ca 100 bx jE:=fun q q1 q2=>(b3 q oM oM).trans (Gq q q1 q2);simp(disch:=omega) only[go_sem];have gN:∀(b':ab) (l':List Tk),JJ e n {g with a:=.str a1} jE 110 b' l'->Ptr b' 102 k4 e/\L3 b' 103 k5 h_:=fun b' l' hj=>⟨(hj.2.2 102 awL awL).trans b1,(hj.2.2 103 awL awL).trans b2⟩
 refine f_ (Lb 110 (J:=JJ e n {g with a:=.str a1} jE 110) (Z:=ca 110 jE) (more:=eY h_) (item:=category) (n:=n) (JJ.D4 awL awL)
  (wE fun b' l' hj=>xL 102 103 k4 k5 h_ avj hj.1 (gN b' l' hj).1 (gN b' l' hj).2)
  (tS (M:=122) Cm awL awL awL fun b' l' hj=>(Sf avj hj.1).mono (fun d bx' h=>h.pT 122 fun a=>KR _ _) (fun d bx' h=>h.pT 122))
  JJ.tok BB rfl (fun _ _ _ h=>h) (fun _ _ _ h=>h) (l:=r2) ⟨p4,oM,fun _ _ _=>rfl⟩) rfl (fun d fc hp=>?_) (fun d fc hp=>?_)
 rotate_left
 ·obtain⟨r,h4,rfl,f5⟩:=hp;simp(disch:=omega) only[go_sem];exact⟨r,au5,rfl,fun q q1 q2=>(f5 q q1 oM).trans (qn q q1 q2)⟩
 obtain⟨xs,r4,h4,hv,p5,_,f5⟩:=hp;have l4:=Bi BB h4;obtain⟨y,hy,hw⟩:=hv.out (ji xs);refine⟨y,_,hy,hw,?_⟩;have hz:∀q,q≠121->aS fc [d] q=fc q:=fun q hq=>avo
 replace p5:cS (aS fc [d]) e r4 n {g with a:=.str a1}:=(hz 14 awL).trans p5;have wV:ca 100 bx (aS fc [d]):=fun q q1 q2=>((hz q oM).trans (f5 q q1 oM)).trans (qn q q1 q2);clear hz f5 hv hy hw qn b1 b2 b3 gN;generalize aS fc [d]=B_ at *;have p6:B_ 14=⟨e,1,8,219,[pd r4 n {g with a:=.str a1}]⟩:=p5;simp(disch:=omega) only[go_sem,p6,pd];refine bj (qz (l:=r4) (n:=n) (g:={g with a:=.str a1,b:=strs xs}) qF oM (by simp[cS,ah,pd,strs])) rfl (fun d pJ hp=>?_) (fun d pJ hp=>?_)
 rotate_left
 ·obtain⟨r,h5,rfl,h3⟩:=hp;simp(disch:=omega) only[go_sem];exact⟨r,au5,rfl,fun q q1 q2=>by rw[h3 q q1,al q1];exact wV q q1 q2⟩
 obtain⟨a5,r5,h5,rfl,p7,f7⟩:=hp;have l5:=(gm qF) _ _ _ h5;have xO:ca 100 bx pJ:=fun q q1 q2=>by rw[f7 q q1,al q1];exact wV q q1 q2
 have p7':pJ 14=⟨e,1,8,219,[pd r5 n {g with a:=.str a1,b:=strs xs}]⟩:=p7;simp(disch:=omega) only[go_sem,p7',pd];refine bj (vo (l:=r5) (n:=n) (g:={g with a:=.str a1,b:=strs xs,c:=.str a5}) [59] oM (by simp[cS,ah,pd,strs])) rfl (fun d mu hp=>?_) (fun d mu hp=>?_)
 rotate_left
 ·obtain⟨r,h6,rfl,h3⟩:=hp;simp(disch:=omega) only[go_sem];exact⟨r,au5,rfl,fun q q1 q2=>by rw[h3 q q1,al q1];exact xO q q1 q2⟩
 obtain⟨_,r6,h6,rfl,p8,f8⟩:=hp;simp(disch:=omega) only[go_sem];exact⟨(a1,xs,a5),r6,by simp_all[kO,Rd.bind,Rd.pure],p8,fun q q1 q2=>by rw[f8 q q1,al q1];exact xO q q1 q2⟩
end Go.V.Gr
namespace Go.V.Gr
open Go.Proofs Go.Proofs.Tryz Go.RowKit Go.V.Lx
variable {e2 e3 e4:Nat} {x3 x4:D} {bx:ab} {y0 y1 y2 y3 y4 y5:D}
def ly(h2:bx 4=⟨e2,1,6,78,[.agg [y0,y1,y2,y3,y4,y5]]⟩)(h3:bx 5=⟨e3,1,1,3,[x3]⟩)(h4:bx 6=⟨e4,1,1,39,[x4]⟩):
 vM prog (dD prog) [(5,[(3,2)])] f86 42 [.loc 4 e2 0 0,.loc 5 e3 0 0,.loc 6 e4 0 0] bx .ret fun m' bx'=>m'= .ret/\bx'=bx:=by
 refine iG (t:=6) _ _ 20 rfl rfl rfl ar ar (ah (ah (aM 0 [.loc 4 e2 0 0,.loc 5 e3 0 0,.loc 6 e4 0 0]) 6 (.raw .nilIface)) 3 (.raw .nilIface)) ?_ ?_
 ·exact asn
 ·simp(disch:=omega) only[go_sem,h2,h3,h4,sQ]
def dB(i:Int)(o3:∀c,ed x3 0 [c]=some c)(o4:∀c,ed x4 0 [c]=some c)(h2:bx 4=⟨e2,1,6,78,[.agg [y0,y1,y2,y3,y4,y5]]⟩)(h3:bx 5=⟨e3,1,1,3,[x3]⟩)(h4:bx 6=⟨e4,1,1,39,[x4]⟩):
 vM prog (dD prog) [(5,[(3,2)])] f86 42 [.loc 4 e2 0 0,.loc 5 e3 0 0,.loc 6 e4 0 0] bx (.cd (.bK 215 (.agg [.int .i64 i]))) fun m' bx'=>m'= .ret/\bx' 4=⟨e2,1,6,78,[.agg [.str [],.ak,.str [],.int .i64 0,.ak,.ak]]⟩/\bx' 5=⟨e3,1,1,3,[.int .i64 i]⟩/\bx' 6=⟨e4,1,1,39,[.int .i64 250]⟩:=by
 refine iG (t:=6) _ _ 20 rfl rfl rfl ar ar (ah (ah (aM 0 [.loc 4 e2 0 0,.loc 5 e3 0 0,.loc 6 e4 0 0]) 6 (.bK 215 (.agg [.int .i64 i]))) 3 (.bK 215 (.agg [.int .i64 i]))) ?_ ?_
 ·exact asn
 ·simp(disch:=omega) only[go_sem,h2,h3,h4,sQ,o3,o4]
def J2:G6:=⟨.str [],.ak,.str [],.int .i64 0,.ak,.ak⟩
def Prog(l:List Tk):Nat->List Tk->G6->Prop
 |0,r,g=>r=l/\g=J2
 |1,r,g=>∃h,kO l= .ok (h,r)/\g={J2 with a:=.str h.1,b:=strs h.2.1,c:=.str h.2.2}
 |2,r,g=>∃h r1 es,kO l= .ok (h,r1)/\cb (eY gL) fG r1= .ok (es,r)/\g={J2 with a:=.str h.1,b:=strs h.2.1,c:=.str h.2.2,e:=.sl 5 (es.map Entry.d)}
 |_,r,g=>∃h r1 es r2 rs,kO l= .ok (h,r1)/\cb (eY gL) fG r1= .ok (es,r2)/\cb (eY gJ) gI r2= .ok (rs,r)/\g={J2 with a:=.str h.1,b:=strs h.2.1,c:=.str h.2.2,e:=.sl 5 (es.map Entry.d),f:=.sl 5 (rs.map aF.d)}
def A7(r:aA×Int×Int):D:=.aL [r.1.d,.int .i64 r.2.1,.int .i64 r.2.2]
def vp{a b c d f k a' b' c' d' f' k':D}(h1:bA a a')(h2:bA b b')(h3:bA c c')(h4:bA d d')(h5:bA f f')(h6:bA k k'):bA (.agg [a,b,c,d,f,k]) (.agg [a',b',c',d',f',k']):=by
 refine .agg rfl fun i x x' hx jc=>?_
 exact awN
def rX{a b c a' b' c':D}(h1:bA a a')(h2:bA b b')(h3:bA c c'):bA (.aL [a,b,c]) (.aL [a',b',c']):=by
 refine .aL rfl fun i x x' hx jc=>?_
 exact awN
def Ll:bA (.agg [.str [],.ak,.str [],.int .i64 0,.ak,.ak]) aA.zero.d:=vp (.refl _) (.nil _) (.refl _) (.refl _) (.nil _) (.nil _)
def A8{l r:List Tk}{n:Nat}(h:ir l= .error r):bA (.aL [.agg [.str [],.ak,.str [],.int .i64 0,.ak,.ak],.int .i64 (xw n r),.int .i64 250]) (A7 (iy l n)):=by
 unfold iy;rw[h];exact rX Ll (.refl _) (.refl _)
def YG:jU kO:=(gP _).bind fun _=>(ku _).bind fun _=>(lT Cm).bind fun _=>(gP _).bind fun _=>(ku _).bind fun _=>eZ _
def Oz(l:List Tk)(n:Nat)(hl:l.length<=1000000):El prog (dD prog) [(1000021,[])] f49 0 [.sl 4 (l.map Tok.d),.int .i64 (n:Int)] (fun _=> .none) (fun d bx'=>∃r,aU bx' d=some r/\bA r (A7 (iy l n))) (fun _ _=>False):=by
 refine rp _ [.cell 4 78,.cell 5 3,.cell 6 39] 42 rfl rfl rfl ar ar ?_;simp(disch:=omega) only[go_sem];refine bB 3 (fun k σ bx=>∃r g,σ 4= .loc 4 1 0 0/\σ 5= .loc 5 1 0 0/\σ 6= .loc 6 1 0 0/\σ 7= .loc 14 1 0 0/\σ 21= .ba 21 1 1 0 3/\σ 22= .int .i64 3/\σ 23= .int .i64 k/\
  σ eI= .any [.aL [.fn (.func 86) [.loc 4 1 0 0,.loc 5 1 0 0,.loc 6 1 0 0]]]/\bx 4=⟨1,1,6,78,[.agg [.str [],.ak,.str [],.int .i64 0,.ak,.ak]]⟩/\bx 5=⟨1,1,1,3,[.int .i64 0]⟩/\bx 6=⟨1,1,1,39,[.int .i64 0]⟩/\
  bx 21=⟨1,1,1,1,[.fW 87 [.loc 14 1 0 0],.fW 88 [.loc 14 1 0 0],.fW 89 [.loc 14 1 0 0]]⟩/\cS bx 1 r n g/\Prog l k r g/\r.length<=l.length) ?_ ?_ ?_
 ·refine⟨l,J2,?_,?_,?_,?_,?_,?_,?_,?_,?_,?_,?_,?_,?_,⟨rfl,rfl⟩,aaN _⟩;all_goals first
   |(simp(disch:=omega) only[go_sem,aM,ah,pd,J2,cS,reduceIte,Nat.reduceEqDiff];done)
   |(simp(disch:=omega) only[go_sem,aM,ah,pd,J2,cS,reduceIte,Nat.reduceEqDiff];rfl)
   |rfl
 ·rintro k σ bx hk ⟨r,g,h4,h5,h6,h7,zh,sx,sy,hd,b4,b5,b6,Mi,hp,zu,hr⟩;have Kc:(k:Int)<3:=oM;have aeS:k=0\/k=1\/k=2:=oM;rcases aeS with rfl|rfl|rfl
  ·obtain⟨rfl,rfl⟩:=zu;simp(disch:=omega) only[go_sem,h4,h5,h6,h7,zh,sx,sy,Mi,Kc];refine bj (aeX oM hp) rfl (fun d bx1 hq=>?_) (fun d bx1 hq=>?_)
   ·obtain⟨v,r9,k9,rfl,p9,f9⟩:=hq;have q4:bx1 4=_:=(f9 4 awL awL).trans b4;have q5:bx1 5=_:=(f9 5 awL awL).trans b5;have q6:bx1 6=_:=(f9 6 awL awL).trans b6;have yf:bx1 21=_:=(f9 21 awL awL).trans Mi;simp(disch:=omega) only[go_sem,h4,h5,h6,h7,zh,sx,sy,hd];exact⟨_,_,rfl,q4,q5,q6,yf,p9,⟨v,k9,rfl⟩,adz (YG.len k9) hr⟩
   ·obtain⟨r9,k9,rfl,f9⟩:=hq;have q4:bx1 4=_:=(f9 4 awL awL).trans b4;have q5:bx1 5=_:=(f9 5 awL awL).trans b5;have q6:bx1 6=_:=(f9 6 awL awL).trans b6;simp(disch:=omega) only[go_sem,h4,h5,h6,h7,zh,sx,sy,hd,sV];refine bM _ (iF (dB _ (fun c=>sG) (fun c=>sG) q4 q5 q6) rfl ar rfl) fun m' aT hq=>?_;obtain⟨rfl,g2,g3,g4⟩:=hq;simp(disch:=omega) only[go_sem,h4,h5,h6,g2,g3,g4];simp_all[A8,ir,Rd.bind]
  ·obtain⟨h,k1,rfl⟩:=zu;simp(disch:=omega) only[go_sem,h4,h5,h6,h7,zh,sx,sy,Mi,Kc];refine bj (UX oM hp) rfl (fun d bx1 hq=>?_) (fun d bx1 hq=>?_)
   ·obtain⟨v,r9,k9,rfl,p9,f9⟩:=hq;have q4:bx1 4=_:=(f9 4 awL awL).trans b4;have q5:bx1 5=_:=(f9 5 awL awL).trans b5;have q6:bx1 6=_:=(f9 6 awL awL).trans b6;have yf:bx1 21=_:=(f9 21 awL awL).trans Mi;simp(disch:=omega) only[go_sem,h4,h5,h6,h7,zh,sx,sy,hd];exact⟨_,_,rfl,q4,q5,q6,yf,p9,⟨h,_,v,k1,k9,rfl⟩,adz ((lT J1).len k9) hr⟩
   ·obtain⟨r9,k9,rfl,f9⟩:=hq;have q4:bx1 4=_:=(f9 4 awL awL).trans b4;have q5:bx1 5=_:=(f9 5 awL awL).trans b5;have q6:bx1 6=_:=(f9 6 awL awL).trans b6;simp(disch:=omega) only[go_sem,h4,h5,h6,h7,zh,sx,sy,hd,sV];refine bM _ (iF (dB _ (fun c=>sG) (fun c=>sG) q4 q5 q6) rfl ar rfl) fun m' aT hq=>?_;obtain⟨rfl,g2,g3,g4⟩:=hq;simp(disch:=omega) only[go_sem,h4,h5,h6,g2,g3,g4];simp_all[A8,ir,Rd.bind]
  ·obtain⟨h,r1,es,k1,k2,rfl⟩:=zu;simp(disch:=omega) only[go_sem,h4,h5,h6,h7,zh,sx,sy,Mi,Kc];refine bj (acU oM hp) rfl (fun d bx1 hq=>?_) (fun d bx1 hq=>?_)
   ·obtain⟨v,r9,k9,rfl,p9,f9⟩:=hq;have q4:bx1 4=_:=(f9 4 awL awL).trans b4;have q5:bx1 5=_:=(f9 5 awL awL).trans b5;have q6:bx1 6=_:=(f9 6 awL awL).trans b6;have yf:bx1 21=_:=(f9 21 awL awL).trans Mi;simp(disch:=omega) only[go_sem,h4,h5,h6,h7,zh,sx,sy,hd];exact⟨_,_,rfl,q4,q5,q6,yf,p9,⟨h,_,es,_,v,k1,k2,k9,rfl⟩,adz ((lT Na).len k9) hr⟩
   ·obtain⟨r9,k9,rfl,f9⟩:=hq;have q4:bx1 4=_:=(f9 4 awL awL).trans b4;have q5:bx1 5=_:=(f9 5 awL awL).trans b5;have q6:bx1 6=_:=(f9 6 awL awL).trans b6;simp(disch:=omega) only[go_sem,h4,h5,h6,h7,zh,sx,sy,hd,sV];refine bM _ (iF (dB _ (fun c=>sG) (fun c=>sG) q4 q5 q6) rfl ar rfl) fun m' aT hq=>?_;obtain⟨rfl,g2,g3,g4⟩:=hq;simp(disch:=omega) only[go_sem,h4,h5,h6,g2,g3,g4];simp_all[A8,ir,Rd.bind]
 ·rintro σ bx ⟨r,g,h4,h5,h6,h7,zh,sx,sy,hd,b4,b5,b6,Mi,hp,zu,hr⟩;obtain⟨h,r1,es,r2,rs,k1,k2,k3,rfl⟩:=zu;have bu:bx 14=⟨1,1,8,219,[pd r n _]⟩:=hp;have h33:¬((3:Nat):Int)<3:=oM;cases r with
  |nil=>
   have mF:ir l= .ok (⟨h.1,h.2.1,h.2.2,0,es,rs⟩,[]):=by simp_all[ir,Rd.bind,MK,Rd.pure]
   simp(disch:=omega) only[go_sem,h4,h5,h6,h7,zh,sx,sy,bu,pd,b4,b5,b6,h33,hd,strs,J2];refine bM _ (iF (ly (e2:=1) (e3:=1) (e4:=1) (y0:=.str h.1) (y1:=.sl 1 (h.2.1.map D.str)) (y2:=.str h.2.2) (y3:=.int .i64 0) (y4:=.sl 5 (es.map Entry.d)) (y5:=.sl 5 (rs.map aF.d)) (x3:=.int .i64 0) (x4:=.int .i64 0) awx awx awx) rfl ar rfl) fun m' aT hq=>?_;obtain⟨rfl,rfl⟩:=hq;simp(disch:=omega) only[go_sem,h4,h5,h6];refine⟨_,rfl,aq ?_⟩;unfold iy;rw[mF];rfl
  |cons x r=>
   have mF:ir l= .error (x::r):=by simp_all[ir,Rd.bind,MK]
   have h0:(0:Int)<((r.length+1:Nat):Int):=oM;simp(disch:=omega) only[go_sem,h4,h5,h6,h7,zh,sx,sy,bu,pd,h0,h33];refine bj (Gg awN hp) rfl (fun d bx1 hq=>hq.elim) (fun d bx1 hq=>?_);obtain⟨rfl,rfl⟩:=hq;simp(disch:=omega) only[go_sem,h4,h5,h6,h7,zh,sx,sy,hd,sV];refine bM _ (iF (dB _ (fun c=>sG) (fun c=>sG) b4 b5 b6) rfl ar rfl) fun m' aT hq=>?_;obtain⟨rfl,g2,g3,g4⟩:=hq;simp(disch:=omega) only[go_sem,h4,h5,h6,g2,g3,g4];simp_all[A8]
def WU(l:List Tk)(n:Nat)(hl:l.length<=1000000):av prog 49 [.sl 4 (l.map Tok.d),.int .i64 (n:Int)] (A7 (iy l n)):=
 (JV (Oz l n hl) rfl ar rfl).to (fun _ _ h=>h) fun d' bx' h=>h
end Go.V.Gr
namespace Go.V.Gr
open Go.Proofs Go.Proofs.Tryz Go.RowKit Go.V.Lx
theorem Kw(s:List UInt8):∀(f i:Nat) (xs:List Tk),xs.length<=i->i<=s.length->(jg s f i xs).1.length<=s.length
 |0,i,xs,h1,h2=>by grind [jg]
 |f+1,i,xs,h1,h2=>by
  simp only[jg];cases hx:s[i]? with
  |none=>grind
  |some c=>
   simp only;cases bI:dj s i c with
   |none=>simp
   |some r=>
    obtain⟨k,l⟩:=r;obtain⟨g1,g2,g3⟩:=rT hx bI;simp only;exact Kw s f k (xs++l) awN g2
def Zm(s:List UInt8):(jP s).1.length<=65536:=by
 unfold jP;split
 ·exact sI
 ·have:=Kw s s.length 0 [] (aes _) (aes _);exact oM
def PF(l:List Tk):D.aH (l.map Tok.d)=true:=A4 l
def acK(s:ae)(hs:s.length<=140737488355328):av prog 108 [.str s] (A7 (cF s)):=by
 refine fF f108 [] [.cell 2 78,.tmp 3,.tmp 4] ?_;simp(disch:=omega) only[go_sem];refine aI (aiK s hs) sG ?_;have hlen:=Zm s;unfold cF;generalize jP s=x at hlen⊢;obtain⟨l,a,er⟩:=x;simp(disch:=omega) only[go_sem,NY];refine aW (fun h1=>?_) (fun h1=>?_)
 ·subst h1;simp(disch:=omega) only[go_sem];refine aI (WU l s.length awN) (by simp[go_sem,bW,PF]) ?_;obtain⟨gr,ra,re⟩:=iy l s.length;simp(disch:=omega) only[go_sem,A7,aA.d,strs];exact aq rfl
 ·rw[aaw h1];exact rX Ll (.refl _) (.refl _)
end Go.V.Gr
