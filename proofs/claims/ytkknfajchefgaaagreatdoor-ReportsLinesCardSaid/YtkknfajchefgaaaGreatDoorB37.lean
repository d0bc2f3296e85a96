/- Lemmas on plain data and programs: part B37. -/
import Derived.Test.YtkknfajchefgaaaGreatDoorB35
set_option linter.all false
set_option maxHeartbeats 8000000
set_option maxRecDepth 100000
namespace Go.V.St
open Go.Proofs Go.Proofs.Tryz Go.RowKit Go.V.Lx Go.V.Gr Go.V.Ty
def Ud(o:Bool)(n m:Int):av prog 296 [.agg [.bool o,I n],I m] (.agg [.bool true,I m]):=by
 refine fF f296 [] [.cell 4 365] ?_;exact arQ
def FV(o:Bool)(n m:Int):av prog 297 [.agg [.bool o,I n],I m] (.agg [.bool o,I m]):=by
 refine fF f297 [] [.cell 4 365] ?_;exact arQ
def adE(o:Bool)(n m:Int):av prog 298 [.agg [.bool o,I n],I m] (.agg [.bool false,I n]):=by
 refine fF f298 [] [.cell 4 365] ?_;exact arQ
def adF(o:Bool)(n m:Int):av prog 299 [.agg [.bool o,I n],I m] (.agg [.bool true,I n]):=by
 refine fF f299 [] [.cell 4 365] ?_;exact arQ
def eO:D:=.agg [.bool false,.bool false,.bool false,.bool false,.raw .nilFunc,.bool false,.bool true,.bool false,.bool true,.fn (.func 296) [],.bool true,.bool true,.bool true,.bool true,.fn (.func 297) [],.bool true,.bool false,.bool true,.bool false,.fn (.func 298) [],.bool true,.bool true,.bool false,.bool false,.fn (.func 299) []]
def adG:av prog 257 [] eO:=by
 refine fF f257 [] [.cell 0 362] ?_;exact arQ
def i64(n:Int):Prop:= -9223372036854775808<=n/\n<=9223372036854775807
structure Jo(fm:Int->Option D)(st:Int->VS):Prop where
 is:∀n,fm n=if(st n).1 then some (.agg [.bool (st n).2.1,I (st n).2.2])else none
 op:∀n,(st n).2.1=true->(st n).1=true
theorem Jo.look{fm:Int->Option D}{st:Int->VS}(h:Jo fm st){r:Option (Nat×D)}{n:Int}(hr:r.map (·.2)=fm n):∃m,((st n).1=true->m=(st n).2.2)/\vJ (some (.agg [.bool false,I 0])) true (some r)=some (.aL [.agg [.bool (st n).2.1,I m],.bool (st n).1]):=by
 rw[h.is n]at hr;cases hk:(st n).1 with
 |false=>
  rw[hk]at hr;have:r=none:=awy
  subst this;have ho:(st n).2.1=false:=by
   cases h':(st n).2.1 with
   |false=>rfl
   |true=>rw[h.op n h']at hk;cases hk
  exact⟨0,(fun h=>awI),by rw[ho];rfl⟩
 |true=>
  rw[hk]at hr;cases r with
  |none=>simp at hr
  |some q=>obtain⟨j,v⟩:=q;simp at hr;subst hr;exact⟨_,(fun _=>rfl),rfl⟩
theorem Jo.step{fm:Int->Option D}{st:Int->VS}(h:Jo fm st){v:bD}{o:Bool}{m:Int}(hs:lO v.jB (st v.jB) v=(true,o,m)):Jo (fun k=>if k=v.jB then some (.agg [.bool o,I m])else fm k) (fun n=>lO n (st n) v):=by
 refine⟨fun n=>?_,fun n hn=>?_⟩
 ·by_cases hn:n=v.jB
  ·exact awN
  ·simp only[aaw hn,lO,aaw (Ne.symm hn)];exact h.is n
 ·by_cases hw:n=v.jB
  ·exact awN
  ·simp only[lO,aaw (Ne.symm hw)]at hn⊢;exact h.op n hn
def kU(b:Bool):(b==false)= !b:=awN
def kV(b:Bool):(b==true)=b:=awy
def ack{n:Int}(h:i64 n):aX (IntKind.i64.wrap (n - 1)) 0 (IntKind.i64.wrap (5 - 1) - 1)=aX n 1 4:=by
 rw[wr (5 - 1) oM oM];obtain⟨h1,h2⟩:=h;by_cases hn:n= -9223372036854775808
 ·subst hn;rfl
 ·rw[wr _ oM oM,abu];simp[aX];exact oM
def RZ(e:Nat)(bx:ab)(st:Int->VS)(v:bD)(d:D)(bx':ab):Prop:=d= .bool (nL v&&mr (st v.jB) v)/\(∀s,s<300->s≠10->bx' s=bx s)/\((nL v&&mr (st v.jB) v)=true->∃c es fm,bx' 10=⟨e,3,0,306,I c::es⟩/\pV fm es/\Jo fm (fun n=>lO n (st n) v))
def WJ{bx:ab}{e:Nat}{c:Int}{es:List D}{fm:Int->Option D}{st:Int->VS}(hb:bx 10=⟨e,3,0,306,I c::es⟩)(hm:pV fm es)(hf:Jo fm st)(v:bD)(hk:i64 v.kind):
 az prog 194 300 [.omap 10 e,v.d] bx (RZ e bx st v) (fun _ _=>False):=by
 refine fB 87 300 f194 [(1,[(13,11)]),(4,[(5,3),(5,1),(3,1)]),(7,[(7,1)])] [.tmp 4] ?_;obtain⟨r,g1,g2⟩:=hm.find v.jB;obtain⟨m,hm1,g3⟩:=hf.look g2;have Ke:=ack hk;have xU:=hf.op v.jB;have nay:∀B:ab,(∀s,s<300->B s=bx s)->(nL v&&mr (st v.jB) v)=false->RZ e bx st v (.bool false) B:=fun B hB h=>⟨by rw[h],fun s hs _=>hB s hs,fun h'=>awN⟩
 have yes:∀(B:ab) o m c',∀es',nj (.int .i64) (.int .i64 v.jB) (.agg [.bool o,I m]) c es=some (.int .i64 c'::es')->(∀s,s<300->s≠10->B s=bx s)->B 10=⟨e,3,0,306,I c'::es'⟩->(nL v&&mr (st v.jB) v)=true->lO v.jB (st v.jB) v=(true,o,m)->RZ e bx st v (.bool true) B:=by
  intro B o m c' es' hu hB Gw h hv;obtain⟨es2,c2,CE,xT⟩:=hm.ah v.jB (.agg [.bool o,I m]) c;rw[hu]at CE;injection CE with CE;injection CE with CE hu3;injection CE with _ CE;subst CE;subst hu3;exact⟨by rw[h],hB,fun _=>⟨_,_,_,Gw,xT,hf.step hv⟩⟩
 have Km:∀o m,∃es' c',nj (.int .i64) (.int .i64 v.jB) (.agg [.bool o,I m]) c es=some (.int .i64 c'::es'):=fun o m=>by obtain⟨a,b,h,_⟩:=hm.ah v.jB (.agg [.bool o,I m]) c;grind
 clear hm hf;simp(disch:=omega) only[go_sem,bD.d];repeat' first|with_reducible apply zJ<;>intro _|with_reducible refine pX (Xz _ _) sG ?_|with_reducible refine pX (adG) sG ?_|simp(disch:=omega) only[go_sem, *,bD.d,eO]
 rotate_left
 iterate 4 (exact nay _ (fun s hs=>ava) (by simp_all[nL]))
 rename_i c1 c2 c3 c4;try rw[Ke]at c3
 have ck:v.kind=1\/v.kind=2\/v.kind=3\/v.kind=4:=by simp[aX]at c3;omega
 have pO:nL v=(decide (v.kind=1)||decide (v.kind=2)||decide (v.bH=0)):=by simp_all[nL]
 clear Ke c1 c2 c3 c4 hk g2;have GC:(st v.jB).1=false/\(st v.jB).2.1=false\/(st v.jB).1=true/\(st v.jB).2.1=false\/(st v.jB).1=true/\(st v.jB).2.1=true:=awN
 clear xU;have quiet:∀(x1 x2 x3 x4 x5:Bx),∀s,s<300->ah (ah (ah (ah (ah bx 303 x1) 305 x2) 305 x3) 307 x4) 307 x5 s=bx s:=fun _ _ _ _ _ s hs=>ava
 rcases GC with⟨k0,k1⟩|⟨k0,k1⟩|⟨k0,k1⟩<;>rw[k0,k1]at g3<;>rcases ck with ck|ck|ck|ck
 ·simp(disch:=omega) only[go_sem,hb,g1,g3,ck,bD.d,eO,kU,kV,k0,k1,aaX,aaV];refine aW (fun hl=>?_) (fun hl=>?_)
  ·simp(disch:=omega) only[go_sem,hb,g1,g3,ck,bD.d,eO,kU,kV,k0,k1,aaX,aaV,hl,adX,abq,ae9];refine aI (Ud _ _ _) sG ?_;exact AS
  ·simp(disch:=omega) only[go_sem,hb,g1,g3,ck,bD.d,eO,kU,kV,k0,k1,aaX,aaV,hl,adX,abq,ae9];refine aI (Ud _ _ _) sG ?_;exact AI
 ·simp(disch:=omega) only[go_sem,hb,g1,g3,ck,bD.d,eO,kU,kV,k0,k1,aaX,aaV]
  exact awi
 ·simp(disch:=omega) only[go_sem,hb,g1,g3,ck,bD.d,eO,kU,kV,k0,k1,aaX,aaV]
  exact awi
 ·simp(disch:=omega) only[go_sem,hb,g1,g3,ck,bD.d,eO,kU,kV,k0,k1,aaX,aaV]
  exact awi
 ·simp(disch:=omega) only[go_sem,hb,g1,g3,ck,bD.d,eO,kU,kV,k0,k1,aaX,aaV]
  exact awi
 ·simp(disch:=omega) only[go_sem,hb,g1,g3,ck,bD.d,eO,kU,kV,k0,k1,aaX,aaV];refine aW (fun hl=>?_) (fun hl=>?_)
  ·simp(disch:=omega) only[go_sem,hb,g1,g3,ck,bD.d,eO,kU,kV,k0,k1,aaX,aaV,hl,adX,abq,ae9];refine aI (FV _ _ _) sG ?_;obtain⟨es',c',hu⟩:=Km false (0);simp(disch:=omega) only[go_sem,hb,g1,g3,ck,bD.d,eO,kU,kV,k0,k1,aaX,aaV,hl,hu,ff];exact yes _ false 0 c' es' hu (fun s hs dq=>ava) awx awi awk
  ·simp(disch:=omega) only[go_sem,hb,g1,g3,ck,bD.d,eO,kU,kV,k0,k1,aaX,aaV,hl,adX,abq,ae9];refine aI (FV _ _ _) sG ?_;obtain⟨es',c',hu⟩:=Km false (v.bH);simp(disch:=omega) only[go_sem,hb,g1,g3,ck,bD.d,eO,kU,kV,k0,k1,aaX,aaV,hl,hu,ff];exact yes _ false v.bH c' es' hu (fun s hs dq=>ava) awx awi awk
 ·simp(disch:=omega) only[go_sem,hb,g1,g3,ck,bD.d,eO,kU,kV,k0,k1,aaX,aaV]
  exact awi
 ·simp(disch:=omega) only[go_sem,hb,g1,g3,ck,bD.d,eO,kU,kV,k0,k1,aaX,aaV];refine aW (fun hl=>?_) (fun hl=>?_)
  ·simp(disch:=omega) only[go_sem,hb,g1,g3,ck,bD.d,eO,kU,kV,k0,k1,aaX,aaV,hl,adX,abq,ae9];refine aI (adF _ _ _) sG ?_;obtain⟨es',c',hu⟩:=Km true (m);simp(disch:=omega) only[go_sem,hb,g1,g3,ck,bD.d,eO,kU,kV,k0,k1,aaX,aaV,hl,hu,ff];exact yes _ true m c' es' hu (fun s hs dq=>ava) awx awi awk
  ·simp(disch:=omega) only[go_sem,hb,g1,g3,ck,bD.d,eO,kU,kV,k0,k1,aaX,aaV,hl,adX,abq,ae9]
   exact awN
 ·simp(disch:=omega) only[go_sem,hb,g1,g3,ck,bD.d,eO,kU,kV,k0,k1,aaX,aaV]
  exact awi
 ·simp(disch:=omega) only[go_sem,hb,g1,g3,ck,bD.d,eO,kU,kV,k0,k1,aaX,aaV];refine aW (fun hl=>?_) (fun hl=>?_)
  ·simp(disch:=omega) only[go_sem,hb,g1,g3,ck,bD.d,eO,kU,kV,k0,k1,aaX,aaV,hl,adX,abq,ae9];refine aI (FV _ _ _) sG ?_;exact AS
  ·simp(disch:=omega) only[go_sem,hb,g1,g3,ck,bD.d,eO,kU,kV,k0,k1,aaX,aaV,hl,adX,abq,ae9];refine aI (FV _ _ _) sG ?_;exact AI
 ·simp(disch:=omega) only[go_sem,hb,g1,g3,ck,bD.d,eO,kU,kV,k0,k1,aaX,aaV];refine aW (fun hl=>?_) (fun hl=>?_)
  ·simp(disch:=omega) only[go_sem,hb,g1,g3,ck,bD.d,eO,kU,kV,k0,k1,aaX,aaV,hl,adX,abq,ae9];refine aI (adE _ _ _) sG ?_;obtain⟨es',c',hu⟩:=Km false (m);simp(disch:=omega) only[go_sem,hb,g1,g3,ck,bD.d,eO,kU,kV,k0,k1,aaX,aaV,hl,hu,ff];exact yes _ false m c' es' hu (fun s hs dq=>ava) awx awi awk
  ·simp(disch:=omega) only[go_sem,hb,g1,g3,ck,bD.d,eO,kU,kV,k0,k1,aaX,aaV,hl,adX,abq,ae9]
   exact awN
 ·simp(disch:=omega) only[go_sem,hb,g1,g3,ck,bD.d,eO,kU,kV,k0,k1,aaX,aaV]
  exact awi
def Xx(l:List bD)(hk:∀v∈l,i64 v.kind):az prog 140 0 [.sl 4 (l.map bD.d)] (fun _=> .none) (fun d bx=>d=I (hU l)) (fun _ _=>False):=by
 refine fB 30 0 f140 [] [.tmp 2] ?_;simp(disch:=omega) only[go_sem];refine aW (fun h1=>?_) (fun h1=>?_)
 ·simp(disch:=omega) only[go_sem,h1,abq];exact aaR I (by unfold hU;grind)
 simp(disch:=omega) only[go_sem,h1,adX];have e:hU l=if DL l then 0 else 520:=by unfold hU;grind
 have no:∀j v,l[j]? =some v->v_ (l.take j) v=false->I 520=I (hU l):=fun j v h h'=>aaR I (by rw[e,aaw fun g=>by rw[g j v h]at h';cases h']);have yes:(∀j v,j<l.length->l[j]? =some v->v_ (l.take j) v=true)->I 0=I (hU l):=fun h=>aaR I (by rw[e,aaO (show DL l from fun j v h'=>h j v (aaL.1 h').1 h')]);clear e;generalize hU l=r at *;refine bB l.length (fun j σ bx=>σ 3= .omap 10 1/\σ 4=I (G8 (l.take j))/\σ 11= .sl 4 (l.map bD.d)/\σ 12=I l.length/\σ 13=I j/\(∃c es fm,bx 10=⟨1,3,0,306,I c::es⟩/\pV fm es/\Jo fm (th (l.take j)))/\∀i v,i<j->l[i]? =some v->v_ (l.take i) v=true) ?_ ?_ ?_
 ·simp[go_sem,aM,ah,Bx.none,G8,qO];exact⟨0,[],⟨rfl,rfl⟩,_,pV.nil,fun n=>by simp[th],fun n h=>by simp[th]at h⟩
 ·rintro j σ bx hj ⟨h3,h4,gM,fa,kc,⟨c,es,fm,hb,hm,hf⟩,hn⟩;obtain⟨x,hx⟩:=bk hj;have au:(j:Int)<(l.length:Int):=oM;have hw:IntKind.i64.wrap ((j:Int)+1)=((j+1:Nat):Int):=aR oM;have BG:G8 (l.take (j+1))=x.at_:=Ha hx;have no':=no j x hx;simp(disch:=omega) only[go_sem,h3,h4,gM,fa,kc,hb,au,hx,bD.d];refine aW (fun h2=>?_) (fun h2=>?_)
  ·simp(disch:=omega) only[go_sem,h2,abq]
   grind [v_]
  simp(disch:=omega) only[go_sem,h3,h4,gM,fa,kc,hb,au,hx,bD.d,h2,adX];refine ao (WJ (c:=c) (es:=es) (by simp[ah,hb]) hm hf x (hk x (aat hx))) rfl ?_;rintro d aT ⟨rfl,hs,hy⟩;have h6:=hs 6 oM oM;simp only[ah,abo]at h6;simp(disch:=omega) only[go_sem,h3,h4,gM,fa,kc,bD.d,h2];refine aO (fun hc=>?_) (fun hc=>?_)
  ·simp(disch:=omega) only[go_sem,h3,h4,gM,fa,kc,bD.d,hc,h6,hw];obtain⟨c',es',fm',dQ,Cx,xR⟩:=hy hc;refine⟨by rw[BG],⟨c',es',fm',dQ,Cx,by rw[show th (l.take (j+1))=fun n=>lO n (th (l.take j) n) x from funext fun n=>P0 hx n];exact xR⟩,fun i v hi hv=>?_⟩;by_cases Et:i=j
   ·simp_all[v_]
   exact awN
  ·simp(disch:=omega) only[go_sem,hc]
   grind [v_]
 ·rintro σ bx ⟨h3,h4,gM,fa,kc,hex,hn⟩;have au:¬(l.length:Int)<(l.length:Int):=oM;simp(disch:=omega) only[go_sem,gM,fa,kc,au]
  exact awN
def Xw(l:List bD)(hk:∀v∈l,i64 v.kind):av prog 140 [.sl 4 (l.map bD.d)] (I (hU l)):=
 (Xx l hk).to (fun _ _ h=>h) (fun d' bx' h=>⟨I (hU l),aww,.refl _⟩)
end Go.V.St
