/- Lemmas on plain data and programs: part B13. -/
import Derived.Test.YtkknfajchefgaaaGreatDoorB12
set_option linter.all false
set_option maxHeartbeats 8000000
set_option maxRecDepth 100000
namespace Go.V.Ty
open Go.Proofs Go.Proofs.Tryz Go.RowKit Go.V.Lx Go.V.Gr
def mZ(s:ae):Bool:=iP s&& !lP.contains s
def sentence:ae:=[103,114,97,109,109,97,114,32,99,97,116,101,103,111,114,121,32,115,116,97,114,116,32,119,111,114,100,32,105,115,32,103,105,118,101,115,32,99,111,115,116,32,114,117,108,101]
theorem MT:Lib.fields sentence=lP:=awL
def aar:av prog 272 [.str sentence] (strs lP):=by
 have:=fields_c sentence awL awL
 grind [MT]
def Cj(s:ae)(hs:s.length<=140737488355328):av prog 234 [.str s] (.bool (mZ s)):=by
 refine fF f234 [] [.tmp 2] ?_;simp(disch:=omega) only[go_sem];refine aI (N5 s hs) sG ?_;simp(disch:=omega) only[go_sem];refine aO (fun h1=>?_) (fun h1=>?_)
 ·simp(disch:=omega) only[go_sem];refine aI aar sG ?_;simp(disch:=omega) only[go_sem,h1];refine aI (wM lP s awL) au9 ?_;simp(disch:=omega) only[go_sem,h1]
  grind [aq,mZ]
 ·simp(disch:=omega) only[go_sem,h1]
  grind [aq,mZ]
def qy(a b n:Int):Bool:=decide (a<=n)&&decide (n<=b)
def anC(a b:Int)(e e' t t':Nat)(bx0:ab)(h3:bx0 3=⟨e,1,1,t,[.int .i64 a]⟩)(h4:bx0 4=⟨e',1,1,t',[.int .i64 b]⟩):cT 274 [.loc 3 e 0 0,.loc 4 e' 0 0] 5 1000 bx0 (D.int .i64) (fun _=>True) (qy a b):=by
 intro bx x hb _;refine dY (fn:=f274) (tab:=[]) (base:=1000) mixed ?_ rfl ar rfl;refine eG _ [.tmp 4] 13 rfl rfl rfl ar ?_;have g3:=(hb 3 oM).trans h3;have g4:=(hb 4 oM).trans h4;simp(disch:=omega) only[go_sem,g3,g4];refine aO (fun h1=>?_) (fun h1=>?_)
 ·simp(disch:=omega) only[go_sem,g3,g4,h1];simp_all[qy]
 ·simp(disch:=omega) only[go_sem,g3,g4,h1];refine⟨?_,fun _ _=>trivial⟩
  grind [qy]
def Um(a b:Int)(l:List Int)(hl:l.length<=140737488355328):M3 prog (dD prog) [] f235 0 [.int .i64 a,.int .i64 b,.sl 1 (l.map (D.int .i64))] (fun _=> .none) (fun d _=>d= .bool (l.all (qy a b))) (fun _ _=>False):=by
 refine eG _ [.tmp 6] 11 rfl rfl rfl ar ?_;simp(disch:=omega) only[go_sem];refine ao (adJ 20 (anC a b 1 1 3 3 _ avv avv) oM oM l hl (fun _ _=>trivial) _ (fun _ _=>rfl)) rfl ?_;rintro d aT ⟨rfl,_⟩;simp(disch:=omega) only[go_sem]
def Ul(a b:Int)(l:List Int)(hl:l.length<=140737488355328):av prog 235 [.int .i64 a,.int .i64 b,.sl 1 (l.map (D.int .i64))] (.bool (l.all (qy a b))):=
 (dY mixed (Um a b l hl) rfl ar rfl).to (fun _ _ h=>h) (fun d' bx' h=>⟨.bool (l.all (qy a b)),aww,.refl _⟩)
def ri(a b n:Int):av prog 235 [.int .i64 a,.int .i64 b,.sl 1 [.int .i64 n]] (.bool (qy a b n)):=by
 have:=Ul a b [n] sI
 exact awN
def small(s:ae):Prop:=s.length<=140737488355328
def aem(k:Nat)(bx0:ab):cT 234 [] 0 k bx0 D.str small mZ:=cT.of (fun x h=>Cj x h) (fun _=>rfl) k bx0
def Jv(l:List ae)(hl:l.length<=140737488355328)(hs:∀x∈l,small x):av prog 236 [.fn (.func 234) [],.sl 1 [.sl 1 (l.map D.str)]] (.bool (l.all mZ)):=
 (adM 0 (aem 1000 (fun _=> .none)) (aaN _) oM l hl hs (fun _=> .none) (fun _ _=>rfl)).to (fun _ _ h=>h) (fun d' bx' h=>⟨.bool (l.all mZ),by rw[h.1];rfl,.refl _⟩)
def Lt(f:FuncId)(caps:List D)(n0:Nat)(bx0:ab)(p:ae->Bool):Prop:=
 ∀(bx:ab) (s:ae),(∀q,q<n0->bx q=bx0 q)->small s->az prog f 0 (.str s::caps) bx (fun d bx'=>(∃n:Int,d= .aL [.int .i64 n,.bool (p s)])/\∀q,q<100000->bx' q=bx q) (fun _ _=>False)
section
variable {f:FuncId} {caps:List D} {n0:Nat} {bx0:ab} {p:ae->Bool}
def ahX{e t:Nat}(hf:Lt f caps n0 bx0 p)(hn:n0<=200)(h3:bx0 203=⟨e,1,1,t,[.fn (.func f) caps]⟩):cT 232 [.loc 203 e 0 0] 204 100000 bx0 D.str small p:=by
 intro bx x hb hs;refine dY (fn:=f232) (tab:=[]) (base:=700) mixed ?_ rfl ar rfl;refine eG _ [.tmp 3] 13 rfl rfl rfl ar ?_;have g3:=(hb 203 oM).trans h3;simp(disch:=omega) only[go_sem,g3];refine ao (hf bx x (fun s hs=>hb s oM) hs) rfl ?_;rintro d aT ⟨⟨n,rfl⟩,eQ⟩;simp(disch:=omega) only[go_sem];exact eQ
structure SmE(x:Entry):Prop where
 text:small x.text
 cat:small x.cat
 len:x.aE.length<=140737488355328
 aE:∀s∈x.aE,small s
structure SmP(x:Part):Prop where
 text:small x.text
 cat:small x.cat
structure Ub(x:aF):Prop where
 cat:small x.cat
 Fo:x.parts.length<=140737488355328
 YI:x.aE.length<=140737488355328
 parts:∀y∈x.parts,SmP y
 aE:∀y∈x.aE,small y.text
structure ov(g:aA):Prop where
 name:small g.name
 start:small g.start
 Ih:g.aB.length<=140737488355328
 EY:g.entries.length<=140737488355328
 Dh:g.rules.length<=140737488355328
 aB:∀s∈g.aB,small s
 dw:∀x∈g.entries,SmE x
 rules:∀x∈g.rules,Ub x
def oC(p:ae->Bool)(x:Entry):Bool:=mZ x.text&&(p x.cat&&(qy 1 4 x.aE.length&&(x.aE.all mZ&&qy 0 1000 x.cost)))
def gG(p:ae->Bool)(x:Part):Bool:=(decide (x.text=[])&&p x.cat)||(!decide (x.text=[])&&(decide (x.cat=[])&&mZ x.text))
def abS{e t:Nat}{cf:FuncId}{cc:List D}{m0:Nat}(hc:cT cf cc m0 100000 bx0 D.str small p)(hm:m0<=206)(h5:bx0 205=⟨e,1,1,t,[.fn (.func cf) cc]⟩):cT 233 [.loc 205 e 0 0] 206 400 bx0 Entry.d SmE (oC p):=by
 intro bx x hb hx;refine dY (fn:=f233) (tab:=[]) (base:=400) mixed ?_ rfl ar rfl;refine eG _ [.tmp 3] 32 rfl rfl rfl ar ?_;have g5:=(hb 205 oM).trans h5;simp(disch:=omega) only[go_sem,g5,Entry.d,strs];refine aI (Cj x.text hx.text) sG ?_;simp(disch:=omega) only[go_sem,g5];refine aO (fun h1=>?_) (fun h1=>?_)
 ·simp(disch:=omega) only[go_sem,g5,h1];refine ao (hc _ x.cat (fun s hs=>awh) hx.cat) rfl ?_;rintro d aT ⟨rfl,eQ⟩;have g2:=eQ 402 oM;rw[aY]at g2;simp(disch:=omega) only[go_sem,g5,h1,g2];refine aO (fun h2=>?_) (fun h2=>?_)
  ·simp(disch:=omega) only[go_sem,g5,h1,h2,g2];refine aI (ri 1 4 x.aE.length) sG ?_;simp(disch:=omega) only[go_sem,g5,h1,h2,g2];refine aO (fun h3=>?_) (fun h3=>?_)
   ·simp(disch:=omega) only[go_sem,g5,h1,h2,h3,g2];refine aI (Jv x.aE hx.len hx.aE) (by simp[go_sem,ji]) ?_;simp(disch:=omega) only[go_sem,g5,h1,h2,h3,g2];refine aO (fun h4=>?_) (fun h4=>?_)
    ·simp(disch:=omega) only[go_sem,g5,h1,h2,h3,h4,g2];refine aI (ri 0 1000 x.cost) sG ?_;simp(disch:=omega) only[go_sem,g5,h1,h2,h3,h4,g2]
     grind [oC,al]
    ·simp(disch:=omega) only[go_sem,g5,h1,h2,h3,h4,g2]
     grind [oC,al]
   ·simp(disch:=omega) only[go_sem,g5,h1,h2,h3,g2]
    grind [oC,al]
  ·simp(disch:=omega) only[go_sem,g5,h1,h2,g2]
   grind [oC,al]
 ·simp(disch:=omega) only[go_sem,g5,h1]
  grind [oC]
def af6{e t:Nat}{cf:FuncId}{cc:List D}{m0:Nat}(hc:cT cf cc m0 100000 bx0 D.str small p)(hm:m0<=206)(h5:bx0 205=⟨e,1,1,t,[.fn (.func cf) cc]⟩):cT 237 [.loc 205 e 0 0] 206 650 bx0 Part.d SmP (gG p):=by
 intro bx x hb hx;refine dY (fn:=f237) (tab:=[]) (base:=650) mixed ?_ rfl ar rfl;refine eG _ [.tmp 3] 28 rfl rfl rfl ar ?_;have g5:=(hb 205 oM).trans h5;simp(disch:=omega) only[go_sem,g5,Part.d];refine aW (fun h1=>?_) (fun h1=>?_)
 ·simp(disch:=omega) only[go_sem,g5,h1];refine ao (hc _ x.cat (fun s hs=>awh) hx.cat) rfl ?_;rintro d aT ⟨rfl,eQ⟩;have g2:=eQ 652 oM;rw[aY]at g2;simp(disch:=omega) only[go_sem,g5,h1,g2];refine aO (fun h2=>?_) (fun h2=>?_)
  ·simp(disch:=omega) only[go_sem,g5,h1,h2,g2]
   grind [gG,al]
  ·simp(disch:=omega) only[go_sem,g5,h1,h2,g2]
   grind [gG,al]
 ·simp(disch:=omega) only[go_sem,g5,h1];refine aW (fun h2=>?_) (fun h2=>?_)
  ·simp(disch:=omega) only[go_sem,g5,h1,h2];refine aI (Cj x.text hx.text) sG ?_;simp(disch:=omega) only[go_sem,g5,h1,h2]
   grind [gG]
  ·simp(disch:=omega) only[go_sem,g5,h1,h2]
   grind [gG]
end
end Go.V.Ty
namespace Go.V.Ty
open Go.Proofs Go.Proofs.Tryz Go.RowKit Go.V.Lx Go.V.Gr
def eF(gs:List bt)(i:Nat):Nat:=gs.countP fun y=>decide (y.text=[])&&decide (y.part=(i:Int))
def qo(n:Nat)(y:bt):Bool:=if y.text=[]then qy 0 ((n:Int) - 1) y.part else decide (y.part=0)&&mZ y.text
def Qa(gs:List bt)(ps:List Part)(i:Nat):Bool:=ps[i]?.all fun q=>decide (eF gs i<=1)&&(decide (eF gs i=1)==decide (q.text=[]))
def tI(x:aF):Bool:=(List.range x.parts.length).all (Qa x.aE x.parts)
def jj(p:ae->Bool)(x:aF):Bool:=p x.cat&&(qy 1 4 x.parts.length&&(qy 1 8 x.aE.length&&(qy 0 1000 x.cost&&(x.parts.all (gG p)&&(x.aE.all (qo x.parts.length)&&tI x)))))
def vw(gs:List bt)(n:Nat):List D:=(List.range n).map fun i=>D.int .i64 (eF gs i:Int)
theorem Aq(gs:List bt)(n:Nat):(vw gs n).length=n:=by simp[vw]
theorem y6{gs:List bt}{n i:Nat}(h:i<n):(vw gs n)[i]? =some (.int .i64 (eF gs i:Int)):=by simp[vw,h]
def Yh(n:Nat):List.replicate n (D.int .i64 0)=vw [] n:=by
 apply agO
 grind [y6,eF,Aq]
theorem Mz(gs:List bt)(y:bt)(i:Nat):eF (gs++[y]) i=eF gs i+if y.text=[]/\y.part=(i:Int)then 1 else 0:=by simp_all[eF]
def UJ{gs:List bt}{y:bt}{n:Nat}(h:¬y.text=[]):vw (gs++[y]) n=vw gs n:=by simp_all[vw,Mz]
def Yi{gs:List bt}{y:bt}{n k:Nat}(h:y.text=[])(hk:y.part=(k:Int))(hn:k<n):(vw gs n).set k (.int .i64 ((eF gs k+1:Nat):Int))=vw (gs++[y]) n:=by
 apply agO
 grind [y6,Mz,Aq]
def ad6(gs:List bt)(i:Nat):eF gs i<=gs.length:=List.countP_le_length
def I9{p:ae->Bool}{x:aF}{y:bt}(hy:y∈x.aE)(h:qo x.parts.length y=false):jj p x=false:=by grind [jj]
def ad0{gs:List bt}{ps:List Part}{i:Nat}{q:Part}(h:ps[i]? =some q):Qa gs ps i=(decide (eF gs i<=1)&&(decide ((eF gs i:Int)=1)==decide (q.text=[]))):=by grind [Qa]
def OC{p:ae->Bool}{x:aF}{j:Nat}(hj:j<x.parts.length)(h:Qa x.aE x.parts j=false):jj p x=false:=by grind [tI,jj]
section
variable {p:ae->Bool} {bx0:ab}
def agq{e t e' t':Nat}{cf:FuncId}{cc:List D}{m0:Nat}(hc:cT cf cc m0 100000 bx0 D.str small p)(hm:m0<=206)(h5:bx0 205=⟨e,1,1,t,[.fn (.func cf) cc]⟩)(h7:bx0 207=⟨e',1,1,t',[.fn (.func 237) [.loc 205 e 0 0]]⟩):
 cT 238 [.loc 205 e 0 0,.loc 207 e' 0 0] 208 500 bx0 aF.d Ub (jj p):=by
 intro bx x hb hx;refine dY (fn:=f238) (tab:=[]) (base:=500) mixed ?_ rfl ar rfl;refine eG _ [.tmp 4] 112 rfl rfl rfl ar ?_;have g5:=(hb 205 oM).trans h5;have g7:=(hb 207 oM).trans h7;simp(disch:=omega) only[go_sem,g5,aF.d];refine ao (hc _ x.cat (fun s hs=>awh) hx.cat) rfl ?_;rintro d aT ⟨rfl,eQ⟩;have g2:=eQ 503 oM;rw[aY]at g2;have g5':=(eQ 205 oM).trans ((al oM).trans g5);have g7':=(eQ 207 oM).trans ((al oM).trans g7);cases h1:p x.cat
 ·simp(disch:=omega) only[go_sem,g5,h1,g2,aaV,aaX]
  grind [jj,al]
 simp(disch:=omega) only[go_sem,g5,h1,g2,aaV,aaX];refine aI (ri 1 4 x.parts.length) sG ?_;cases h3:qy 1 4 x.parts.length
 ·simp(disch:=omega) only[go_sem,g5,h1,h3,g2,aaV,aaX]
  grind [jj,al]
 simp(disch:=omega) only[go_sem,g5,h1,h3,g2,aaV,aaX];refine aI (ri 1 8 x.aE.length) sG ?_;cases h4:qy 1 8 x.aE.length
 ·simp(disch:=omega) only[go_sem,g5,h1,h3,h4,g2,aaV,aaX]
  grind [jj,al]
 simp(disch:=omega) only[go_sem,g5,h1,h3,h4,g2,aaV,aaX];refine aI (ri 0 1000 x.cost) sG ?_;cases h6:qy 0 1000 x.cost
 ·simp(disch:=omega) only[go_sem,g5,h1,h3,h4,h6,g2,aaV,aaX]
  grind [jj,al]
 simp(disch:=omega) only[go_sem,g5,h1,h3,h4,h6,g2,g7',aaV,aaX];refine ao (adK 612 (af6 hc hm h5) oM oM x.parts hx.Fo hx.parts aT (fun s hs=>(eQ s oM).trans ((al oM).trans (hb s oM)))) rfl ?_;rintro d jD ⟨rfl,Kc⟩;replace g2:=(Kc 503 oM).trans g2;cases h8:x.parts.all (gG p)
 ·simp(disch:=omega) only[go_sem,h8,aaV,aaX]
  grind [jj,al]
 have hp4:1<=x.parts.length/\x.parts.length<=4:=by simp[qy]at h3;omega
 have VE:1<=x.aE.length/\x.aE.length<=8:=by simp[qy]at h4;omega
 have hz:=Yh x.parts.length;have k0:(0:Int)<=(x.parts.length:Int):=oM;have k1:(x.parts.length:Int)<=(x.parts.length:Int):=oM;have k2:(x.parts.length:Int) * ((8:Nat):Int)<=140737488355328:=oM;generalize hE:(bx 503).ep+1=E at g2;have nd:∀s,s<500->jD s=bx s:=fun s hs=>(Kc s oM).trans ((eQ s oM).trans (al oM));obtain⟨e5,he5⟩:∃e5,(jD 549).ep+1=e5:=⟨_,rfl⟩
 simp(disch:=omega) only[go_sem,h8,g2,aaV,aaX,hz,k0,k1,k2,he5];refine bB x.aE.length (fun j σ bx'=>σ 3= .loc 503 E 0 0/\σ 5= .ba 549 e5 1 0 x.parts.length/\σ 51= .sl 2 (x.aE.map bt.d)/\σ 52= .int .i64 x.aE.length/\σ 53= .int .i64 j/\bx' 503=⟨E,1,5,157,[x.d]⟩/\bx' 549=⟨e5,1,1,3,vw (x.aE.take j) x.parts.length⟩/\(x.aE.take j).all (qo x.parts.length)=true/\∀s,s<500->bx' s=bx s) ?_ ?_ ?_
 ·simp(disch:=omega) only[go_sem,g2,he5,Aq,akw,aF.d]
  exact awN
 ·rintro j σ bx' hj ⟨q3,q5,WN,WO,Rw,b3,vu,bm,hk⟩;obtain⟨y,hy⟩:=bk hj;have au:(j:Int)<(x.aE.length:Int):=oM;have hsy:small y.text:=hx.aE y (aat hy);have rD:x.aE.take (j+1)=x.aE.take j++[y]:=auJ
  simp(disch:=omega) only[go_sem,q3,q5,WN,WO,Rw,b3,vu,au,hy,bt.d];have hw:IntKind.i64.wrap ((x.parts.length:Int) - 1)=(x.parts.length:Int) - 1:=wrap_i64 oM oM;have vQ:IntKind.i64.wrap ((j:Int)+1)=((j+1:Nat):Int):=aR oM;have eB:(x.aE.take (j+1)).all (qo x.parts.length)=qo x.parts.length y:=awN
  refine aW (fun c1=>?_) (fun c1=>?_)
  ·simp(disch:=omega) only[go_sem,q5,hw];refine aI (ri 0 ((x.parts.length:Int) - 1) y.part) sG ?_;cases c2:qy 0 ((x.parts.length:Int) - 1) y.part
   ·simp(disch:=omega) only[go_sem,c2,aaV];refine⟨(I9 (aat hy) (by rw[qo,aaO c1,c2])).symm▸rfl,fun s hs=>?_⟩
    exact awN
   ·have c3:0<=y.part/\y.part<x.parts.length:=by simp[qy]at c2;omega
    obtain⟨n,hn⟩:∃n:Nat,y.part=n:=⟨y.part.toNat,oM⟩
    have GM:n<x.parts.length:=oM;have hn3:(n:Int)<(x.parts.length:Int):=oM;have hle:=ad6 (x.aE.take j) n;have hle2:(x.aE.take j).length<=x.aE.length:=List.length_take_le' ..;have nG:IntKind.i64.wrap ((eF (x.aE.take j) n:Int)+1)=((eF (x.aE.take j) n+1:Nat):Int):=aR oM;simp(disch:=omega) only[go_sem,c2,aaX,q3,q5,WN,WO,Rw,vQ,hn,hn3,nG,y6 GM,vu,b3,Aq,Yi c1 hn GM];rw[<-rD,eB];refine⟨rfl,by simp_all[qo],fun s hs=>?_⟩
    exact awN
  ·simp(disch:=omega) only[go_sem];refine aW (fun c2=>?_) (fun c2=>?_)
   ·have Ut:(!decide (y.part=0))=false:=by simp[c2]
    simp(disch:=omega) only[go_sem,Ut];refine aI (Cj y.text hsy) sG ?_;cases c4:mZ y.text
    ·simp(disch:=omega) only[go_sem,Ut,c4,aaV];refine⟨(I9 (aat hy) (by rw[qo,aaw c1,c4,akP])).symm▸rfl,fun s hs=>?_⟩
     exact awN
    ·simp(disch:=omega) only[go_sem,Ut,c4,aaX,q3,q5,WN,WO,Rw,vQ,vu,b3];rw[eB,rD,UJ c1];refine⟨rfl,by simp_all[qo],fun s hs=>?_⟩
     exact awN
   ·have Ut:(!decide (y.part=0))=true:=by simp[c2]
    simp(disch:=omega) only[go_sem,Ut];refine⟨(I9 (aat hy) (by rw[qo,aaw c1,aeH c2,akN])).symm▸rfl,fun s hs=>?_⟩
    exact awN
 ·rintro σ bx' ⟨q3,q5,WN,WO,Rw,b3,vu,bm,hk⟩;have au:¬(x.aE.length:Int)<(x.aE.length:Int):=oM;simp(disch:=omega) only[go_sem,q3,q5,WN,WO,Rw,au,b3,vu,aF.d];rw[aaP]at bm vu;refine bB x.parts.length (fun j σ bx'=>σ 5= .ba 549 e5 1 0 x.parts.length/\σ 88= .sl 3 (x.parts.map Part.d)/\σ 89= .int .i64 x.parts.length/\σ 90= .int .i64 j/\bx' 549=⟨e5,1,1,3,vw x.aE x.parts.length⟩/\(∀i,i<j->Qa x.aE x.parts i=true)/\∀s,s<500->bx' s=bx s) ?_ ?_ ?_
  ·simp(disch:=omega) only[go_sem,q5,vu]
   exact awN
  ·rintro j σ bx' hj ⟨q5,WQ,WR,WS,vu,hc,hk⟩;obtain⟨y,hy⟩:=bk hj;have au:(j:Int)<(x.parts.length:Int):=oM;have vQ:IntKind.i64.wrap ((j:Int)+1)=((j+1:Nat):Int):=aR oM;simp(disch:=omega) only[go_sem,q5,WQ,WR,WS,au,hy,Part.d,vu,y6 hj];have iR:=ad0 (gs:=x.aE) hy;cases c1:(decide ((eF x.aE j:Int)=1)==decide (y.text=[]))
   ·rw[c1,akP]at iR;simp(disch:=omega) only[go_sem,c1,aaV,aaX];refine⟨(OC hj iR).symm▸rfl,fun s hs=>?_⟩
    exact awN
   ·rw[c1,afN]at iR;simp(disch:=omega) only[go_sem,c1,aaX,vu,y6 hj,au,q5,WQ,WR,WS];refine aW (fun c2=>?_) (fun c2=>?_)
    ·simp(disch:=omega) only[go_sem,c2,abq];refine⟨(OC hj awN).symm▸rfl,fun s hs=>?_⟩
     exact awN
    ·simp(disch:=omega) only[go_sem,c2,adX,q5,WQ,WR,WS,vu,vQ]
     exact awN
  ·rintro σ bx' ⟨q5,WQ,WR,WS,vu,hc,hk⟩;have au:¬(x.parts.length:Int)<(x.parts.length:Int):=oM;simp(disch:=omega) only[go_sem,q5,WQ,WR,WS,au];simp_all[tI,jj]
end
end Go.V.Ty
