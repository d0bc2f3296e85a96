/- Lemmas on plain data and programs: part B26. -/
import Derived.Test.YtkknfajchefgaaaGreatDoorB25
set_option linter.all false
set_option maxHeartbeats 8000000
set_option maxRecDepth 100000
namespace Go.V.Gr
open Go.Proofs Go.Proofs.Tryz Go.RowKit Go.V.Lx
def lE{p:Prop}(h:p:=by simp only[aaY,afs,List.flatMap_nil,aez,It.bW,aa5,aeW];omega):p:=h
def TX:List Nat:=[48,52,54,56]
def KG(bx bx':ab):Prop:=∀q,q<200->q≠9->q∉TX->bx' q=bx q
theorem KG.refl(bx:ab):KG bx bx:=fun _ _ _ _=>rfl
theorem KG.ah{bx bx':ab}(h:KG bx bx'){t:Nat}(ht:t∈TX)(v:Bx):KG bx (ah bx' t v):=fun q h1 h2 h3=>by rw[al awN];exact h q h1 h2 h3
theorem nk.ah{bx:ab}{e:Nat}{ys:List Tk}(h:nk bx e ys){t:Nat}(h1:t≠9)(h2:t∉iV)(v:Bx):nk (ah bx t v) e ys:=by
 obtain⟨l,h9,hv⟩:=h;exact⟨l,by simp_all[al,Ne.symm],hv.of fun q hq=>al awN⟩
def pB(m:List It){e:Nat}{bx bx':ab}{ys:List Tk}(hw:nk bx' e ys)(hK:KG bx bx')(hn:ys.length+2 * m.length<=999990):
 az prog 84 0 [.loc 9 e 0 0,.sl 1 (m.map It.d)] bx' (fun d b2=>d= .aL []/\nk b2 e (ys++m.flatMap It.bW)/\KG bx b2/\∀q,q<200->q≠9->b2 q=bx' q) (fun _ _=>False):=
 (kS m e bx' ys hw hn).mono (fun d b2 h=>⟨h.1,h.2.1,fun q h1 h2 h3=>(h.2.2 q h1 h2).trans (hK q h1 h2 h3),h.2.2⟩) (fun _ _ h=>h)
theorem oF{α:Type}(f:α->List Tk){l:List α}{k:Nat}{x:α}(h:l[k]? =some x):(l.take (k+1)).flatMap f=(l.take k).flatMap f++f x:=auJ
theorem y9{α:Type}(f:α->List Tk)(l:List α)(k:Nat):((l.take k).flatMap f).length<=(l.flatMap f).length:=by
 have:=aaR (fun m=>(m.flatMap f).length) (aeZ k l)
 exact awN
def Ir{α:Type}(f:α->List Tk){l:List α}{k:Nat}{x:α}(h:l[k]? =some x):((l.take k).flatMap f).length+(f x).length<=(l.flatMap f).length:=by
 have:=y9 f l (k+1)
 grind [oF]
theorem Gt{l:List ae}{k:Nat}{x:ae}(h:l[k]? =some x):e_ (l.take (k+1))=e_ (l.take k)++(if k=0 then[nT x]else l_ x):=by
 cases l with
 |nil=>cases h
 |cons a l=>
  cases k<;>simp_all[e_,oF]
theorem YH(l:List ae)(k:Nat):(e_ (l.take k)).length<=(e_ l).length:=by
 cases l with
 |nil=>simp
 |cons a l=>
  cases k<;>grind [e_,y9]
def Vf(g:aA)(e:Nat)(bx:ab)(hw:nk bx e [])(hn:(bf g).length<=900000)(hc:g.aB.length<=1000000)(he:g.entries.length<=1000000)(hr:g.rules.length<=1000000)
 (VG:∀x∈g.entries,x.aE.length<=1000000) (Ki:∀x∈g.rules,x.parts.length<=1000000/\x.aE.length<=1000000):
 az prog 47 0 [.loc 9 e 0 0,g.d] bx (fun d bx'=>d= .aL []/\nk bx' e (bf g)/\∀q,q<41->q≠9->bx' q=bx q) (fun _ _=>False):=by
 refine fB 149 41 f47 [] [] ?_;have rz:g.d= .agg [.str g.name,strs g.aB,.str g.start,.int .i64 g.no,.sl 5 (g.entries.map Entry.d),.sl 5 (g.rules.map aF.d)]:=rfl;rw[rz];simp(disch:=omega) only[go_sem,strs,D.pure];obtain⟨bx1,gN⟩:∃b,b=ah bx 44 ⟨(bx 44).ep+1,1,6,78,[.agg [.str g.name,.sl 1 (g.aB.map D.str),.str g.start,.int .i64 g.no,.sl 5 (g.entries.map Entry.d),.sl 5 (g.rules.map aF.d)]]⟩:=⟨_,rfl⟩
 rw[<-gN];have hG:bx1 44=⟨(bx 44).ep+1,1,6,78,[.agg [.str g.name,.sl 1 (g.aB.map D.str),.str g.start,.int .i64 g.no,.sl 5 (g.entries.map Entry.d),.sl 5 (g.rules.map aF.d)]]⟩:=by rw[gN,aY]
 have hQ:∀q,q≠44->bx1 q=bx q:=fun q h=>by rw[gN,al h]
 have CG:nk bx1 e []:=gN▸hw.ah oM awL _;clear gN hw;have t1:[nT kN,nT g.name,sT [59]].length+(g.aB.flatMap kL).length+3+(g.entries.flatMap dn).length+(g.rules.flatMap dN).length<=900000:=by grind [bf,g_,List.length_cons]
 simp only[aa5,aeW]at t1;refine ao (pB [.w kN,.n g.name,.w [59]] CG (KG.refl bx1) sI) rfl ?_;rintro d b2 ⟨rfl,nG,zk,-⟩;have hG2:=(zk 44 oM oM awL).trans hG;clear CG;simp only[adC]at nG;simp(disch:=omega) only[go_sem,hG2,strs,D.pure];refine bB g.aB.length (fun k σ bx'=>σ 0= .loc 9 e 0 0/\σ 3= .loc 44 ((bx 44).ep+1) 0 0/\σ 25= .sl 1 (g.aB.map D.str)/\σ 26= .int .i64 g.aB.length/\σ 27= .int .i64 k/\nk bx' e ([It.w kN,It.n g.name,It.w [59]].flatMap It.bW++(g.aB.take k).flatMap kL)/\KG bx1 bx')
  ⟨avB,avB,sG,sG,sG,awN,zk⟩ ?_ ?_
 ·rintro k σ bx' hk ⟨h0,h3,J3,Nf,Ng,eL,ez⟩;obtain⟨x,hx⟩:=bk hk;have au:(k:Int)<(g.aB.length:Int):=oM;have xX:IntKind.i64.wrap ((k:Int)+1)=((k+1:Nat):Int):=aR oM;have hle:=y9 kL g.aB k;simp(disch:=omega) only[go_sem,h0,h3,J3,Nf,Ng,au,hx,D.pure];refine ao (pB [.w h_,.n x,.w [59]] eL ez (by grind [It.bW])) rfl ?_;rintro d b3 ⟨rfl,tC,od,-⟩;simp(disch:=omega) only[go_sem,h0,h3,J3,Nf,Ng,xX];refine⟨?_,od⟩;rw[oF kL hx,<-aaU];exact tC
 rintro σ bx' ⟨h0,h3,J3,Nf,Ng,eL,ez⟩;have au:¬(g.aB.length:Int)<(g.aB.length:Int):=oM;have QH:=(ez 44 oM oM awL).trans hG;rw[aaP]at eL;clear nG zk hG2;simp(disch:=omega) only[go_sem,h0,h3,J3,Nf,Ng,au,QH,D.pure];refine ao (pB [.w qF,.n g.start,.w [59]] eL ez (by grind [It.bW])) rfl ?_;rintro d b3 ⟨rfl,tC,od,-⟩;have hG3:=(od 44 oM oM awL).trans hG;have hh:[It.w kN,It.n g.name,It.w [59]].flatMap It.bW++g.aB.flatMap kL++[It.w qF,It.n g.start,It.w [59]].flatMap It.bW=g_ g.name g.aB g.start:=by rw[aaU];rfl
 rw[hh]at tC;have hhl:(g_ g.name g.aB g.start).length=(g.aB.flatMap kL).length+6:=by grind [g_]
 clear eL ez QH;simp(disch:=omega) only[go_sem,h0,h3,J3,Nf,Ng,hG3];refine bB g.entries.length (fun k σ bx'=>σ 0= .loc 9 e 0 0/\σ 3= .loc 44 ((bx 44).ep+1) 0 0/\σ 48= .sl 5 (g.entries.map Entry.d)/\σ 49= .int .i64 g.entries.length/\σ 50= .int .i64 k/\nk bx' e (g_ g.name g.aB g.start++(g.entries.take k).flatMap dn)/\KG bx1 bx')
  ⟨avG,by simp[go_sem,h3],sG,sG,sG,awN,od⟩ ?_ ?_
 ·clear h0 h3 J3 Nf Ng au tC od hG3 σ bx';rintro k σ bx' hk ⟨h0,h3,ry,sA,sB,eL,ez⟩;obtain⟨x,hx⟩:=bk hk;have au:(k:Int)<(g.entries.length:Int):=oM;have xX:IntKind.i64.wrap ((k:Int)+1)=((k+1:Nat):Int):=aR oM;have hle:=Ir dn hx;have iI:x.d= .agg [.str x.text,.str x.cat,.int .i64 x.no,.sl 1 (x.aE.map D.str),.int .i64 x.cost]:=rfl;have xS:=VG x (aat hx);have fO:(dn x).length=5+(e_ x.aE).length+3:=by grind [dn,lN]
  simp(disch:=omega) only[go_sem,h0,h3,ry,sA,sB,au,hx,iI,D.pure];obtain⟨aT,oe⟩:∃b,b=ah (ah bx' 48 ⟨(bx' 48).ep+1,1,5,152,[.agg [.str [],.str [],.int .i64 0,.ak,.int .i64 0]]⟩) 48 ⟨(bx' 48).ep+1,1,5,152,[.agg [.str x.text,.str x.cat,.int .i64 x.no,.sl 1 (x.aE.map D.str),.int .i64 x.cost]]⟩:=⟨_,rfl⟩
  rw[<-oe];have hX:aT 48=⟨(bx' 48).ep+1,1,5,152,[.agg [.str x.text,.str x.cat,.int .i64 x.no,.sl 1 (x.aE.map D.str),.int .i64 x.cost]]⟩:=by rw[oe,aY]
  have nG:=oe▸(eL.ah (t:=48) oM awL _).ah (t:=48) oM awL _;have zk:=oe▸(ez.ah (t:=48) awL _).ah (t:=48) awL _;clear oe eL ez;generalize(bx' 48).ep+1=eX at hX⊢;refine ao (pB [.w gL,.n x.text,.w EL,.n x.cat,.w iC] nG zk awN) rfl ?_;rintro d b3 ⟨rfl,tC,od,BI⟩;replace hX:=(BI 48 oM oM).trans hX;clear nG zk BI;simp(disch:=omega) only[go_sem,h0,h3,ry,sA,sB,hX];refine bB x.aE.length (fun j σ b=>σ 0= .loc 9 e 0 0/\σ 3= .loc 44 ((bx 44).ep+1) 0 0/\σ 48= .sl 5 (g.entries.map Entry.d)/\σ 49= .int .i64 g.entries.length/\σ 50= .int .i64 k/\σ 7= .loc 48 eX 0 0/\σ 67= .sl 1 (x.aE.map D.str)/\σ 68= .int .i64 x.aE.length/\σ 69= .int .i64 j/\b 48=⟨eX,1,5,152,[.agg [.str x.text,.str x.cat,.int .i64 x.no,.sl 1 (x.aE.map D.str),.int .i64 x.cost]]⟩/\nk b e (g_ g.name g.aB g.start++(g.entries.take k).flatMap dn++[It.w gL,It.n x.text,It.w EL,It.n x.cat,It.w iC].flatMap It.bW++e_ (x.aE.take j))/\KG bx1 b)
   ⟨avG,by simp[go_sem,h3],by simp[go_sem,ry],by simp[go_sem,sA],by simp[go_sem,sB],sG,sG,sG,sG,hX,by grind [e_],od⟩ ?_ ?_
  ·clear h0 h3 ry sA sB au hX tC od σ bx' b3;rintro j σ b hj ⟨h0,h3,ry,sA,sB,h7,J4,J5,J6,hX,eL,ez⟩;obtain⟨y,hy⟩:=bk hj;have au:(j:Int)<(x.aE.length:Int):=oM;have IF:IntKind.i64.wrap ((j:Int)+1)=((j+1:Nat):Int):=aR oM;have afb:=YH x.aE j;simp(disch:=omega) only[go_sem,h0,h3,ry,sA,sB,h7,J4,J5,J6,au,hy,D.pure];refine aW (fun hj0=>?_) (fun hj0=>?_)
   ·simp(disch:=omega) only[go_sem,h0,h3,ry,sA,sB,h7,J4,J5,J6,au,hy,D.pure];refine ao (pB [.w [44]] eL ez lE) rfl ?_;rintro d b3 ⟨rfl,tC,od,BI⟩;replace hX:=(BI 48 oM oM).trans hX;simp(disch:=omega) only[go_sem,h0,h3,ry,sA,sB,h7,J4,J5,J6,D.pure];refine ao (pB [.n y] tC od lE) rfl ?_;rintro d b4 ⟨rfl,hw4,Vk,Nz⟩;replace hX:=(Nz 48 oM oM).trans hX;simp(disch:=omega) only[go_sem,h0,h3,ry,sA,sB,h7,J4,J5,J6,IF];refine⟨hX,?_,Vk⟩;rw[Gt hy,aaw oM,<-aaU];have:l_ y=[It.w [44]].flatMap It.bW++[It.n y].flatMap It.bW:=rfl
    exact awN
   ·simp(disch:=omega) only[go_sem,h0,h3,ry,sA,sB,h7,J4,J5,J6,au,hy,D.pure];refine ao (pB [.n y] eL ez lE) rfl ?_;rintro d b4 ⟨rfl,hw4,Vk,Nz⟩;replace hX:=(Nz 48 oM oM).trans hX;simp(disch:=omega) only[go_sem,h0,h3,ry,sA,sB,h7,J4,J5,J6,IF];refine⟨hX,?_,Vk⟩;rw[Gt hy,aaO oM,<-aaU];exact hw4
  ·clear h0 h3 ry sA sB au hX tC od σ bx' b3;rintro σ b ⟨h0,h3,ry,sA,sB,h7,J4,J5,J6,hX,eL,ez⟩;have au:¬(x.aE.length:Int)<(x.aE.length:Int):=oM;rw[aaP]at eL;simp(disch:=omega) only[go_sem,h0,h3,ry,sA,sB,h7,J4,J5,J6,au,hX,D.pure];refine ao (pB [.w tp,.i x.cost,.w [59]] eL ez lE) rfl ?_;rintro d b3 ⟨rfl,tC,od,BI⟩;simp(disch:=omega) only[go_sem,h0,h3,ry,sA,sB,xX];refine⟨?_,od⟩;rw[oF dn hx,<-aaU];have:dn x=[It.w gL,It.n x.text,It.w EL,It.n x.cat,It.w iC].flatMap It.bW++(e_ x.aE++[It.w tp,It.i x.cost,It.w [59]].flatMap It.bW):=rfl
   exact awN
 clear h0 h3 J3 Nf Ng au tC od hG3 σ bx';rintro σ bx' ⟨h0,h3,ry,sA,sB,eL,ez⟩;have au:¬(g.entries.length:Int)<(g.entries.length:Int):=oM;have QH:=(ez 44 oM oM awL).trans hG;rw[aaP]at eL;simp(disch:=omega) only[go_sem,h0,h3,ry,sA,sB,au,QH,D.pure];refine bB g.rules.length (fun k σ bx'=>σ 0= .loc 9 e 0 0/\σ 96= .sl 5 (g.rules.map aF.d)/\σ 97= .int .i64 g.rules.length/\σ 98= .int .i64 k/\nk bx' e (g_ g.name g.aB g.start++g.entries.flatMap dn++(g.rules.take k).flatMap dN)/\KG bx1 bx')
  ⟨avG,sG,sG,sG,awN,ez⟩ ?_ ?_
 ·clear h0 h3 ry sA sB au eL ez QH σ bx';rintro k σ bx' hk ⟨h0,pK,pL,pM,eL,ez⟩;obtain⟨x,hx⟩:=bk hk;have au:(k:Int)<(g.rules.length:Int):=oM;have xX:IntKind.i64.wrap ((k:Int)+1)=((k+1:Nat):Int):=aR oM;have hle:=Ir dN hx;have iI:x.d= .agg [.str x.cat,.int .i64 x.no,.sl 3 (x.parts.map Part.d),.sl 2 (x.aE.map bt.d),.int .i64 x.cost]:=rfl;obtain⟨nF,xS⟩:=Ki x (aat hx);have fO:(dN x).length=3+((x.parts.flatMap dM).length+(1+((x.aE.flatMap dI).length+3))):=by grind [dN,lN]
  simp(disch:=omega) only[go_sem,h0,pK,pL,pM,au,hx,iI,D.pure];obtain⟨aT,oe⟩:∃b,b=ah (ah bx' 52 ⟨(bx' 52).ep+1,1,5,157,[.agg [.str [],.int .i64 0,.ak,.ak,.int .i64 0]]⟩) 52 ⟨(bx' 52).ep+1,1,5,157,[.agg [.str x.cat,.int .i64 x.no,.sl 3 (x.parts.map Part.d),.sl 2 (x.aE.map bt.d),.int .i64 x.cost]]⟩:=⟨_,rfl⟩
  rw[<-oe];have hX:aT 52=⟨(bx' 52).ep+1,1,5,157,[.agg [.str x.cat,.int .i64 x.no,.sl 3 (x.parts.map Part.d),.sl 2 (x.aE.map bt.d),.int .i64 x.cost]]⟩:=by rw[oe,aY]
  have nG:=oe▸(eL.ah (t:=52) oM awL _).ah (t:=52) oM awL _;have zk:=oe▸(ez.ah (t:=52) awL _).ah (t:=52) awL _;clear oe eL ez;generalize(bx' 52).ep+1=eX at hX⊢;refine ao (pB [.w gJ,.n x.cat,.w [61]] nG zk lE) rfl ?_;rintro d b3 ⟨rfl,tC,od,BI⟩;replace hX:=(BI 52 oM oM).trans hX;clear nG zk BI;simp(disch:=omega) only[go_sem,h0,pK,pL,pM,hX];refine bB x.parts.length (fun j σ b=>σ 0= .loc 9 e 0 0/\σ 96= .sl 5 (g.rules.map aF.d)/\σ 97= .int .i64 g.rules.length/\σ 98= .int .i64 k/\σ 11= .loc 52 eX 0 0/\σ 111= .sl 3 (x.parts.map Part.d)/\σ 112= .int .i64 x.parts.length/\σ 113= .int .i64 j/\b 52=⟨eX,1,5,157,[.agg [.str x.cat,.int .i64 x.no,.sl 3 (x.parts.map Part.d),.sl 2 (x.aE.map bt.d),.int .i64 x.cost]]⟩/\nk b e (g_ g.name g.aB g.start++g.entries.flatMap dn++(g.rules.take k).flatMap dN++[It.w gJ,It.n x.cat,It.w [61]].flatMap It.bW++(x.parts.take j).flatMap dM)/\KG bx1 b)
   ⟨avG,by simp[go_sem,pK],by simp[go_sem,pL],by simp[go_sem,pM],sG,sG,sG,sG,hX,awN,od⟩ ?_ ?_
  ·clear h0 pK pL pM au hX tC od σ bx' b3;rintro j σ b hj ⟨h0,pK,pL,pM,gM,Ix,Iy,Iz,hX,eL,ez⟩;obtain⟨y,hy⟩:=bk hj;have au:(j:Int)<(x.parts.length:Int):=oM;have IF:IntKind.i64.wrap ((j:Int)+1)=((j+1:Nat):Int):=aR oM;have afb:=y9 dM x.parts j;have oL:y.d= .agg [.str y.cat,.int .i64 y.no,.str y.text]:=rfl;simp(disch:=omega) only[go_sem,h0,pK,pL,pM,gM,Ix,Iy,Iz,au,hy,oL,D.pure,D.aH];refine ao (pB [.p y] ((eL.ah (t:=54) oM awL _).ah (t:=54) oM awL _) ((ez.ah (t:=54) awL _).ah (t:=54) awL _) lE) rfl ?_;rintro d b4 ⟨rfl,hw4,Vk,Nz⟩;replace hX:=(Nz 52 oM oM).trans (((al oM).trans (al oM)).trans hX);simp(disch:=omega) only[go_sem,h0,pK,pL,pM,gM,Ix,Iy,Iz,IF]
   grind [oF,It.bW]
  ·clear h0 pK pL pM au hX tC od σ bx' b3;rintro σ b ⟨h0,pK,pL,pM,gM,Ix,Iy,Iz,hX,eL,ez⟩;have au:¬(x.parts.length:Int)<(x.parts.length:Int):=oM;rw[aaP]at eL;simp(disch:=omega) only[go_sem,h0,pK,pL,pM,gM,Ix,Iy,Iz,au,hX,D.pure];refine ao (pB [.w iC] eL ez lE) rfl ?_;rintro d b3 ⟨rfl,tC,od,BI⟩;replace hX:=(BI 52 oM oM).trans hX;clear eL ez BI;simp(disch:=omega) only[go_sem,h0,pK,pL,pM,gM,hX];refine bB x.aE.length (fun j σ b=>σ 0= .loc 9 e 0 0/\σ 96= .sl 5 (g.rules.map aF.d)/\σ 97= .int .i64 g.rules.length/\σ 98= .int .i64 k/\σ 11= .loc 52 eX 0 0/\σ 128= .sl 2 (x.aE.map bt.d)/\σ 129= .int .i64 x.aE.length/\σ 130= .int .i64 j/\b 52=⟨eX,1,5,157,[.agg [.str x.cat,.int .i64 x.no,.sl 3 (x.parts.map Part.d),.sl 2 (x.aE.map bt.d),.int .i64 x.cost]]⟩/\nk b e (g_ g.name g.aB g.start++g.entries.flatMap dn++(g.rules.take k).flatMap dN++[It.w gJ,It.n x.cat,It.w [61]].flatMap It.bW++x.parts.flatMap dM++[It.w iC].flatMap It.bW++(x.aE.take j).flatMap dI)/\KG bx1 b)
    ⟨avG,by simp[go_sem,pK],by simp[go_sem,pL],by simp[go_sem,pM],by simp[go_sem,gM],sG,sG,sG,hX,awN,od⟩ ?_ ?_
   ·clear h0 pK pL pM gM Ix Iy Iz au hX tC od σ b b3;rintro j σ b hj ⟨h0,pK,pL,pM,gM,SK,SL,SM,hX,eL,ez⟩;obtain⟨y,hy⟩:=bk hj;have au:(j:Int)<(x.aE.length:Int):=oM;have IF:IntKind.i64.wrap ((j:Int)+1)=((j+1:Nat):Int):=aR oM;have afb:=y9 dI x.aE j;have oL:y.d= .agg [.int .i64 y.part,.str y.text]:=rfl;simp(disch:=omega) only[go_sem,h0,pK,pL,pM,gM,SK,SL,SM,au,hy,oL,D.pure,D.aH];refine ao (pB [.g y] ((eL.ah (t:=56) oM awL _).ah (t:=56) oM awL _) ((ez.ah (t:=56) awL _).ah (t:=56) awL _) lE) rfl ?_;rintro d b4 ⟨rfl,hw4,Vk,Nz⟩;replace hX:=(Nz 52 oM oM).trans (((al oM).trans (al oM)).trans hX);simp(disch:=omega) only[go_sem,h0,pK,pL,pM,gM,SK,SL,SM,IF]
    grind [oF,It.bW]
   ·clear h0 pK pL pM gM Ix Iy Iz au hX tC od σ b b3;rintro σ b ⟨h0,pK,pL,pM,gM,SK,SL,SM,hX,eL,ez⟩;have au:¬(x.aE.length:Int)<(x.aE.length:Int):=oM;rw[aaP]at eL;simp(disch:=omega) only[go_sem,h0,pK,pL,pM,gM,SK,SL,SM,au,hX,D.pure];refine ao (pB [.w tp,.i x.cost,.w [59]] eL ez lE) rfl ?_;rintro d b3 ⟨rfl,tC,od,BI⟩;simp(disch:=omega) only[go_sem,h0,pK,pL,pM,xX];refine⟨?_,od⟩;rw[oF dN hx,<-aaU];have:dN x=[It.w gJ,It.n x.cat,It.w [61]].flatMap It.bW++(x.parts.flatMap dM++([It.w iC].flatMap It.bW++(x.aE.flatMap dI++[It.w tp,It.i x.cost,It.w [59]].flatMap It.bW))):=rfl
    exact awN
 clear h0 h3 ry sA sB au eL ez QH σ bx';rintro σ bx' ⟨h0,pK,pL,pM,eL,ez⟩;have au:¬(g.rules.length:Int)<(g.rules.length:Int):=oM;rw[aaP]at eL;simp(disch:=omega) only[go_sem,h0,pK,pL,pM,au];refine⟨?_,fun q h1 h2=>(ez q oM h2 (by simp[TX];omega)).trans (hQ q oM)⟩
 grind [bf]
def MQ(l m:List ae)(hl:l.length<=140737488355328)(hm:m.length<=140737488355328):av prog 92 [strs l,strs m] (.bool (decide (l=m))):=by
 refine fF f92 [] [.tmp 4] ?_;simp(disch:=omega) only[go_sem,strs];refine aW (fun h1=>?_) (fun h1=>?_)
 ·have h1:l.length=m.length:=oM;simp(disch:=omega) only[go_sem];refine bB l.length (fun k σ bx=>σ 0=strs l/\σ 1=strs m/\σ 12= .int .i64 l.length/\σ 13= .int .i64 k/\l.take k=m.take k) ?_ ?_ ?_
  ·simp[go_sem,aM,strs]
  ·rintro k σ bx hk ⟨h0,mP,h7,h8,hn⟩;obtain⟨x,hx⟩:=bk hk;obtain⟨y,hy⟩:=bk (show k<m.length by omega);have au:(k:Int)<(l.length:Int):=oM;have sH:(k:Int)<(m.length:Int):=oM;repeat' first|with_reducible apply zJ<;>intro _|simp(disch:=omega) only[go_sem, *,h0,mP,h7,h8,au,sH,strs,hx,hy]
   ·exact arM
   ·rename_i sM;refine aq (aaR D.bool ?_)
    exact awN
  ·exact IN
 ·exact aq0
def acV(x y:Entry)(hx:x.aE.length<=140737488355328)(hy:y.aE.length<=140737488355328):av prog 91 [x.d,y.d] (.bool (decide (x=y))):=by
 refine fF f91 [] [.tmp 4] ?_;have hq:=MQ x.aE y.aE hx hy;simp only[strs]at hq;obtain⟨a,b,c,d,e⟩:=x;obtain⟨a',b',c',d',e'⟩:=y;simp only at hq hx hy;repeat' first|with_reducible apply zJ<;>intro _|with_reducible refine pX (hq) sG ?_|simp(disch:=omega) only[go_sem, *,Entry.d,strs]
 all_goals (refine aq (aaR D.bool ?_);simp[*];done)
def Yv(l m:List bt)(hl:l.length<=140737488355328)(hm:m.length<=140737488355328):av prog 95 [.sl 2 (l.map bt.d),.sl 2 (m.map bt.d)] (.bool (decide (l=m))):=by
 refine fF f95 [] [.tmp 4] ?_;simp(disch:=omega) only[go_sem];refine aW (fun h1=>?_) (fun h1=>?_)
 ·have h1:l.length=m.length:=oM;simp(disch:=omega) only[go_sem];refine bB l.length (fun k σ bx=>σ 0= .sl 2 (l.map bt.d)/\σ 1= .sl 2 (m.map bt.d)/\σ 12= .int .i64 l.length/\σ 13= .int .i64 k/\l.take k=m.take k) ?_ ?_ ?_
  ·exact avB
  ·rintro k σ bx hk ⟨h0,mP,h7,h8,hn⟩;obtain⟨x,hx⟩:=bk hk;obtain⟨y,hy⟩:=bk (show k<m.length by omega);have au:(k:Int)<(l.length:Int):=oM;have sH:(k:Int)<(m.length:Int):=oM;obtain⟨a,b⟩:=x;obtain⟨a',b'⟩:=y;repeat' first|with_reducible apply zJ<;>intro _|simp(disch:=omega) only[go_sem, *,h0,mP,h7,h8,au,sH,hx,hy,bt.d]
   all_goals first
    |(rename_i sM;rw[aR oM];exact⟨rfl,nP hx hy hn awN⟩)
    |(
     rename_i sM;refine aq (aaR D.bool ?_)
     grind)
  ·exact IN
 ·exact aq0
def acY(x y:aF)(hx:x.parts.length<=140737488355328/\x.aE.length<=140737488355328)(hy:y.parts.length<=140737488355328/\y.aE.length<=140737488355328):av prog 93 [x.d,y.d] (.bool (decide (x=y))):=by
 refine fF f93 [] [.tmp 4] ?_;have hq:=MO x.parts y.parts hx.1 hy.1;have jv:=Yv x.aE y.aE hx.2 hy.2;obtain⟨a,b,c,d,e⟩:=x;obtain⟨a',b',c',d',e'⟩:=y;simp only at hq jv hx hy;have p1:∀l:List Part,D.aH (l.map Part.d)=true:=fun l=>kg _ _ fun _=>rfl;have p2:∀l:List bt,D.aH (l.map bt.d)=true:=fun l=>kg _ _ fun _=>rfl;have p3:∀(l:List Part) (m:List Part),D.aH [.sl 3 (l.map Part.d),.sl 3 (m.map Part.d)]=true:=fun l m=>by simp[D.aH,D.pure,p1]
 have p4:∀(l:List bt) (m:List bt),D.aH [.sl 2 (l.map bt.d),.sl 2 (m.map bt.d)]=true:=fun l m=>by simp[D.aH,D.pure,p2]
 repeat' first|with_reducible apply zJ<;>intro _|with_reducible refine pX (hq) sG ?_|with_reducible refine pX (jv) sG ?_|simp(disch:=omega) only[go_sem, *,aF.d,p3,p4]
 all_goals (refine aq (aaR D.bool ?_);simp[*];done)
def MM(a b:List Entry)(ha:a.length<=140737488355328)(hb:b.length<=140737488355328)(hs:∀x∈a,x.aE.length<=140737488355328)(tB:∀x∈b,x.aE.length<=140737488355328):av prog 96 [.sl 5 (a.map Entry.d),.sl 5 (b.map Entry.d),.fn (.func 91) []] (.bool (decide (a=b))):=by
 refine fF f96 [] [.tmp 6] ?_;simp(disch:=omega) only[go_sem];refine aW (fun he=>?_) (fun hn=>?_)
 ·have he:a.length=b.length:=oM;simp(disch:=omega) only[go_sem];refine bB a.length (fun k σ _=>σ 0= .sl 5 (a.map Entry.d)/\σ 1= .sl 5 (b.map Entry.d)/\σ 2= .fn (.func 91) []/\σ 15= .sl 5 (a.map Entry.d)/\σ 16= .int .i64 a.length/\σ 17= .int .i64 k/\a.take k=b.take k)
   ⟨avB,avB,avB,sG,sG,sG,sI⟩ ?_ ?_
  ·rintro k σ bx hk ⟨h0,h1,h2,wZ,zf,zg,dq⟩;obtain⟨x,hx⟩:=bk hk;obtain⟨y,hy⟩:=bk (l:=b) (k:=k) oM;have au:(k:Int)<(a.length:Int):=oM;have iI:x.d= .agg [.str x.text,.str x.cat,.int .i64 x.no,strs x.aE,.int .i64 x.cost]:=rfl;have oL:y.d= .agg [.str y.text,.str y.cat,.int .i64 y.no,strs y.aE,.int .i64 y.cost]:=rfl;have hc:=acV x y (hs x (aat hx)) (tB y (aat hy));have QU:D.aH [x.d,y.d]=true:=auW
   rw[iI,oL]at hc QU;simp only[strs]at iI oL hc QU;simp(disch:=omega) only[go_sem,h0,h1,h2,wZ,zf,zg,au,hx,hy,iI,oL];refine aI hc QU ?_;simp(disch:=omega) only[go_sem,h0,h1,h2,wZ,zf,zg,hx,hy,iI,oL];refine aW (fun hv=>?_) (fun hv=>?_)
   ·exact aqI
   ·simp(disch:=omega) only[go_sem,h0,h1,h2,wZ,zf,zg];refine aq (aaR D.bool (aeH fun e=>hv ?_).symm)
    exact awN
  ·exact By
 ·exact aqJ
def MN(a b:List aF)(ha:a.length<=140737488355328)(hb:b.length<=140737488355328)(hs:∀x∈a,x.parts.length<=140737488355328/\x.aE.length<=140737488355328)(tB:∀x∈b,x.parts.length<=140737488355328/\x.aE.length<=140737488355328):av prog 97 [.sl 5 (a.map aF.d),.sl 5 (b.map aF.d),.fn (.func 93) []] (.bool (decide (a=b))):=by
 refine fF f97 [] [.tmp 6] ?_;simp(disch:=omega) only[go_sem];refine aW (fun he=>?_) (fun hn=>?_)
 ·have he:a.length=b.length:=oM;simp(disch:=omega) only[go_sem];refine bB a.length (fun k σ _=>σ 0= .sl 5 (a.map aF.d)/\σ 1= .sl 5 (b.map aF.d)/\σ 2= .fn (.func 93) []/\σ 15= .sl 5 (a.map aF.d)/\σ 16= .int .i64 a.length/\σ 17= .int .i64 k/\a.take k=b.take k)
   ⟨avB,avB,avB,sG,sG,sG,sI⟩ ?_ ?_
  ·rintro k σ bx hk ⟨h0,h1,h2,wZ,zf,zg,dq⟩;obtain⟨x,hx⟩:=bk hk;obtain⟨y,hy⟩:=bk (l:=b) (k:=k) oM;have au:(k:Int)<(a.length:Int):=oM;have iI:x.d= .agg [.str x.cat,.int .i64 x.no,.sl 3 (x.parts.map Part.d),.sl 2 (x.aE.map bt.d),.int .i64 x.cost]:=rfl;have oL:y.d= .agg [.str y.cat,.int .i64 y.no,.sl 3 (y.parts.map Part.d),.sl 2 (y.aE.map bt.d),.int .i64 y.cost]:=rfl;have hc:=acY x y (hs x (aat hx)) (tB y (aat hy));have QU:D.aH [x.d,y.d]=true:=auW
   rw[iI,oL]at hc QU;simp(disch:=omega) only[go_sem,h0,h1,h2,wZ,zf,zg,au,hx,hy,iI,oL];refine aI hc QU ?_;simp(disch:=omega) only[go_sem,h0,h1,h2,wZ,zf,zg,hx,hy,iI,oL];refine aW (fun hv=>?_) (fun hv=>?_)
   ·exact aqI
   ·simp(disch:=omega) only[go_sem,h0,h1,h2,wZ,zf,zg];refine aq (aaR D.bool (aeH fun e=>hv ?_).symm)
    exact awN
  ·exact By
 ·exact aqJ
def agt(x y:aA)(hx:Sz x)(hy:Sz y):av prog 50 [x.d,y.d] (.bool (decide (x=y))):=by
 refine fF f50 [] [.tmp 4] ?_;have hq:=MQ x.aB y.aB hx.aB hy.aB;have CB:=MM x.entries y.entries hx.dw hy.dw hx.JR hy.JR;have rB:=MN x.rules y.rules hx.yL hy.yL hx.Hw hy.Hw;have p1:D.aH [.sl 5 (x.entries.map Entry.d),.sl 5 (y.entries.map Entry.d),.fn (.func 91) []]=true:=by grind [D.aH,D.pure]
 have p2:D.aH [.sl 5 (x.rules.map aF.d),.sl 5 (y.rules.map aF.d),.fn (.func 93) []]=true:=by grind [D.aH,D.pure]
 obtain⟨a,b,c,d,e,f⟩:=x;obtain⟨a',b',c',d',e',f'⟩:=y;simp only at hq CB rB hx hy p1 p2;simp only[strs]at hq;repeat' first|with_reducible apply zJ<;>intro _|with_reducible refine pX (hq) sG ?_|with_reducible refine pX (CB) sG ?_|with_reducible refine pX (rB) sG ?_|simp(disch:=omega) only[go_sem, *,aA.d,strs]
 all_goals (refine aq (aaR D.bool ?_);simp[*];done)
def uL(l:List Part):D.aH (l.map Part.d)=true:=kg _ _ fun _=>by simp[Part.d,go_sem]
def uK(l:List bt):D.aH (l.map bt.d)=true:=kg _ _ fun _=>by simp[bt.d,go_sem]
structure DD(J:ab->List Tk->Prop)(s N:Nat):Prop where
 own:∀bx bx' l,J bx l->(∀q,q≠s->bx' q=bx q)->J bx' l
 len:∀bx l,J bx l->l.length<=N
def DC(J:ab->List Tk->Prop)(f:FuncId)(cs:List D)(more:List Tk->Bool):Prop:=∀bx l,J bx l->az prog f 0 cs bx (fun d bx'=>d= .bool (more l)/\bx'=bx) (fun _ _=>False)
def DA{α:Type}(J:ab->List Tk->Prop)(Z:ab->Prop)(s n:Nat)(f:FuncId)(cs:List D)(item:Rd α)(enc:α->D):Prop:=∀bx l,J bx l->az prog f 0 cs bx
 (fun d bx'=>∃a r,item l= .ok (a,r)/\(∃x,aU bx' d=some x/\bA x (enc a))/\J (aS bx' [d]) r/\aS bx' [d] s=bx s)
 (fun d bx'=>∃r,item l= .error r/\d=sV n r/\Z bx')
theorem zG{α:Type}{more:List Tk->Bool}{item:Rd α}(he:iW item)(h0:more []=false){l r:List Tk}{a:α}(hm:more l=true)(hi:item l= .ok (a,r)):cb more item l=match cb more item r with
 | .ok (ys,r')=> .ok (a::ys,r')
 | .error r'=> .error r':=by
 have au:=he _ _ _ hi;obtain⟨k,hk⟩:∃k,l.length=k+1:=⟨l.length - 1,oM⟩
 unfold cb;rw[hk];simp only[many,hm,abo,Rd.bind,hi];rw[Ky he h0 k r.length r oM (aaN _)];cases many more item r.length r with
 |error r'=>rfl
 |ok q=>rfl
def xo{α:Type}{more:List Tk->Bool}{item:Rd α}(he:iW item)(h0:more []=false){l r:List Tk}(hm:more l=true)(hi:item l= .error r):cb more item l= .error r:=by
 obtain⟨k,hk⟩:∃k,l.length=k+1:=by cases l<;>simp_all
 simp_all[cb,many,Rd.bind]
theorem xn{α:Type}{more:List Tk->Bool}{item:Rd α}{l:List Tk}(hm:more l=false):cb more item l= .ok ([],l):=by
 unfold cb;cases l.length with
 |zero=>rfl
 |succ k=>simp[many,hm]
def glue{α:Type}(xs:List α):Except (List Tk) (List α×List Tk)->Except (List Tk) (List α×List Tk)
 | .ok (ys,r)=> .ok (xs++ys,r)
 | .error r=> .error r
def uo(bx:ab):Nat:=match(bx 14).es with
 |[.agg (.sl _ ts::_)]=>ts.length
 |_=>0
def adg{e:Nat}{l:List Tk}{n:Nat}{g:G6}{bx:ab}(h:cS bx e l n g):uo bx=l.length:=by
 have h:bx 14=_:=h;simp[uo,h,pd]
def BV{α:Type}(J:ab->List Tk->Prop)(s el esz:Nat)(p:Rd (List α))(enc:α->D)(l:List Tk):D->ab->Prop:=fun d bx'=>∃xs r,p l= .ok (xs,r)/\aP bx' [s] el esz d (xs.map enc)/\J bx' r
def BU{α:Type}(Z:ab->Prop)(n:Nat)(p:Rd (List α))(l:List Tk):D->ab->Prop:=fun d bx'=>∃r,p l= .error r/\d=sV n r/\Z bx'
variable {bx:ab} {l:List Tk} {n:Nat}
def Lb(b:Nat){J:ab->List Tk->Prop}{Z:ab->Prop}{dm di:D}{fm fi:FuncId}{cm ci:List D}{more:List Tk->Bool}{item:Rd ae}
 (hR:DD J (b+11) 1000000) (hM:DC J fm cm more) (hI:DA J Z (b+11) n fi ci item D.str) (hZ:∀bx l,J bx l->uo bx=l.length) (he:iW item) (h0:more []=false)
 (hm:∀C bx K,c_ C fm cm bx K->gk C dm [] bx K) (hi:∀C bx K,c_ C fi ci bx K->gk C di [] bx K) (hb:J bx l):
 az prog 159 0 [dm,di] bx (BV J (b+11) 9 1 (cb more item) D.str l) (BU Z n (cb more item) l):=by
 refine fB 13 b f159 [] [.tmp 4] ?_;have hl:=hR.len _ _ hb;simp(disch:=omega) only[go_sem];refine pc (fun σ bx=>σ 0=dm/\σ 1=di/\∃xs l',aP bx [b+11] 9 1 (σ 4) (xs.map D.str)/\J bx l'/\xs.length+l'.length<=l.length/\cb more item l=glue xs (cb more item l')) (fun _ bx=>uo bx)
  ⟨avi,avi,[],l,?_,hb,sI,?_⟩ ?_
 ·exact arE
 ·cases cb more item l with
  |ok q=>rfl
  |error r=>rfl
 rintro σ bx ⟨s0,s1,xs,l',hv,hj,hlen,eJ⟩;obtain⟨v1,v2,v3⟩:=hv.facts;simp(disch:=omega) only[go_sem,s0,s1];refine hm _ _ _ (ao (hM _ _ hj) rfl ?_);rintro d bx' ⟨rfl,rfl⟩;cases og:more l' with
 |false=>
  exact aqE
 |true=>
  simp(disch:=omega) only[go_sem,s0,s1];refine hi _ _ _ (f_ (hI _ _ hj) rfl (fun d bx1 hp=>?_) (fun d bx1 hp=>?_))
  ·obtain⟨a,r,h1,⟨x,hx,hw⟩,h2,h3⟩:=hp;refine⟨x,_,hx,hw,?_⟩;have au:=he _ _ _ h1;have fX:aP (aS bx1 [d]) [b+11] 9 1 (σ 4) (xs.map D.str):=hv.of fun q hq=>awN
   generalize aS bx1 [d]=aT at h2 h3 fX⊢;simp(disch:=omega) only[go_sem,s0,s1,agb,aft,adC];refine sd fX sG ?_ oM oM oM (fun x' jD g1 g2=>?_)
   ·exact awN
   ·simp(disch:=omega) only[go_sem,s0,s1];refine⟨⟨xs++[a],r,awN,hR.own _ _ _ h2 g2,awe,?_⟩,?_⟩
    ·grind [zG,glue]
    ·exact arC
  ·exact aqw
def Xf(b:Nat){J:ab->List Tk->Prop}{Z:ab->Prop}{dm di:D}{fm fi:FuncId}{cm ci:List D}{more:List Tk->Bool}{item:Rd Entry}
 (hR:DD J (b+11) 1000000) (hM:DC J fm cm more) (hI:DA J Z (b+11) n fi ci item Entry.d) (hZ:∀bx l,J bx l->uo bx=l.length) (he:iW item) (h0:more []=false)
 (hm:∀C bx K,c_ C fm cm bx K->gk C dm [] bx K) (hi:∀C bx K,c_ C fi ci bx K->gk C di [] bx K) (hb:J bx l):
 az prog 162 0 [dm,di] bx (BV J (b+11) 152 5 (cb more item) Entry.d l) (BU Z n (cb more item) l):=by
 refine fB 13 b f162 [] [.tmp 4] ?_;have hl:=hR.len _ _ hb;simp(disch:=omega) only[go_sem];refine pc (fun σ bx=>σ 0=dm/\σ 1=di/\∃xs l',aP bx [b+11] 152 5 (σ 4) (xs.map Entry.d)/\J bx l'/\xs.length+l'.length<=l.length/\cb more item l=glue xs (cb more item l')) (fun _ bx=>uo bx)
  ⟨avi,avi,[],l,?_,hb,sI,?_⟩ ?_
 ·exact arE
 ·cases cb more item l with
  |ok q=>rfl
  |error r=>rfl
 rintro σ bx ⟨s0,s1,xs,l',hv,hj,hlen,eJ⟩;obtain⟨v1,v2,v3⟩:=hv.facts;simp(disch:=omega) only[go_sem,s0,s1];refine hm _ _ _ (ao (hM _ _ hj) rfl ?_);rintro d bx' ⟨rfl,rfl⟩;cases og:more l' with
 |false=>
  exact aqE
 |true=>
  simp(disch:=omega) only[go_sem,s0,s1];refine hi _ _ _ (f_ (hI _ _ hj) rfl (fun d bx1 hp=>?_) (fun d bx1 hp=>?_))
  ·obtain⟨a,r,h1,⟨x,hx,hw⟩,h2,h3⟩:=hp;refine⟨x,_,hx,hw,?_⟩;have au:=he _ _ _ h1;have fX:aP (aS bx1 [d]) [b+11] 152 5 (σ 4) (xs.map Entry.d):=hv.of fun q hq=>awN
   generalize aS bx1 [d]=aT at h2 h3 fX⊢;simp(disch:=omega) only[go_sem,s0,s1,Entry.d,strs,ji,agb,aft,adC];refine sd fX sG ?_ oM oM oM (fun x' jD g1 g2=>?_)
   ·exact awN
   ·simp(disch:=omega) only[go_sem,s0,s1];refine⟨⟨xs++[a],r,by simp_all[Entry.d],hR.own _ _ _ h2 g2,awe,?_⟩,?_⟩
    ·grind [zG,glue]
    ·exact arC
  ·exact aqw
def Xi(b:Nat){J:ab->List Tk->Prop}{Z:ab->Prop}{dm di:D}{fm fi:FuncId}{cm ci:List D}{more:List Tk->Bool}{item:Rd aF}
 (hR:DD J (b+11) 1000000) (hM:DC J fm cm more) (hI:DA J Z (b+11) n fi ci item aF.d) (hZ:∀bx l,J bx l->uo bx=l.length) (he:iW item) (h0:more []=false)
 (hm:∀C bx K,c_ C fm cm bx K->gk C dm [] bx K) (hi:∀C bx K,c_ C fi ci bx K->gk C di [] bx K) (hb:J bx l):
 az prog 164 0 [dm,di] bx (BV J (b+11) 157 5 (cb more item) aF.d l) (BU Z n (cb more item) l):=by
 refine fB 13 b f164 [] [.tmp 4] ?_;have hl:=hR.len _ _ hb;simp(disch:=omega) only[go_sem];refine pc (fun σ bx=>σ 0=dm/\σ 1=di/\∃xs l',aP bx [b+11] 157 5 (σ 4) (xs.map aF.d)/\J bx l'/\xs.length+l'.length<=l.length/\cb more item l=glue xs (cb more item l')) (fun _ bx=>uo bx)
  ⟨avi,avi,[],l,?_,hb,sI,?_⟩ ?_
 ·exact arE
 ·cases cb more item l with
  |ok q=>rfl
  |error r=>rfl
 rintro σ bx ⟨s0,s1,xs,l',hv,hj,hlen,eJ⟩;obtain⟨v1,v2,v3⟩:=hv.facts;simp(disch:=omega) only[go_sem,s0,s1];refine hm _ _ _ (ao (hM _ _ hj) rfl ?_);rintro d bx' ⟨rfl,rfl⟩;cases og:more l' with
 |false=>
  exact aqE
 |true=>
  simp(disch:=omega) only[go_sem,s0,s1];refine hi _ _ _ (f_ (hI _ _ hj) rfl (fun d bx1 hp=>?_) (fun d bx1 hp=>?_))
  ·obtain⟨a,r,h1,⟨x,hx,hw⟩,h2,h3⟩:=hp;refine⟨x,_,hx,hw,?_⟩;have au:=he _ _ _ h1;have fX:aP (aS bx1 [d]) [b+11] 157 5 (σ 4) (xs.map aF.d):=hv.of fun q hq=>awN
   generalize aS bx1 [d]=aT at h2 h3 fX⊢;simp(disch:=omega) only[go_sem,s0,s1,aF.d,uL,uK,agb,aft,adC];refine sd fX sG ?_ oM oM oM (fun x' jD g1 g2=>?_)
   ·exact awN
   ·simp(disch:=omega) only[go_sem,s0,s1];refine⟨⟨xs++[a],r,by grind [aF.d],hR.own _ _ _ h2 g2,awe,?_⟩,?_⟩
    ·grind [zG,glue]
    ·exact arC
  ·exact aqw
def Xh(b:Nat){J:ab->List Tk->Prop}{Z:ab->Prop}{dm di:D}{fm fi:FuncId}{cm ci:List D}{more:List Tk->Bool}{item:Rd Part}
 (hR:DD J (b+11) 1000000) (hM:DC J fm cm more) (hI:DA J Z (b+11) n fi ci item Part.d) (hZ:∀bx l,J bx l->uo bx=l.length) (he:iW item) (h0:more []=false)
 (hm:∀C bx K,c_ C fm cm bx K->gk C dm [] bx K) (hi:∀C bx K,c_ C fi ci bx K->gk C di [] bx K) (hb:J bx l):
 az prog 218 0 [dm,di] bx (BV J (b+11) 161 3 (cb more item) Part.d l) (BU Z n (cb more item) l):=by
 refine fB 13 b f218 [] [.tmp 4] ?_;have hl:=hR.len _ _ hb;simp(disch:=omega) only[go_sem];refine pc (fun σ bx=>σ 0=dm/\σ 1=di/\∃xs l',aP bx [b+11] 161 3 (σ 4) (xs.map Part.d)/\J bx l'/\xs.length+l'.length<=l.length/\cb more item l=glue xs (cb more item l')) (fun _ bx=>uo bx)
  ⟨avi,avi,[],l,?_,hb,sI,?_⟩ ?_
 ·exact arE
 ·cases cb more item l with
  |ok q=>rfl
  |error r=>rfl
 rintro σ bx ⟨s0,s1,xs,l',hv,hj,hlen,eJ⟩;obtain⟨v1,v2,v3⟩:=hv.facts;simp(disch:=omega) only[go_sem,s0,s1];refine hm _ _ _ (ao (hM _ _ hj) rfl ?_);rintro d bx' ⟨rfl,rfl⟩;cases og:more l' with
 |false=>
  exact aqE
 |true=>
  simp(disch:=omega) only[go_sem,s0,s1];refine hi _ _ _ (f_ (hI _ _ hj) rfl (fun d bx1 hp=>?_) (fun d bx1 hp=>?_))
  ·obtain⟨a,r,h1,⟨x,hx,hw⟩,h2,h3⟩:=hp;refine⟨x,_,hx,hw,?_⟩;have au:=he _ _ _ h1;have fX:aP (aS bx1 [d]) [b+11] 161 3 (σ 4) (xs.map Part.d):=hv.of fun q hq=>awN
   generalize aS bx1 [d]=aT at h2 h3 fX⊢;simp(disch:=omega) only[go_sem,s0,s1,Part.d,agb,aft,adC];refine sd fX sG ?_ oM oM oM (fun x' jD g1 g2=>?_)
   ·exact awN
   ·simp(disch:=omega) only[go_sem,s0,s1];refine⟨⟨xs++[a],r,by grind [Part.d],hR.own _ _ _ h2 g2,awe,?_⟩,?_⟩
    ·grind [zG,glue]
    ·exact arC
  ·exact aqw
def Xg(b:Nat){J:ab->List Tk->Prop}{Z:ab->Prop}{dm di:D}{fm fi:FuncId}{cm ci:List D}{more:List Tk->Bool}{item:Rd bt}
 (hR:DD J (b+11) 1000000) (hM:DC J fm cm more) (hI:DA J Z (b+11) n fi ci item bt.d) (hZ:∀bx l,J bx l->uo bx=l.length) (he:iW item) (h0:more []=false)
 (hm:∀C bx K,c_ C fm cm bx K->gk C dm [] bx K) (hi:∀C bx K,c_ C fi ci bx K->gk C di [] bx K) (hb:J bx l):
 az prog 222 0 [dm,di] bx (BV J (b+11) 210 2 (cb more item) bt.d l) (BU Z n (cb more item) l):=by
 refine fB 13 b f222 [] [.tmp 4] ?_;have hl:=hR.len _ _ hb;simp(disch:=omega) only[go_sem];refine pc (fun σ bx=>σ 0=dm/\σ 1=di/\∃xs l',aP bx [b+11] 210 2 (σ 4) (xs.map bt.d)/\J bx l'/\xs.length+l'.length<=l.length/\cb more item l=glue xs (cb more item l')) (fun _ bx=>uo bx)
  ⟨avi,avi,[],l,?_,hb,sI,?_⟩ ?_
 ·exact arE
 ·cases cb more item l with
  |ok q=>rfl
  |error r=>rfl
 rintro σ bx ⟨s0,s1,xs,l',hv,hj,hlen,eJ⟩;obtain⟨v1,v2,v3⟩:=hv.facts;simp(disch:=omega) only[go_sem,s0,s1];refine hm _ _ _ (ao (hM _ _ hj) rfl ?_);rintro d bx' ⟨rfl,rfl⟩;cases og:more l' with
 |false=>
  exact aqE
 |true=>
  simp(disch:=omega) only[go_sem,s0,s1];refine hi _ _ _ (f_ (hI _ _ hj) rfl (fun d bx1 hp=>?_) (fun d bx1 hp=>?_))
  ·obtain⟨a,r,h1,⟨x,hx,hw⟩,h2,h3⟩:=hp;refine⟨x,_,hx,hw,?_⟩;have au:=he _ _ _ h1;have fX:aP (aS bx1 [d]) [b+11] 210 2 (σ 4) (xs.map bt.d):=hv.of fun q hq=>awN
   generalize aS bx1 [d]=aT at h2 h3 fX⊢;simp(disch:=omega) only[go_sem,s0,s1,bt.d,agb,aft,adC];refine sd fX sG ?_ oM oM oM (fun x' jD g1 g2=>?_)
   ·exact awN
   ·simp(disch:=omega) only[go_sem,s0,s1];refine⟨⟨xs++[a],r,by grind [bt.d],hR.own _ _ _ h2 g2,awe,?_⟩,?_⟩
    ·grind [zG,glue]
    ·exact arC
  ·exact aqw
end Go.V.Gr
