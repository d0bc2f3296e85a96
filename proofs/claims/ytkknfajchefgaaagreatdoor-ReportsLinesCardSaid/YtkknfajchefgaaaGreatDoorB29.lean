/- Lemmas on plain data and programs: part B29. -/
import Derived.Test.YtkknfajchefgaaaGreatDoorB28
set_option linter.all false
set_option maxHeartbeats 8000000
set_option maxRecDepth 100000
namespace Go.V.Ty
open Go.Proofs Go.Proofs.Tryz Go.RowKit Go.V.Lx Go.V.Gr
def acr{e3 e6 e8 t3 t6 t8 s3:Nat}{n:Int}{c:ae}{m:PM}{bx0:ab}(h6:bx0 6=⟨e6,1,1,t6,[.str c]⟩)(h3:bx0 3=⟨e3,1,1,t3,[.omap 8 e8]⟩)(h8:bx0 8=⟨e8,3,s3,t8,.int .i64 n::dC m⟩)(hm:∀e∈m,e.2.1= .bool true):
 cT 242 [.loc 6 e6 0 0,.loc 3 e3 0 0] 9 100 bx0 aF.d Ub (fY (m.map (·.1)) c):=by
 intro bx x hb hx;refine dY (fn:=f242) (tab:=[]) (base:=100) mixed ?_ rfl ar rfl;refine eG _ [.tmp 4] 32 rfl rfl rfl ar ?_;have g6:=(hb 6 oM).trans h6;have g3:=(hb 3 oM).trans h3;have g8:=(hb 8 oM).trans h8;have nF:=hx.Fo;have fin:∀(b:Bool) (B:ab),b=fY (m.map (·.1)) c x->(∀s,s<100->B s=bx s)->D.bool b= .bool (fY (m.map (·.1)) c x)/\∀s,s<100->B s=bx s:=fun b B h h'=>⟨by rw[h],h'⟩
 simp(disch:=omega) only[go_sem,g6,g3,g8,aF.d];refine aW (fun c1=>?_) (fun c1=>?_)
 rotate_left
 ·simp(disch:=omega) only[go_sem,c1,adX];refine fin false _ ?_ (fun s hs=>awN)
  grind [fY,qd]
 ·simp(disch:=omega) only[go_sem,c1,abq,g6,g3,g8];refine aW (fun c2=>?_) (fun c2=>?_)
  rotate_left
  ·simp(disch:=omega) only[go_sem,c2,adX];refine fin false _ ?_ (fun s hs=>awN);unfold fY qd
   exact awN
  ·obtain⟨q,hq⟩:=alL.1 (show x.parts.length=1 by omega);have V4:x.parts[0]? =some q:=awN
   simp(disch:=omega) only[go_sem,c1,c2,abq,g6,g3,g8,V4,Part.d,Int.reduceLT];refine aW (fun c3=>?_) (fun c3=>?_)
   rotate_left
   ·simp(disch:=omega) only[go_sem,c2,c3,abq,adX,V4,Part.d];refine fin false _ ?_ (fun s hs=>awN)
    grind [fY,qd]
   ·have hl:fY (m.map (·.1)) c x=(m.map (·.1)).contains q.cat:=by
     have he:qd x=some (x.cat,q.cat):=by simp_all[qd]
     simp[fY,he,c1]
    rcases tL q.cat m 0 with⟨f1,f2⟩|⟨j,e,f1,f2,f3⟩
    ·simp(disch:=omega) only[go_sem,c1,c2,c3,abq,g6,g3,g8,f1,V4,Part.d]
     exact awN
    ·have hv:=hm e (aat f2);simp(disch:=omega) only[go_sem,c1,c2,c3,abq,g6,g3,g8,f1,hv,V4,Part.d]
     exact awN
def kG(L:List (ae×Nat)):PM:=L.map fun p=>(p.1,.bool true,(p.2:Int))
def Zu(L:List (ae×Nat)):(kG L).map (·.1)=L.map (·.1):=by simp[kG]
theorem KA:∀(L:List (ae×Nat)) (j:Nat),(kG L).eraseIdx j=kG (L.eraseIdx j)
 |[],j=>by simp[kG]
 |p::L,0=>by simp[kG]
 |p::L,j+1=>by simpa[kG]using KA L j
def Zv(L:List (ae×Nat)):∀e∈kG L,e.2.1= .bool true:=by
 intro e he;obtain⟨p,_,rfl⟩:=aa1.1 he;rfl
def Pe{l:List ae}{j:Nat}{c:ae}(h:l[j]? =some c):l.zipIdx.take (j+1)=l.zipIdx.take j++[(c,j)]:=auJ
def adn{l:List ae}(hn:l.Nodup){j:Nat}{c:ae}(h:l[j]? =some c):∀e∈kG (l.zipIdx.take j),e.1≠c:=by
 intro e he hc;obtain⟨p,hp,rfl⟩:=aa1.1 he
 exact arV
structure Left(g:aA)(k:Nat)(L:List (ae×Nat)):Prop where
 of:List.Sublist L g.aB.zipIdx
 has:∀F,Full g.rules F->(∀x∈F,x∈g.aB)->∀x∈F,x∈L.map (·.1)
 how:Full g.rules (L.map (·.1))\/L.length+k<=g.aB.length
theorem Left.all(g:aA):Left g 0 g.aB.zipIdx:=⟨akZ _,fun F _ h x hx=>awy,.inr sI⟩
theorem Left.sub{g:aA}{k:Nat}{L:List (ae×Nat)}(h:Left g k L):∀x∈L.map (·.1),x∈g.aB:=by
 intro x hx;have:=h.of.map (·.1)
 exact awN
theorem Left.fin{g:aA}{L:List (ae×Nat)}(h:Left g g.aB.length L):Full g.rules (L.map (·.1)):=by rcases h.how with h|h<;>grind [M8]
structure o_(g:aA)(L0 L:List (ae×Nat))(seen:List D):Prop where
 of:List.Sublist L L0
 has:∀F,Full g.rules F->(∀x∈F,x∈g.aB)->∀x∈F,x∈L.map (·.1)
 how:(L=L0/\∀p∈L0,(p.2:Int)∈seen.map intOf->g.rules.any (fY (L0.map (·.1)) p.1)=true)\/L.length<L0.length
 full:Full g.rules (L0.map (·.1))->L=L0
theorem o_.start{g:aA}{k:Nat}{L0:List (ae×Nat)}(h:Left g k L0):o_ g L0 L0 []:=⟨akZ _,h.has,.inl ⟨rfl,sI⟩,fun _=>rfl⟩
def one(p:ae×Nat):D:=.aL [.str p.1,.bool true,.int .i64 (p.2:Int)]
def tK(L:List (ae×Nat)):dC (kG L)=L.map one:=by simp[dC,kG,one]
def AF{L:List (ae×Nat)}{seen:List D}{d:D}:d∈jf seen (dC (kG L))<->∃p∈L,d=one p/\(p.2:Int)∉seen.map intOf:=by
 simp only[jf,akt,tK,aa1];constructor
 ·rintro⟨⟨p,hp,rfl⟩,h⟩;refine⟨p,hp,rfl,fun hm=>?_⟩
  grind [iQ,one]
 ·rintro⟨p,hp,rfl,h⟩;refine⟨⟨p,hp,rfl⟩,?_⟩;simp_all[iQ,one]
theorem v8{p:ae×Nat}:∀(L:List (ae×Nat)),(L.map (·.2)).Nodup->p∈L->(L.map one).find? (fun e=>iQ e==(p.2:Int))=some (one p)
 |[],_,h=>awv
 |q::L,hn,h=>by
  simp only[abk,List.nodup_cons]at hn;rcases aaQ.1 h with rfl|h
  ·simp[one,iQ]
  ·have bh:q.2≠p.2:=fun e=>hn.1 (aa1.2 ⟨p,h,e.symm⟩);have hb:(iQ (one q)==(p.2:Int))=false:=by grind [one,iQ]
   rw[abk,List.find?_cons,hb];exact v8 L hn.2 h
def Ys{L:List (ae×Nat)}{p:ae×Nat}(seen:List D)(hn:(L.map (·.2)).Nodup)(h:p∈L):DJ (seen++[.int .i64 (p.2:Int)]) (dC (kG L))=some (.aL [.str p.1,.bool true]):=by simp only[DJ,List.getLast?_concat,intOf,tK,v8 L hn h,one]
def Rc{L L':List (ae×Nat)}{seen:List D}{p:ae×Nat}(hs:List.Sublist L' L)(h:p∈L)(hp:(p.2:Int)∉seen.map intOf):(jf (seen++[.int .i64 (p.2:Int)]) (dC (kG L'))).length<(jf seen (dC (kG L))).length:=by
 have e:∀es:List D,jf (seen++[.int .i64 (p.2:Int)]) es=(jf seen es).filter fun e=> !(iQ e==(p.2:Int)):=by
  intro es;simp only[jf,List.filter_filter]
  grind [intOf]
 have E8:List.Sublist (jf (seen++[.int .i64 (p.2:Int)]) (dC (kG L'))) (jf seen (dC (kG L))):=by
  rw[e];refine List.filter_sublist.trans ?_;rw[tK,tK];exact(hs.map one).filter _
 have hle:=E8.length_le;by_cases au:(jf (seen++[.int .i64 (p.2:Int)]) (dC (kG L'))).length<(jf seen (dC (kG L))).length
 ·exact au
 ·have heq:=E8.eq_of_length_le oM;have hm:one p∈jf seen (dC (kG L)):=AF.2 ⟨p,h,rfl,hp⟩;rw[<-heq]at hm;obtain⟨q,hq,CB,rB⟩:=AF.1 hm;have:p.2=q.2:=by injection CB with CB;grind
  grind [intOf]
def H3{l:List ae}{L:List (ae×Nat)}(h:List.Sublist L l.zipIdx):(L.map (·.2)).Nodup/\∀p∈L,p.2<l.length:=by grind [List.zipIdx_map_snd]
theorem o_.round{g:aA}{k:Nat}{L0 L:List (ae×Nat)}{seen:List D}(h0:Left g k L0)(h:o_ g L0 L seen)(hl:∀e∈jf seen (dC (kG L)),(g.aB.length:Int)<=iQ e):Left g (k+1) L:=by
 have eB:∀p∈L,(p.2:Int)∈seen.map intOf:=fun p hp=>ae5 fun hn=>by
  have h1:=hl _ (AF.2 ⟨p,hp,rfl,hn⟩);have h2:=(H3 (h.of.trans h0.of)).2 p hp
  grind [one,iQ]
 refine⟨h.of.trans h0.of,h.has,?_⟩;rcases h.how with⟨rfl,h1⟩|h1
 ·refine .inl fun c hc=>?_
  exact awN
 ·rcases h0.how with h2|h2
  ·rw[h.full h2]at h1;exact oM
  exact awN
theorem o_.nd{g:aA}{L0 L:List (ae×Nat)}{seen:List D}{p:ae×Nat}(hn:(L.map (·.2)).Nodup)(hp:p∈L)(h:o_ g L0 L seen)(hl:g.rules.any (fY (L.map (·.1)) p.1)=true):o_ g L0 L (seen++[.int .i64 (p.2:Int)]):=by
 refine⟨h.of,h.has,?_,h.full⟩;rcases h.how with⟨rfl,h1⟩|h1
 ·refine .inl ⟨rfl,fun q hq hs=>?_⟩;simp only[aeI,abr,abk,aex,aey,intOf]at hs;rcases hs with hs|hs
  ·exact awN
  ·have hpq:q=p:=by
    have:=v8 L hn hq;rw[hs,v8 L hn hp]at this;injection this with this;injection this with this
    exact awN
   exact awN
 exact awN
theorem o_.cut{g:aA}{L0 L:List (ae×Nat)}{seen s':List D}{c:ae}{j:Nat}{q:ae×Nat}(hj:L[j]? =some q)(hq:q.1=c)(h:o_ g L0 L seen)(hl:g.rules.any (fY (L.map (·.1)) c)=false):o_ g L0 (L.eraseIdx j) s':=by
 have xc:j<L.length:=(aaL.1 hj).1;have hlen:=h.of.length_le;have hc:c∈L.map (·.1):=aa1.2 ⟨q,aat hj,hq⟩;refine⟨(al8 _ _).trans h.of,fun F hF hs x hx=>?_,.inr ?_,fun hf=>?_⟩
 ·have hxc:x≠c:=by
   rintro rfl;have:=Hb (h.has F hF hs) (hF x hx)
   exact awN
  obtain⟨r,hr,rfl⟩:=aa1.1 (h.has F hF hs x hx);obtain⟨i,hi⟩:=afj.1 hr;refine aa1.2 ⟨r,List.mem_eraseIdx_iff_getElem?.2 ⟨i,?_,hi⟩,rfl⟩
  exact awN
 ·exact awN
 ·have e:=h.full hf;rw[<-e]at hf;rw[hf c hc]at hl;exact awB
def Si(g:aA)(hg:ov g)(VO:g.aB.Nodup):M3 prog (dD prog) [] f173 0 [g.d] (fun _=> .none) (fun d _=>d= .bool (uy g)) (fun _ _=>False):=by
 refine eG _ [.tmp 2] 42 rfl rfl rfl ar ?_;have bS:=hg.Ih;simp(disch:=omega) only[go_sem,aA.d,strs];refine bB g.aB.length (fun j σ bx=>σ 1= .loc 1 1 0 0/\σ 3= .loc 3 1 0 0/\σ 10=strs g.aB/\σ 11= .int .i64 g.aB.length/\σ 12= .int .i64 j/\bx 1=⟨1,1,6,78,[g.d]⟩/\bx 3=⟨1,1,1,345,[.omap 8 1]⟩/\bx 8=⟨1,3,0,345,.int .i64 j::dC (kG (g.aB.zipIdx.take j))⟩) ?_ ?_ ?_
 ·simp(disch:=omega) only[go_sem,aA.d,strs,akw];simp[kG,dC]
 ·rintro j σ bx hj ⟨q1,q3,ve,Ot,q12,b1,b3,b8⟩;obtain⟨c,hc⟩:=bk hj;have au:(j:Int)<(g.aB.length:Int):=oM;have vQ:IntKind.i64.wrap ((j:Int)+1)=((j+1:Nat):Int):=aR oM;have hu:=FN (c:=(j:Int)) (v:=.bool true) (adn VO hc);simp(disch:=omega) only[go_sem,q1,q3,ve,Ot,q12,b1,b3,b8,au,hc,strs,hu,vQ,ff];simp_all[Pe,kG]
 ·rintro σ bx ⟨q1,q3,ve,Ot,q12,b1,b3,b8⟩;have au:¬(g.aB.length:Int)<(g.aB.length:Int):=oM;simp(disch:=omega) only[go_sem,q1,q3,ve,Ot,q12,b1,b3,b8,au,strs,aA.d];refine bB g.aB.length (fun k σ bx=>σ 1= .loc 1 1 0 0/\σ 3= .loc 3 1 0 0/\σ 21= .int .i64 g.aB.length/\σ 22= .int .i64 k/\bx 1=⟨1,1,6,78,[g.d]⟩/\bx 3=⟨1,1,1,345,[.omap 8 1]⟩/\
   ∃L,bx 8=⟨1,3,0,345,.int .i64 g.aB.length::dC (kG L)⟩/\Left g k L) ?_ ?_ ?_
  ·simp(disch:=omega) only[go_sem,q1,q3,b1,b3,b8,aA.d,strs]
   grind [List.length_zipIdx,Left.all]
  ·rintro k σ bx hk ⟨q1,q3,yf,KW,b1,b3,L0,b8,hL0⟩;have au:(k:Int)<(g.aB.length:Int):=oM;have nx:IntKind.i64.wrap ((k:Int)+1)=((k+1:Nat):Int):=aR oM;simp(disch:=omega) only[go_sem,q1,q3,yf,KW,b1,b3,b8,au,strs];obtain⟨e25,he⟩:∃e25,(bx 25).ep+1=e25:=⟨_,rfl⟩
   rw[he];refine pc (fun σ bx=>σ 1= .loc 1 1 0 0/\σ 3= .loc 3 1 0 0/\σ 21= .int .i64 g.aB.length/\σ 22= .int .i64 k/\σ 25= .loc 25 e25 0 0/\bx 1=⟨1,1,6,78,[g.d]⟩/\bx 3=⟨1,1,1,345,[.omap 8 1]⟩/\
    ∃L seen,bx 8=⟨1,3,0,345,.int .i64 g.aB.length::dC (kG L)⟩/\bx 25=⟨e25,3,0,0,.omap 8 1:: .int .i64 g.aB.length:: .int .i64 g.aB.length::seen⟩/\o_ g L0 L seen)
    (fun σ bx=>(jf ((bx 25).es.drop 3) ((bx 8).es.drop 1)).length) ?_ ?_
   ·simp(disch:=omega) only[go_sem,q1,q3,yf,KW,b1,b3,b8];exact⟨L0,[],rfl,rfl,o_.start hL0⟩
   ·rintro σ bx ⟨q1,q3,yf,KW,q25,b1,b3,L,seen,b8,b25,hm⟩;simp(disch:=omega) only[go_sem,q1,q3,yf,KW,q25,b1,b3,b8,b25,AM];have hz:=H3 (hm.of.trans hL0.of);refine⟨?_,?_,fun hl=>⟨by rw[nx],L,rfl,o_.round hL0 hm hl⟩⟩
    ·cases hL:L<;>simp_all[one,tK,iQ]
    ·intro k1 v b hd;obtain⟨p,hp,hd1,Np⟩:=AF.1 hd;obtain⟨rfl,rfl,rfl⟩:k1= .str p.1/\v= .bool true/\b=(p.2:Int):=by injection hd1 with hd1;grind
     have anf:=Ys seen hz.1 hp;have hb8:∀(b:ab),(jf (List.drop 3 (bx 25).es) (List.drop 1 (bx 8).es))=jf seen (dC (kG L)):=fun _=>awN
     rw[hb8 bx];simp(disch:=omega) only[go_sem,ff,b25,b8,wP,anf,q1,q3,b1,b3,aA.d,strs];refine ao (Vq (n0:=9) (k:=100) (acr (e6:=(bx 6).ep+1) (e3:=1) (e8:=1) (n:=g.aB.length) (c:=p.1) (m:=kG L) (t3:=345) (t6:=9) (t8:=345) (s3:=0) awx (by simp[ah,b3]) (by simp[ah,b8]) (Zv L)) oM g.rules hg.Dh hg.rules _ (fun _ _=>rfl)) rfl ?_;rintro d B ⟨rfl,hk⟩;have c1:=(hk 1 oM).trans (show _=bx 1 by simp[ah]);have c3:=(hk 3 oM).trans (show _=bx 3 by simp[ah]);have c8:=(hk 8 oM).trans (show _=bx 8 by simp[ah]);have c6:=hk 6 oM;have c25:=hk 25 oM;rw[b1]at c1;rw[b3]at c3;rw[b8]at c8;simp[ah]at c6 c25;rw[Zu]at *;cases hl:g.rules.any (fY (L.map (·.1)) p.1)
     ·obtain⟨j,e,d1,d2,d3⟩:=abN (m:=kG L) (s:=p.1) (c:=(g.aB.length:Int)) ⟨_,aa1.2 ⟨p,hp,rfl⟩,rfl⟩;simp(disch:=omega) only[go_sem,hl,aaV,c1,c3,c8,c6,c25,d3,ff,q1,q3,yf,KW,q25];have he:=KA L j;obtain⟨q,CB,rB⟩:∃q,L[j]? =some q/\q.1=p.1:=by grind [kG]
      rw[he];exact⟨⟨by simp[aA.d,strs],L.eraseIdx j,_,rfl,rfl,hm.cut CB rB hl⟩,Rc (al8 _ _) hp Np⟩
     ·simp(disch:=omega) only[go_sem,hl,aaX,c1,c3,c8,c6,c25,q1,q3,yf,KW,q25];exact⟨⟨by simp[aA.d,strs],L,_,rfl,rfl,hm.nd hz.1 hp hl⟩,Rc (akZ _) hp Np⟩
  ·rintro σ bx ⟨q1,q3,yf,KW,b1,b3,L,b8,hL⟩;have au:¬(g.aB.length:Int)<(g.aB.length:Int):=oM;simp(disch:=omega) only[go_sem,q1,q3,yf,KW,b1,b3,b8,au,MJ];rw[UG hL.sub hL.fin hL.has];cases L<;>simp[kG]
def Sg(g:aA)(hg:ov g)(VO:g.aB.Nodup):av prog 173 [g.d] (.bool (uy g)):=
 (dY mixed (Si g hg VO) rfl ar rfl).to (fun _ _ h=>h) (fun d' bx' h=>⟨.bool (uy g),aww,.refl _⟩)
def gx(B sz el:Nat)(l:List D)(bx:ab)(d:D)(bx':ab):Prop:=
 ((l=[]/\aP bx' [B+5] el sz d [])\/(l≠[]/\∃e,d= .ba (B+7) e sz 0 l.length/\bx' (B+7)=⟨e,1,sz,el,l⟩))/\∀s,s<B->bx' s=bx s
theorem gx.nd{B sz el:Nat}{l:List D}{bx bx':ab}{d:D}(h:gx B sz el l bx d bx'):∀s,s<B->bx' s=bx s:=h.2
theorem gx.own{B sz el:Nat}{l:List D}{bx bx':ab}{d:D}(h:gx B sz el l bx d bx')(hl:l≠[]):∃e,d= .ba (B+7) e sz 0 l.length/\bx' (B+7)=⟨e,1,sz,el,l⟩:=by rcases h.1 with h|h<;>grind
theorem gx.none{B sz el:Nat}{bx bx':ab}{d:D}(h:gx B sz el [] bx d bx'):aP bx' [B+5] el sz d []:=by rcases h.1 with h|h<;>grind
def EU(B:Nat)(l:List Part)(hl:l.length<=65536)(bx:ab):az prog 53 0 [.sl 3 (l.map Part.d)] bx (gx B 3 161 (l.map Part.d) bx) (fun _ _=>False):=by
 refine dY (fn:=f53) (tab:=[(1000005,[])]) (base:=B) mixed ?_ rfl ar rfl;refine eG _ [.tmp 2] 8 rfl rfl rfl ar ?_;cases l with
 |nil=>
  simp(disch:=omega) only[go_sem,aex,ak8];refine⟨⟨.inl ⟨rfl,.nil _ _ _ _⟩,fun _ _=>rfl⟩,?_⟩;refine nJ (ts:=[B+5]) (xs:=[]) (.inr ⟨B+5,(bx (B+5)).ep+1,sI,rfl,awx⟩) ?_;simp(disch:=omega) only[go_sem];exact⟨.inl ⟨rfl,.inr ⟨B+5,(bx (B+5)).ep+1,sI,rfl,awx⟩⟩,fun s hs=>auw⟩
 |cons x l=>
  simp only[aa5]at hl;simp(disch:=omega) only[go_sem,abk,ak0];refine il (ts:=[B+5]) (xs:=[]) (.inr ⟨B+5,(bx (B+5)).ep+1,sI,rfl,awx⟩) sI sG awe oM oM sI fun e' bx' h1 h2=>?_;simp(disch:=omega) only[go_sem];refine⟨.inr ⟨sI,e',sI,awN⟩,fun s hs=>?_⟩;rw[h2 s oM awe];simp(disch:=omega) only[al,aaw]
def Mt(B:Nat)(l:List Entry)(hl:l.length<=65536)(bx:ab):az prog 51 0 [.sl 5 (l.map Entry.d)] bx (gx B 5 152 (l.map Entry.d) bx) (fun _ _=>False):=by
 refine dY (fn:=f51) (tab:=[(1000005,[])]) (base:=B) mixed ?_ rfl ar rfl;refine eG _ [.tmp 2] 8 rfl rfl rfl ar ?_;cases l with
 |nil=>
  simp(disch:=omega) only[go_sem,aex,ak8];refine⟨⟨.inl ⟨rfl,.nil _ _ _ _⟩,fun _ _=>rfl⟩,?_⟩;refine nJ (ts:=[B+5]) (xs:=[]) (.inr ⟨B+5,(bx (B+5)).ep+1,sI,rfl,awx⟩) ?_;simp(disch:=omega) only[go_sem];exact⟨.inl ⟨rfl,.inr ⟨B+5,(bx (B+5)).ep+1,sI,rfl,awx⟩⟩,fun s hs=>auw⟩
 |cons x l=>
  simp only[aa5]at hl;simp(disch:=omega) only[go_sem,abk,ak0];refine il (ts:=[B+5]) (xs:=[]) (.inr ⟨B+5,(bx (B+5)).ep+1,sI,rfl,awx⟩) sI sG awe oM oM sI fun e' bx' h1 h2=>?_;simp(disch:=omega) only[go_sem];refine⟨.inr ⟨sI,e',sI,awN⟩,fun s hs=>?_⟩;rw[h2 s oM awe];simp(disch:=omega) only[al,aaw]
def Mu(B:Nat)(l:List aF)(hl:l.length<=65536)(bx:ab):az prog 52 0 [.sl 5 (l.map aF.d)] bx (gx B 5 157 (l.map aF.d) bx) (fun _ _=>False):=by
 refine dY (fn:=f52) (tab:=[(1000005,[])]) (base:=B) mixed ?_ rfl ar rfl;refine eG _ [.tmp 2] 8 rfl rfl rfl ar ?_;cases l with
 |nil=>
  simp(disch:=omega) only[go_sem,aex,ak8];refine⟨⟨.inl ⟨rfl,.nil _ _ _ _⟩,fun _ _=>rfl⟩,?_⟩;refine nJ (ts:=[B+5]) (xs:=[]) (.inr ⟨B+5,(bx (B+5)).ep+1,sI,rfl,awx⟩) ?_;simp(disch:=omega) only[go_sem];exact⟨.inl ⟨rfl,.inr ⟨B+5,(bx (B+5)).ep+1,sI,rfl,awx⟩⟩,fun s hs=>auw⟩
 |cons x l=>
  simp only[aa5]at hl;simp(disch:=omega) only[go_sem,abk,ak0];refine il (ts:=[B+5]) (xs:=[]) (.inr ⟨B+5,(bx (B+5)).ep+1,sI,rfl,awx⟩) sI sG awe oM oM sI fun e' bx' h1 h2=>?_;simp(disch:=omega) only[go_sem];refine⟨.inr ⟨sI,e',sI,awN⟩,fun s hs=>?_⟩;rw[h2 s oM awe];simp(disch:=omega) only[al,aaw]
def nV(l:List (ae×Nat)):PM:=l.map fun p=>(p.1,.int .i64 (p.2:Int),(p.2:Int))
def num(l:List ae)(s:ae):Int:=if l.contains s then(l.idxOf s:Int)else 0
def ZA{l:List ae}(hn:l.Nodup){j:Nat}{c:ae}(h:l[j]? =some c):c∉l.take j:=arV
def aaF(l:List ae)(hn:l.Nodup)(s:ae):∃r,dX .str (.str s) (dC (nV l.zipIdx)) 0=some r/\((r=none/\l.contains s=false/\num l s=0)\/∃j,r=some (j,.int .i64 (num l s))/\l.contains s=true):=by
 rcases tL s (nV l.zipIdx) 0 with⟨h1,h2⟩|⟨j,e,h1,h2,h3⟩
 ·have hs:l.contains s=false:=by
   rw[ajR,Ne,agB];intro hm;obtain⟨i,hi⟩:=afj.1 hm;refine h2 (s,.int .i64 (i:Int),(i:Int)) (aa1.2 ⟨(s,i),?_,rfl⟩) rfl
   exact awN
  simp_all[num]
 ·simp only[nV,aaZ,List.getElem?_zipIdx,Option.map_map,aav]at h2;obtain⟨c,hc,rfl⟩:=h2;simp only[Function.comp,aeC]at h1 h3;subst h3;have hm:l.contains c=true:=agB.2 (aat hc);have hi:l.idxOf c=j:=(NJ l j c hc (ZA hn hc)).1;simp_all[num]
def aeh{e e2 t t2 s2:Nat}{n:Int}{l:List ae}{bx0:ab}(hn:l.Nodup)(h4:bx0 4=⟨e,1,1,t,[.omap 29 e2]⟩)(h29:bx0 29=⟨e2,3,s2,t2,.int .i64 n::dC (nV l.zipIdx)⟩):
 Lt 171 [.loc 4 e 0 0] 30 bx0 l.contains:=by
 intro bx s hb hs;refine dY (fn:=f171) (tab:=[]) (base:=100000) mixed ?_ rfl ar rfl;refine eG _ [.tmp 3,.tmp 4] 15 rfl rfl rfl ar ?_;have g4:=(hb 4 oM).trans h4;have g29:=(hb 29 oM).trans h29;obtain⟨r,hr,⟨rfl,hc,_⟩|⟨j,rfl,hc⟩⟩:=aaF l hn s
 ·simp(disch:=omega) only[go_sem,g4,g29,hr]
  exact awN
 ·simp(disch:=omega) only[go_sem,g4,g29,hr]
  exact awN
def vE(l:List ae)(x:Entry):Entry:={x with no:=num l x.cat}
def Dn(l:List ae)(q:Part):Part:={q with no:=if q.text=[]then num l q.cat else 0}
def lZ(l:List ae)(x:aF):aF:={x with no:=num l x.cat,parts:=x.parts.map (Dn l)}
def gh(g:aA):aA:={g with no:=num g.aB g.start,entries:=g.entries.map (vE g.aB),rules:=g.rules.map (lZ g.aB)}
def bF(g:aA):aA×Int:=
 if 32<g.aB.length\/512<g.entries.length\/128<g.rules.length then(.zero,2)
 else if ¬g.aB.Nodup\/iB g.aB.contains g=false then(.zero,260)
 else if uy g=true then(.zero,261)else(gh g,0)
def yK(p:aA×Int):D:=.aL [p.1.d,.int .i64 p.2]
def pG:D:=.agg [.str [],.ak,.str [],.int .i64 0,.ak,.ak]
def Res(p:aA×Int)(d:D)(bx:ab):Prop:=∃r,aU bx d=some r/\bA r (yK p)
def vp{a b c d f k a' b' c' d' f' k':D}(h1:bA a a')(h2:bA b b')(h3:bA c c')(h4:bA d d')(h5:bA f f')(h6:bA k k'):bA (.agg [a,b,c,d,f,k]) (.agg [a',b',c',d',f',k']):=by
 refine .agg rfl fun i x x' hx jc=>?_
 exact awN
def ui(n:Int)(bx:ab):Res (.zero,n) (.aL [pG,.int .i64 n]) bx:=by
 refine⟨.aL [pG,.int .i64 n],by simp[pG,go_sem],?_⟩;exact vq (vp (.refl _) (.nil _) (.refl _) (.refl _) (.nil _) (.nil _)) (.refl _)
def SW{l:List ae}{j:Nat}{s:ae}(hs:l[j]? =some s){c:Int}{m:PM}(hm:((l.take j).Nodup/\c=j/\m=nV (l.zipIdx.take j))\/(¬l.Nodup/\m.length<j)):
 ∃m' c',nj .str (.str s) (.int .i64 j) c (dC m)=some (.int .i64 c'::dC m')/\(((l.take (j+1)).Nodup/\c'=((j+1:Nat):Int)/\m'=nV (l.zipIdx.take (j+1)))\/(¬l.Nodup/\m'.length<j+1)):=by
 have rD:l.take (j+1)=l.take j++[s]:=auJ
 rcases hm with⟨h1,rfl,rfl⟩|⟨h1,h2⟩
 ·have hkeys:(nV (l.zipIdx.take j)).map (·.1)=l.take j:=by grind [nV,Function.comp_def,List.map_take,List.zipIdx_map_fst]
  have hlen:(nV (l.zipIdx.take j)).length<=j:=by simp[nV];omega
  by_cases SS:s∈l.take j
  ·obtain⟨m',c',g1,g2,g3⟩:=O7 (nV (l.zipIdx.take j)) s (j:Int) (.int .i64 j)
   exact awN
  ·refine⟨_,_,FN ?_,.inl ⟨?_,oM,?_⟩⟩
   ·exact awN
   ·exact awN
   simp_all[Pe,nV]
 ·obtain⟨m',c',g1,g2,g3⟩:=O7 m s c (.int .i64 j)
  exact awN
theorem gx.facts{B sz el:Nat}{l:List D}{bx bx':ab}{d:D}(h:gx B sz el l bx d bx'):d.cells=[d]/\D.one d=true/\∀e z b ag,AG (.slice e z b ag) d=some l.length:=by
 rcases h.1 with⟨hl,h⟩|⟨_,e,h,h2⟩
 ·rcases h with⟨h,h2⟩|⟨t,e,h1,h,h2⟩<;>rw[h,hl]<;>exact⟨rfl,rfl,fun _ _ _ _=>rfl⟩
 ·rw[h];exact⟨rfl,rfl,fun _ _ _ _=>rfl⟩
def iM{α:Type}(f:α->α)(l:List α)(k:Nat):List α:=(l.take k).map f++l.drop k
def zZ{α:Type}(f:α->α)(l:List α):iM f l 0=l:=by simp[iM]
def uq{α:Type}(f:α->α)(l:List α):iM f l l.length=l.map f:=by simp[iM]
def kM{α:Type}(f:α->α)(l:List α)(k:Nat):(iM f l k).length=l.length:=by simp[iM];omega
def ur{α:Type}{f:α->α}{l:List α}{k:Nat}{x:α}(h:l[k]? =some x):(iM f l k)[k]? =some x:=by grind [iM]
def aaj{α:Type}{f:α->α}{l:List α}{k:Nat}{x:α}(h:l[k]? =some x):(iM f l k).set k (f x)=iM f l (k+1):=by grind [List.drop_eq_getElem_cons,List.take_add_one,iM]
def uu{α:Type}{f:α->α}{d:α->D}{l:List α}{k:Nat}{x:α}(h:l[k]? =some x):((iM f l k).map d).set k (d (f x))=(iM f l (k+1)).map d:=by rw[<-aaj h,List.map_set]
def H6(eR:Nat)(l:List D)(bx:ab):Prop:=∃es,bx 327=⟨eR,1,5,157,es⟩/\cE bx es=some l/\∀t∈bY es,t=347
theorem oV(bx:ab):∀l:List aF,cE bx (l.map aF.d)=some (l.map aF.d)/\bY (l.map aF.d)=[]
 |[]=>⟨by simp[cE],rfl⟩
 |x::l=>by
  obtain⟨h1,h2⟩:=oV bx l;refine⟨?_,?_⟩
  ·rw[abk,dh,h1];simp[aF.d,go_sem]
  ·simp[aF.d,names,bY,h2]
theorem I3{bx:ab}{d d':D}(hd:aU bx d=some d'):∀(l l':List D) (k:Nat),cE bx l=some l'->cE bx (l.set k d)=some (l'.set k d')
 |[],l',k,h=>by grind [cE]
 |x::l,l',0,h=>by
  rw[dh]at h;obtain⟨y,ys,h1,h2,rfl⟩:=rm h;rw[List.set_cons_zero,dh,hd,h2];rfl
 |x::l,l',k+1,h=>by
  rw[dh]at h;obtain⟨y,ys,h1,h2,rfl⟩:=rm h;rw[List.set_cons_succ,dh,h1,I3 hd l ys k h2];rfl
theorem C0{d:D}{t:Nat}:∀(l:List D) (k:Nat),t∈bY (l.set k d)->t∈bY l\/t∈names d
 |[],k,h=> .inl awN
 |x::l,0,h=>by grind [bY]
 |x::l,k+1,h=>by
  simp only[List.set_cons_succ,bY,abr]at h⊢;rcases h with h|h
  ·exact awN
  ·rcases C0 l k h with h|h<;>grind
theorem H6.of{eR:Nat}{l:List aF}{bx:ab}(h:bx 327=⟨eR,1,5,157,l.map aF.d⟩):H6 eR (l.map aF.d) bx:=
 ⟨_,h,(oV bx l).1,by rw[(oV bx l).2];simp⟩
theorem H6.dO{eR:Nat}{l:List D}{bx:ab}(h:H6 eR l bx):∃bx0,((bx 327).k=1/\cE bx (bx 327).es=some l/\bx0=Go.V.dO bx 327 l)/\bx0 327=⟨eR,1,5,157,l⟩/\∀s,s≠327->s≠347->bx0 s=bx s:=by
 obtain⟨es,h1,h2,h3⟩:=h;have h4:aS bx es 327=bx 327:=by rw[fP,aaw (fun hm=>awN)]
 have h5:(bx 327).es=es:=by rw[h1]
 refine⟨_,⟨by rw[h1],awN,rfl⟩,?_,fun s hs tB=>?_⟩
 ·simp_all[Go.V.dO,aY]
 ·unfold Go.V.dO;rw[h5,al hs,fP,aaw]
  exact awN
theorem Bc{g:aA}{p:ae->Bool}(h:iB p g=true){x:aF}(hx:x∈g.rules):x.parts≠[]/\x.parts.length<=4:=by
 simp only[iB,aas,aaI]at h;have:=h.2.2.2.2.2 x hx;simp only[jj,aas,qy,aaH]at this
 exact awN
def Zq(l:List ae)(hn:l.Nodup)(s:ae):vJ (some (.int .i64 0)) false (dX .str (.str s) (dC (nV l.zipIdx)) 0)=some (.int .i64 (num l s)):=by
 obtain⟨r,hr,⟨rfl,_,h⟩|⟨j,rfl,_⟩⟩:=aaF l hn s
 ·rw[hr,h];rfl
 ·rw[hr];rfl
def W1(g:aA)(hg:ov g):M3 prog (dD prog) [(2000016,[]),(2000026,[]),(16,[(7,5)]),(20,[(12,3)]),(26,[(11,7),(16,6),(12,6),(11,6)]),(32,[(14,3)])] f109 0 [g.d] (fun _=> .none) (Res (bF g)) (fun _ _=>False):=by
 refine eG _ [.cell 2 78,.tmp 3] 164 rfl rfl rfl ar ?_;simp(disch:=omega) only[go_sem,aA.d,strs];by_cases hlim:32<g.aB.length\/512<g.entries.length\/128<g.rules.length
 ·have hr:bF g=(.zero,2):=av7
  rw[hr];by_cases l1:(32:Int)<(g.aB.length:Int)
  ·simp(disch:=omega) only[go_sem,l1,abq];exact ui _ _
  by_cases l2:(512:Int)<(g.entries.length:Int)
  ·simp(disch:=omega) only[go_sem,l1,l2,abq,adX];exact ui _ _
  have l3:(128:Int)<(g.rules.length:Int):=oM;simp(disch:=omega) only[go_sem,l1,l2,l3,abq,adX];exact ui _ _
 ·have l1:¬(32:Int)<(g.aB.length:Int):=oM;have l2:¬(512:Int)<(g.entries.length:Int):=oM;have l3:¬(128:Int)<(g.rules.length:Int):=oM;simp(disch:=omega) only[go_sem,l1,l2,l3,adX];refine bB g.aB.length (fun j σ bx=>σ 1= .loc 1 1 0 0/\σ 2= .loc 2 1 0 0/\σ 4= .loc 4 1 0 0/\σ 31=strs g.aB/\σ 32= .int .i64 g.aB.length/\σ 33= .int .i64 j/\bx 1=⟨1,1,6,78,[g.d]⟩/\bx 2=⟨1,1,6,78,[pG]⟩/\bx 4=⟨1,1,1,285,[.omap 29 1]⟩/\
   ∃c m,bx 29=⟨1,3,0,285,.int .i64 c::dC m⟩/\(((g.aB.take j).Nodup/\c=j/\m=nV (g.aB.zipIdx.take j))\/(¬g.aB.Nodup/\m.length<j))) ?_ ?_ ?_
  ·simp(disch:=omega) only[go_sem,aA.d,strs,akw,pG];exact⟨0,[],rfl,.inl ⟨.nil,rfl,rfl⟩⟩
  ·rintro j σ bx hj ⟨q1,q2,q4,KY,q32,q33,b1,b2,b4,c,m,BA,hm⟩;obtain⟨s,hs⟩:=bk hj;have au:(j:Int)<(g.aB.length:Int):=oM;have vQ:IntKind.i64.wrap ((j:Int)+1)=((j+1:Nat):Int):=aR oM;obtain⟨m',c',hu,Cx⟩:∃m' c',nj .str (.str s) (.int .i64 j) c (dC m)=some (.int .i64 c'::dC m')/\(((g.aB.take (j+1)).Nodup/\c'=((j+1:Nat):Int)/\m'=nV (g.aB.zipIdx.take (j+1)))\/(¬g.aB.Nodup/\m'.length<j+1)):=SW hs hm;simp(disch:=omega) only[go_sem,q1,q2,q4,KY,q32,q33,b1,b2,b4,BA,au,hs,strs,hu,vQ,ff]
   exact awN
  ·rintro σ bx ⟨q1,q2,q4,KY,q32,q33,b1,b2,b4,c,m,BA,hm⟩;have au:¬(g.aB.length:Int)<(g.aB.length:Int):=oM;simp(disch:=omega) only[go_sem,q1,q2,q4,KY,q32,q33,b1,b2,b4,BA,au,strs,aA.d,MJ];rcases hm with⟨hn,rfl,rfl⟩|⟨hn,h2⟩
   rotate_left
   ·have hr:bF g=(.zero,260):=av7
    have h3:¬((m.length:Int)=(g.aB.length:Int)):=oM;simp(disch:=omega) only[go_sem,h3,adX,aaV,q2,b2,pG];rw[hr];exact ui _ _
   rw[aaP]at hn;have hz:g.aB.zipIdx.take g.aB.length=g.aB.zipIdx:=by grind [List.length_zipIdx]
   rw[hz]at BA⊢;have h3:(((nV g.aB.zipIdx).length:Nat):Int)=(g.aB.length:Int):=by simp[nV]
   simp(disch:=omega) only[go_sem,h3,abq,aaX,q1,q2,b1,b2,aA.d,strs];refine ao (adh g hg bx (aeh hn b4 BA) oM) rfl ?_;rintro d B ⟨rfl,hk⟩;have c1:=(hk 1 oM).trans b1;have c2:=(hk 2 oM).trans b2;have c4:=(hk 4 oM).trans b4;have Uv:=(hk 29 oM).trans BA;cases ht:iB g.aB.contains g
   ·have hr:bF g=(.zero,260):=av7
    simp(disch:=omega) only[go_sem,ht,h3,abq,aaX,aaV,q2,c2,pG];rw[hr];exact ui _ _
   simp(disch:=omega) only[go_sem,ht,h3,abq,aaX,q1,q2,c1,aA.d,strs];refine aI (Sg g hg hn) (show D.aH [g.d]=true by simp[D.aH,rL]) ?_;cases hc:uy g
   rotate_left
   ·have hr:bF g=(.zero,261):=av7
    simp(disch:=omega) only[go_sem,hc,q2,c2,pG];rw[hr];exact ui _ _
   have hr:bF g=(gh g,0):=av7
   rw[hr];have GK:=Zq g.aB hn;simp(disch:=omega) only[go_sem,hc,q1,q2,q4,c1,c2,c4,Uv,GK,pG,aA.d,strs];refine gU (.aD 0 (.load 1 1 (.aD 3 (.load 4 1 (.both 2 [1] (.aD 6 (.both 5 [] (.both 7 [] (.aD 8 (.both 9 [] .fin .stop)) .stop) .stop)) .stop))))) ar ?_;simp(disch:=omega) only[go_sem,hc,q1,q2,q4,c1,c2,c4,Uv,pG,aA.d,strs];generalize zi:ah (ah B 2 _) 2 _=B1;have d1:B1 1=⟨1,1,6,78,[g.d]⟩:=by rw[<-zi];simp[ah,c1]
   have d2:B1 2=⟨1,1,6,78,[.agg [.str g.name,.sl 1 (g.aB.map D.str),.str g.start,.int .i64 (num g.aB g.start),.sl 5 (g.entries.map Entry.d),.sl 5 (g.rules.map aF.d)]]⟩:=by rw[<-zi];simp[ah]
   have d4:B1 4=⟨1,1,1,285,[.omap 29 1]⟩:=by rw[<-zi];simp[ah,c4]
   obtain⟨cl,d29⟩:∃c:Int,B1 29=⟨1,3,0,285,.int .i64 c::dC (nV g.aB.zipIdx)⟩:=⟨_,by rw[<-zi];simp[ah,Uv];rfl⟩
   clear zi;refine ao (Mt 300 g.entries oM B1) rfl ?_;rintro dE B2 ⟨hE,kE⟩;simp(disch:=omega) only[go_sem,kE 1 oM,aA.d,strs,q1,q2,d1,d2];refine ao (Mu 320 g.rules oM B2) rfl ?_;rintro dR B3 ⟨hR,kR⟩;have e1:=(kR 1 oM).trans ((kE 1 oM).trans d1);have e2:=(kR 2 oM).trans ((kE 2 oM).trans d2);have e4:=(kR 4 oM).trans ((kE 4 oM).trans d4);have e29:=(kR 29 oM).trans ((kE 29 oM).trans d29);obtain⟨f1,f2,f3⟩:=gx.facts ⟨hE,kE⟩;obtain⟨f4,f5,f6⟩:=gx.facts ⟨hR,kR⟩;rw[aa0]at f3 f6;simp(disch:=omega) only[go_sem,e2,q1,q2,f1,f2,f3,f4,f5,f6];generalize hB4:ah (ah B3 2 _) 2 _=B4;have LH:∀s,s≠2->B4 s=B3 s:=fun s hs=>by rw[<-hB4];simp[ah,hs]
   have g2:B4 2=⟨1,1,6,78,[.agg [.str g.name,.sl 1 (g.aB.map D.str),.str g.start,.int .i64 (num g.aB g.start),dE,dR]]⟩:=by rw[<-hB4];simp[ah]
   clear hB4;obtain⟨eE,zm⟩:∃eE,g.entries≠[]->dE= .ba 307 eE 5 0 g.entries.length/\B4 307=⟨eE,1,5,152,g.entries.map Entry.d⟩:=ats
   have fO:=hg.EY;refine bB g.entries.length (fun j σ bx=>σ 2= .loc 2 1 0 0/\σ 4= .loc 4 1 0 0/\σ 75= .int .i64 g.entries.length/\σ 76= .int .i64 j/\(∀s,s≠307->bx s=B4 s)/\(g.entries≠[]->bx 307=⟨eE,1,5,152,(iM (vE g.aB) g.entries j).map Entry.d⟩)) ?_ ?_ ?_
   ·simp(disch:=omega) only[go_sem,q2,q4,zZ]
    exact awN
   ·rintro j σ bx hj ⟨q2,q4,q75,q76,hk,SN⟩;obtain⟨x,hx⟩:=bk hj;have bh:g.entries≠[]:=awN
    obtain⟨rfl,-⟩:=zm bh;have b7:=SN bh;have b2:=(hk 2 oM).trans g2;have b4:=(hk 4 oM).trans ((LH 4 oM).trans e4);have BA:=(hk 29 oM).trans ((LH 29 oM).trans e29);have au:(j:Int)<(g.entries.length:Int):=oM;have vQ:IntKind.i64.wrap ((j:Int)+1)=((j+1:Nat):Int):=aR oM;have eC:=ur (f:=vE g.aB) hx;have fk:=uu (f:=vE g.aB) (d:=Entry.d) hx;simp only[vE,Entry.d]at fk;simp(disch:=omega) only[go_sem,q2,q4,q75,q76,au,vQ,b2,b4,BA,b7,eC,kM,GK,Entry.d,strs]
    exact awN
   ·rintro σ bx ⟨q2,q4,q75,q76,hk,SN⟩;have au:¬(g.entries.length:Int)<(g.entries.length:Int):=oM;have b2:=(hk 2 oM).trans g2;simp(disch:=omega) only[go_sem,q2,q4,q75,q76,au,b2,f1,f2,f3,f4,f5,f6];rw[uq]at SN;obtain⟨eR,BF⟩:∃eR,g.rules≠[]->dR= .ba 327 eR 5 0 g.rules.length/\bx 327=⟨eR,1,5,157,g.rules.map aF.d⟩:=auq
    have xW:=hg.Dh;generalize hB5:bx=B5 at *;refine P_ g.rules.length (fun j σ bx=>σ 2= .loc 2 1 0 0/\σ 4= .loc 4 1 0 0/\σ 95= .int .i64 g.rules.length/\σ 96= .int .i64 j/\(∀s,s≠327->s<340->bx s=B5 s)/\(g.rules≠[]->H6 eR ((iM (lZ g.aB) g.rules j).map aF.d) bx)) ?_ ?_ ?_
    ·simp(disch:=omega) only[go_sem,q2,q4,zZ];exact⟨fun _ _ _=>trivial,fun h=> .of (BF h).2⟩
    ·rintro j σ bx hj ⟨q2,q4,xy,vU,sE,hh⟩;obtain⟨x,hx⟩:=bk hj;have bh:g.rules≠[]:=awN
     obtain⟨rfl,-⟩:=BF bh;obtain⟨bx0,hm,pH,mQ⟩:=(hh bh).dO;refine⟨bx0,.inr ⟨rfl,327,_,hm.1,hm.2.1,hm.2.2⟩,?_⟩;clear hm;have low:∀s,s≠307->s≠327->s<340->bx0 s=B4 s:=fun s h1 h2 h3=>(mQ s h2 oM).trans ((sE s h2 h3).trans (hk s h1));have b2:=(low 2 oM oM oM).trans g2;have b4:=(low 4 oM oM oM).trans ((LH 4 oM).trans e4);have BA:=(low 29 oM oM oM).trans ((LH 29 oM).trans e29);have au:(j:Int)<(g.rules.length:Int):=oM;have eC:=ur (f:=lZ g.aB) hx;have nF:x.parts≠[]/\x.parts.length<=4:=Bc ht (aat hx);have GR:x.parts.map Part.d≠[]:=awy
     have vQ:IntKind.i64.wrap ((j:Int)+1)=((j+1:Nat):Int):=aR oM;simp(disch:=omega) only[go_sem,q2,q4,xy,vU,au,b2,b4,pH,eC,kM];refine Gc (Q:=fun σ bx=>σ 2= .loc 2 1 0 0/\σ 4= .loc 4 1 0 0/\σ 10= .loc 327 eR j 0/\σ 95= .int .i64 g.rules.length/\σ 96= .int .i64 j/\∃eP,bx 327=⟨eR,1,5,157,((iM (lZ g.aB) g.rules j).map aF.d).set j (.agg [.str x.cat,.int .i64 (num g.aB x.cat),.ba 347 eP 3 0 x.parts.length,.sl 2 (x.aE.map bt.d),.int .i64 x.cost])⟩/\bx 347=⟨eP,1,3,161,x.parts.map Part.d⟩/\∀s,s≠327->s<340->bx s=bx0 s) (fun _ _ h=>h) ?_ ?_
     ·rintro σ bx ⟨q2,q4,ve,xy,vU,eP,pH,yU,oI⟩;have hz:=nF.2;have DN:(((iM (lZ g.aB) g.rules j).map aF.d).set j (D.agg [.str x.cat,.int .i64 (num g.aB x.cat),.ba 347 eP 3 0 x.parts.length,.sl 2 (x.aE.map bt.d),.int .i64 x.cost]))[j]? =some (D.agg [.str x.cat,.int .i64 (num g.aB x.cat),.ba 347 eP 3 0 x.parts.length,.sl 2 (x.aE.map bt.d),.int .i64 x.cost]):=awN
      simp(disch:=omega) only[go_sem,q2,q4,ve,xy,vU,pH,yU,DN];have yA:num g.aB x.cat=(lZ g.aB x).no:=rfl;refine bB x.parts.length (fun i σ bx=>σ 2= .loc 2 1 0 0/\σ 4= .loc 4 1 0 0/\σ 10= .loc 327 eR j 0/\σ 95= .int .i64 g.rules.length/\σ 96= .int .i64 j/\σ 124= .int .i64 x.parts.length/\σ 125= .int .i64 i/\bx 327=⟨eR,1,5,157,((iM (lZ g.aB) g.rules j).map aF.d).set j (.agg [.str x.cat,.int .i64 (num g.aB x.cat),.ba 347 eP 3 0 x.parts.length,.sl 2 (x.aE.map bt.d),.int .i64 x.cost])⟩/\bx 347=⟨eP,1,3,161,(iM (Dn g.aB) x.parts i).map Part.d⟩/\∀s,s≠327->s<340->bx s=bx0 s) ?_ ?_ ?_
      ·simp(disch:=omega) only[go_sem,q2,q4,ve,xy,vU,pH,yU,zZ];exact oI
      ·rintro i σ bx hi ⟨q2,q4,ve,xy,vU,Ou,Ov,pH,yU,oI⟩;obtain⟨y,hy⟩:=bk hi;have au:(i:Int)<(x.parts.length:Int):=oM;have QQ:IntKind.i64.wrap ((i:Int)+1)=((i+1:Nat):Int):=aR oM;have hyg:=ur (f:=Dn g.aB) hy;have fk:=uu (f:=Dn g.aB) (d:=Part.d) hy;have xc:∀d:D,(((iM (Dn g.aB) x.parts i).map Part.d).set i d)[i]? =some d:=fun d=>ajI awN;have b4':=(oI 4 oM oM).trans b4;have amz:=(oI 29 oM oM).trans BA;simp(disch:=omega) only[go_sem,q2,q4,ve,xy,vU,Ou,Ov,au,pH,yU,DN,hyg,kM,Part.d,xc,QQ];refine aW (fun c1=>?_) (fun c1=>?_)
       ·simp(disch:=omega) only[go_sem,q2,q4,ve,xy,vU,Ou,Ov,au,pH,yU,DN,hyg,kM,Part.d,xc,QQ,b4',amz,GK,ak9];refine⟨by grind [Dn,Part.d],fun s h1 h2=>?_⟩
        exact awN
       ·simp(disch:=omega) only[go_sem,q2,q4,ve,xy,vU,Ou,Ov,au,pH,yU,DN,hyg,kM,Part.d,xc,QQ];refine⟨by grind [Dn,Part.d],fun s h1 h2=>?_⟩
        exact awN
      ·rintro σ bx ⟨q2,q4,ve,xy,vU,Ou,Ov,pH,yU,oI⟩;have au:¬(x.parts.length:Int)<(x.parts.length:Int):=oM;simp(disch:=omega) only[go_sem,q2,q4,ve,xy,vU,Ou,Ov,au,vQ];rw[uq]at yU;refine⟨fun s h1 h2=>(oI s h1 h2).trans ((mQ s h1 oM).trans (sE s h1 h2)),fun _=>⟨_,pH,?_,fun t ht=>?_⟩⟩
       ·rw[<-uu hx];refine I3 ?_ _ _ _ (oV bx _).1;have:=ja eP 1 3 161 x.parts.length ((x.parts.map (Dn g.aB)).map Part.d) awL sI (Db _);simp only[Fk,dh,iw,jQ,yU,this];simp[go_sem,aF.d,lZ]
       ·rcases C0 _ _ ht with h|h
        ·rw[(oV bx _).2]at h;exact awv
        grind [names,bY]
     ·refine gU (.aD 0 (.aD 1 (.load 2 4 (.aD 3 (.aD 4 (.aD 5 (.load 6 327 (.aD 8 (.aD 9 (.aD 10 (.load 11 327 (.both 7 [327] (.both 12 [4,327] (.aD 13 (.aD 14 (.both 15 [] (.aD 16 (.aD 17 (.both 18 [] .fin .stop))) .stop))) .stop) (.both 12 [4,327] (.both 7 [327] (.aD 13 (.aD 14 (.both 15 [] (.aD 16 (.aD 17 (.both 18 [] .fin .stop))) .stop))) .stop) .stop))))))))))))) ar ?_;simp(disch:=omega) only[go_sem,q2,q4,xy,vU,b4,BA,pH,eC,kM,GK,aF.d];have xc:∀d:D,(((iM (lZ g.aB) g.rules j).map aF.d).set j d)[j]? =some d:=fun d=>ajI awN;refine⟨?_,?_⟩
      ·refine ao (EU 340 x.parts oM bx0) rfl ?_;rintro dP B6 ⟨hP,kP⟩;obtain⟨eP,rfl,yU⟩:=gx.own ⟨hP,kP⟩ GR;rw[aa0];have Uu:=(kP 327 oM).trans pH;have c4:=kP 4 oM;simp(disch:=omega) only[go_sem,Uu,c4,q2,q4,xy,vU,eC,kM,aF.d,xc,ak9]
       exact awN
      ·refine ao (EU 340 x.parts oM bx0) rfl ?_;rintro dP B6 ⟨hP,kP⟩;obtain⟨eP,rfl,yU⟩:=gx.own ⟨hP,kP⟩ GR;rw[aa0];have Uu:=(kP 327 oM).trans pH;have c4:=kP 4 oM;have Uv:=(kP 29 oM).trans BA;simp(disch:=omega) only[go_sem,Uu,c4,Uv,q2,q4,xy,vU,eC,kM,aF.d,xc,ak9,pH,GK]
       exact awN
    ·rintro σ bx ⟨q2,q4,xy,vU,sE,hh⟩;have au:¬(g.rules.length:Int)<(g.rules.length:Int):=oM;obtain⟨bx0,hm,E7,rR,Vl,Vm⟩:∃bx0,(bx0=bx\/∃l,(bx 327).k=1/\cE bx (bx 327).es=some l/\bx0=Go.V.dO bx 327 l)/\(∀s,s≠327->s<340->bx0 s=B5 s)/\∃r,aU bx0 dR=some r/\bA r (.sl 5 ((g.rules.map (lZ g.aB)).map aF.d)):=by
      by_cases he:g.rules=[]
      ·refine⟨bx,.inl rfl,sE,?_⟩;rw[he]at hR⊢;have ho:=(gx.none (bx:=B2) ⟨hR,kR⟩).of (bx':=bx) fun t ht=>awN
       exact ho.out awq
      ·obtain⟨bx0,hm,pH,mQ⟩:=(hh he).dO;rw[uq]at pH hm;refine⟨bx0,.inr ⟨_,hm⟩,fun s h1 h2=>(mQ s h1 oM).trans (sE s h1 h2),?_⟩;rw[(BF he).1,jQ,pH];exact⟨_,ja _ _ _ _ _ _ awL sI (Fs _),.refl _⟩
     refine⟨bx0,?_,?_⟩
     ·rcases hm with rfl|⟨l,h1,h2,h3⟩
      ·exact .inl rfl
      ·exact .inr ⟨rfl,327,l,h1,h2,h3⟩
     have b2:=(E7 2 oM oM).trans ((hk 2 oM).trans g2);obtain⟨rE,Em,QG⟩:∃r,aU bx0 dE=some r/\bA r (.sl 5 ((g.entries.map (vE g.aB)).map Entry.d)):=by
      by_cases he:g.entries=[]
      ·rw[he]at hE⊢;have ho:=(gx.none (bx:=B1) ⟨hE,kE⟩).of (bx':=bx0) fun t ht=>awN
       exact ho.out awq
      ·have b7:=(E7 307 oM oM).trans (SN he);rw[(zm he).1,jQ,b7];exact⟨_,ja _ _ _ _ _ _ awL sI (Fq _),.refl _⟩
     simp(disch:=omega) only[go_sem,q2,q4,xy,vU,au,b2,f1,f2,f3,f4,f5,f6];have hu:ah bx0 2 ⟨1,1,6,78,[.agg [.str g.name,.sl 1 (g.aB.map D.str),.str g.start,.int .i64 (num g.aB g.start),dE,dR]]⟩=bx0:=by grind [aY,al]
     rw[hu];refine⟨.aL [.agg [.str g.name,.sl 1 (g.aB.map D.str),.str g.start,.int .i64 (num g.aB g.start),rE,rR],.int .i64 0],?_,vq (vp (.refl _) (.refl _) (.refl _) (.refl _) QG Vm) (.refl _)⟩;simp only[ZJ,Fk,dh,iw,Em,Vl];exact sG
def K6(g:aA)(hg:ov g):av prog 109 [g.d] (yK (bF g)):=
 (dY mixed (W1 g hg) rfl ar rfl).to (fun _ _ h=>h) (fun d' bx' ⟨r,h1,h2⟩=>⟨r,h1,h2⟩)
def nR{α:Type}(p:α->α->Bool)(l m:List α):Bool:=decide (l.length=m.length)&&(l.zip m).all fun q=>p q.1 q.2
def xF{α:Type}{l m:List α}{k:Nat}{x y:α}(hx:l[k]? =some x)(hy:m[k]? =some y):(l.zip m).take (k+1)=(l.zip m).take k++[(x,y)]:=by simp_all[agP,ae2]
def MM{f:FuncId}{p:Entry->Entry->Bool}(l m:List Entry)(hl:l.length<=140737488355328)(hf:∀x∈l,∀y∈m,av prog f [x.d,y.d] (.bool (p x y))):
 av prog 96 [.sl 5 (l.map Entry.d),.sl 5 (m.map Entry.d),.fn (.func f) []] (.bool (nR p l m)):=by
 refine fF f96 [] [.tmp 6] ?_;simp(disch:=omega) only[go_sem];refine aW (fun h1=>?_) (fun h1=>?_)
 rotate_left
 ·exact aq (aaR D.bool (by grind [nR]))
 have h1:l.length=m.length:=oM;simp(disch:=omega) only[go_sem];refine bB l.length (fun k σ bx=>σ 1= .sl 5 (m.map Entry.d)/\σ 2= .fn (.func f) []/\σ 15= .sl 5 (l.map Entry.d)/\σ 16= .int .i64 l.length/\σ 17= .int .i64 k/\((l.zip m).take k).all (fun q=>p q.1 q.2)=true) ?_ ?_ ?_
 ·exact avB
 ·rintro k σ bx hk ⟨q1,q2,Hq,Hr,Hs,hn⟩;obtain⟨x,hx⟩:=bk hk;obtain⟨y,hy⟩:=bk (show k<m.length by omega);have au:(k:Int)<(l.length:Int):=oM;have sH:(k:Int)<(m.length:Int):=oM;have nx:IntKind.i64.wrap ((k:Int)+1)=((k+1:Nat):Int):=aR oM;simp(disch:=omega) only[go_sem,q1,q2,Hq,Hr,Hs,au,sH,hx,hy,Entry.d,strs];refine aI (hf x (aat hx) y (aat hy)) (show D.aH [x.d,y.d]=true by simp_all[D.aH,D.pure,Entry.d]) ?_;cases hp:p x y
  ·simp(disch:=omega) only[go_sem,hp,aaV];refine aq (aaR D.bool ?_);have:((l.zip m).all fun q=>p q.1 q.2)=false:=by
    exact arx
   simp_all[nR]
  ·exact aq1
 ·exact IS
def MN{f:FuncId}{p:aF->aF->Bool}(l m:List aF)(hl:l.length<=140737488355328)(hf:∀x∈l,∀y∈m,av prog f [x.d,y.d] (.bool (p x y))):
 av prog 97 [.sl 5 (l.map aF.d),.sl 5 (m.map aF.d),.fn (.func f) []] (.bool (nR p l m)):=by
 refine fF f97 [] [.tmp 6] ?_;simp(disch:=omega) only[go_sem];refine aW (fun h1=>?_) (fun h1=>?_)
 rotate_left
 ·exact aq (aaR D.bool (by grind [nR]))
 have h1:l.length=m.length:=oM;simp(disch:=omega) only[go_sem];refine bB l.length (fun k σ bx=>σ 1= .sl 5 (m.map aF.d)/\σ 2= .fn (.func f) []/\σ 15= .sl 5 (l.map aF.d)/\σ 16= .int .i64 l.length/\σ 17= .int .i64 k/\((l.zip m).take k).all (fun q=>p q.1 q.2)=true) ?_ ?_ ?_
 ·exact avB
 ·rintro k σ bx hk ⟨q1,q2,Hq,Hr,Hs,hn⟩;obtain⟨x,hx⟩:=bk hk;obtain⟨y,hy⟩:=bk (show k<m.length by omega);have au:(k:Int)<(l.length:Int):=oM;have sH:(k:Int)<(m.length:Int):=oM;have nx:IntKind.i64.wrap ((k:Int)+1)=((k+1:Nat):Int):=aR oM;simp(disch:=omega) only[go_sem,q1,q2,Hq,Hr,Hs,au,sH,hx,hy,aF.d,strs];refine aI (hf x (aat hx) y (aat hy)) (show D.aH [x.d,y.d]=true by simp_all[D.aH,D.pure,aF.d]) ?_;cases hp:p x y
  ·simp(disch:=omega) only[go_sem,hp,aaV];refine aq (aaR D.bool ?_);have:((l.zip m).all fun q=>p q.1 q.2)=false:=by
    exact arx
   simp_all[nR]
  ·exact aq1
 ·exact IS
def ad3(x y:Entry):av prog 179 [x.d,y.d] (.bool (decide (x.no=y.no))):=by
 refine fF f179 [] [.tmp 4] ?_;simp(disch:=omega) only[go_sem,Entry.d,strs];exact .refl _
def ad4(x y:aF)(hx:x.parts.length<=140737488355328)(hy:y.parts.length<=140737488355328):av prog 180 [x.d,y.d] (.bool (decide (x.no=y.no)&&decide (x.parts=y.parts))):=by
 refine fF f180 [] [.tmp 4] ?_;simp(disch:=omega) only[go_sem,aF.d];refine aW (fun h1=>?_) (fun h1=>?_)
 rotate_left
 ·simp(disch:=omega) only[go_sem,h1,adX]
  grind [aq]
 simp(disch:=omega) only[go_sem,h1,abq];refine aI (MO x.parts y.parts hx hy) (by simp[go_sem,Db]) ?_;simp(disch:=omega) only[go_sem,h1,abq]
 grind [aq]
def jm(g:aA):Int:=
 if(bF g).2≠0 then(bF g).2
 else if decide ((bF g).1.no=g.no)&&(nR (fun x y=>decide (x.no=y.no)) (bF g).1.entries g.entries&&nR (fun x y=>decide (x.no=y.no)&&decide (x.parts=y.parts)) (bF g).1.rules g.rules)then 0 else 260
def ni{g:aA}(h:(bF g).2=0):(bF g).1=gh g:=by
 unfold bF at h⊢
 exact awN
def abI(g:aA)(hg:ov g):av prog 136 [g.d] (.int .i64 (jm g)):=by
 refine fF f136 [] [.tmp 2] ?_;have fO:=hg.EY;have xW:=hg.Dh;simp(disch:=omega) only[go_sem,aA.d,strs];refine aI (K6 g hg) (show D.aH [g.d]=true by simp[D.aH,rL]) ?_;simp(disch:=omega) only[go_sem,yK,aA.d,strs];refine aW (fun h1=>?_) (fun h1=>?_)
 rotate_left
 ·simp(disch:=omega) only[go_sem,h1,adX,aaV];simp_all[aq,jm]
 have hr:=ni h1;have GD:jm g=if decide ((gh g).no=g.no)&&(nR (fun x y=>decide (x.no=y.no)) (gh g).entries g.entries&&nR (fun x y=>decide (x.no=y.no)&&decide (x.parts=y.parts)) (gh g).rules g.rules)then 0 else 260:=by simp_all[jm]
 rw[GD];clear GD;simp(disch:=omega) only[go_sem,h1,hr,abq,aaX];have kd:(gh g).entries.length<=140737488355328:=by simp[gh,fO]
 have hsr:(gh g).rules.length<=140737488355328:=by simp[gh,xW]
 refine aI (MM (gh g).entries g.entries kd (fun x _ y _=>ad3 x y)) (by simp[go_sem,Fq]) ?_;simp(disch:=omega) only[go_sem,hr,aA.d,strs];refine aI (MN (gh g).rules g.rules hsr (fun x hx y hy=>ad4 x y ?_ (hg.rules y hy).Fo)) (by simp[go_sem,Fs]) ?_
 ·obtain⟨z,hz,rfl⟩:=aa1.1 hx;have:=(hg.rules z hz).Fo;simpa[lZ]using this
 simp(disch:=omega) only[go_sem,hr,aA.d,strs];refine aW (fun h2=>?_) (fun h2=>?_)
 rotate_left
 ·simp(disch:=omega) only[go_sem,h2,adX,aaV]
  grind [aq]
 cases h3:nR (fun x y=>decide (x.no=y.no)) (gh g).entries g.entries
 ·simp(disch:=omega) only[go_sem,h2,h3,abq,aaX,aaV]
  grind [aq]
 cases h4:nR (fun x y=>decide (x.no=y.no)&&decide (x.parts=y.parts)) (gh g).rules g.rules
 ·simp(disch:=omega) only[go_sem,h2,h3,h4,abq,aaX,aaV]
  grind [aq]
 ·simp(disch:=omega) only[go_sem,h2,h3,h4,abq,aaX,aaV]
  grind [aq]
def wI{α:Type}{l m:List α}{k:Nat}{x y:α}(hx:l[k]? =some x)(hy:m[k]? =some y)(h:¬x=y):¬l=m:=av6
def yp(x:Entry):Bool:=decide (x.aE.length<=10)
def wQ(x:aF):Bool:=decide (x.parts.length<=10)&&decide (x.aE.length<=20)
def Jp(g:aA):Prop:=40<g.aB.length\/(40<g.entries.length/\g.entries.length<=512)\/600<g.entries.length\/(20<g.rules.length/\g.rules.length<=128)\/200<g.rules.length
instance(g:aA):Decidable (Jp g):=by unfold Jp;infer_instance
def sq(g:aA):Bool:= !decide (Jp g)&&(g.entries.all yp&&g.rules.all wQ)
def ah7(g:aA):fnD prog (dD prog) [] f38 [g.d] (.bool (sq g)):=by
 refine E3 _ [.tmp 2] _ rfl rfl rfl ar ?_;have rz:g.d= .agg [.str g.name,strs g.aB,.str g.start,.int .i64 g.no,.sl 5 (g.entries.map Entry.d),.sl 5 (g.rules.map aF.d)]:=rfl;rw[rz];by_cases E6:Jp g
 ·have hf:sq g=false:=by grind [sq]
  rw[hf];unfold Jp at E6;repeat' first|with_reducible apply zJ<;>intro _|simp(disch:=omega) only[go_sem, *,strs]
  all_goals first
   |exact .refl _
   |(exfalso;omega)
 ·have hf:sq g=(g.entries.all yp&&g.rules.all wQ):=by grind [sq]
  rw[hf];unfold Jp at E6;repeat' first|with_reducible apply zJ<;>intro _|simp(disch:=omega) only[go_sem, *,strs]
  all_goals first
   |grind
   |skip
  all_goals
   refine bB g.entries.length (fun k σ bx=>σ 1= .loc 1 1 0 0/\σ 3= .int .i64 k/\bx 1=⟨1,1,6,78,[.agg [.str g.name,.sl 1 (g.aB.map D.str),.str g.start,.int .i64 g.no,.sl 5 (g.entries.map Entry.d),.sl 5 (g.rules.map aF.d)]]⟩/\(g.entries.take k).all yp=true) ?_ ?_ ?_
   ·exact auH
   ·rintro k σ bx hk ⟨h1,h3,b1,hn⟩;obtain⟨x,hx⟩:=bk hk;have au:(k:Int)<(g.entries.length:Int):=oM;have iI:x.d= .agg [.str x.text,.str x.cat,.int .i64 x.no,.sl 1 (x.aE.map D.str),.int .i64 x.cost]:=rfl;simp(disch:=omega) only[go_sem,h1,h3,b1,au,hx,iI];refine aW (fun hv=>?_) (fun hv=>?_)
    ·simp(disch:=omega) only[go_sem,h1,h3,b1];rw[L8 yp hx (by simp[yp];omega)];exact .refl _
    ·simp(disch:=omega) only[go_sem,h1,h3,b1];rw[aR oM];exact⟨rfl,xB yp hx hn (by simp[yp];omega)⟩
   ·rintro σ bx ⟨h1,h3,b1,hn⟩;have au:¬(g.entries.length:Int)<(g.entries.length:Int):=oM;rw[aaP]at hn;rw[hn,akW];simp(disch:=omega) only[go_sem,h1,h3,b1,au];refine bB g.rules.length (fun k σ bx=>σ 1= .loc 1 1 0 0/\σ 4= .int .i64 k/\bx 1=⟨1,1,6,78,[.agg [.str g.name,.sl 1 (g.aB.map D.str),.str g.start,.int .i64 g.no,.sl 5 (g.entries.map Entry.d),.sl 5 (g.rules.map aF.d)]]⟩/\(g.rules.take k).all wQ=true) ?_ ?_ ?_
    ·simp[go_sem,aM,ah,Bx.none,h1,b1]
    ·rintro k σ bx hk ⟨h1,h3,b1,hn⟩;obtain⟨x,hx⟩:=bk hk;have au:(k:Int)<(g.rules.length:Int):=oM;have iI:x.d= .agg [.str x.cat,.int .i64 x.no,.sl 3 (x.parts.map Part.d),.sl 2 (x.aE.map bt.d),.int .i64 x.cost]:=rfl;repeat' first|with_reducible apply zJ<;>intro _|simp(disch:=omega) only[go_sem, *,h1,h3,b1,au,hx,iI]
     all_goals first
      |(rw[L8 wQ hx (by simp only[wQ,akB,afa];omega)];exact .refl _)
      |(rw[aR oM];exact⟨rfl,xB wQ hx hn (by simp only[wQ,aas,aaH];omega)⟩)
    ·rintro σ bx ⟨h1,h3,b1,hn⟩;have au:¬(g.rules.length:Int)<(g.rules.length:Int):=oM;rw[aaP]at hn;rw[hn];simp(disch:=omega) only[go_sem,h1,h3,b1,au];exact .refl _
def ah6(g:aA)(h:Sz g)(hn:g.name.length<=140737488355328)(hs:g.start.length<=140737488355328):av prog 38 [g.d] (.bool (sq g)):=E2 mixed (ah7 g) rfl ar rfl
end Go.V.Ty
namespace Go.V.Ty
open Go.Proofs Go.RowKit Go.V.Lx Go.V.Gr
def i1:((1:Nat):Int)=1:=rfl
def i2:((2:Nat):Int)=2:=rfl
def i3:((3:Nat):Int)=3:=rfl
end Go.V.Ty
