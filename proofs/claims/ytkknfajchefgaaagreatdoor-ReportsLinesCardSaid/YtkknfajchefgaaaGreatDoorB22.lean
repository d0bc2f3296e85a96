/- Lemmas on plain data and programs: part B22. -/
import Derived.Test.YtkknfajchefgaaaGreatDoorB12
import Derived.Lib.AtoiAllCases
set_option linter.all false
set_option maxHeartbeats 8000000
set_option maxRecDepth 100000
namespace Go.V.Lx
open Go.Proofs Go.Proofs.Tryz Go.RowKit
theorem Ds{α:Type}(P:α->Bool):∀(l:List α) (m:Nat),(l.take m).all P=true->(∀x,l[m]? =some x->P x=false)->l.takeWhile P=l.take m
 |[],m,_,_=>sI
 |x::l,0,_,h2=>awy
 |x::l,m+1,h1,h2=>by
  simp only[afv,aep,aas]at h1;rw[aeB,aaO h1.1,afv,Ds P l m h1.2 (fun y hy=>h2 y awN)]
def gC(p:List Int)(s:List UInt8)(i:Nat):List UInt8:=(s.drop i).takeWhile fun c=>p.contains (cls c)
def TL(s:List UInt8)(i:Nat)(y:D)(p:List Int)(hs:s.length<=140737488355328)(hi:i<=s.length)(hp:p.length<=100):av prog 269 [.bR (eT s i y) 0,.sl 1 (p.map (D.int .i64))] (.str (gC p s i)):=by
 refine fF f269 [] [.tmp 4] ?_;simp(disch:=omega) only[go_sem,eT];refine pc (fun σ bx=>∃k:Nat,i<=k/\k<=s.length/\σ 0= .bR (eT s i y) 0/\σ 1= .sl 1 (p.map (D.int .i64))/\σ 5= .int .i64 k/\((s.drop i).take (k - i)).all (fun c=>p.contains (cls c))=true) (fun σ _=>s.length - afC (σ 5))
  ⟨i,aaN _,hi,by simp[go_sem,aM,eT],avB,sG,sI⟩ ?_
 rintro σ bx ⟨k,Eu,hk,h0,h1,h5,hb⟩;have fin:(∀x,s[k]? =some x->p.contains (cls x)=false)->bA (D.str ((s.drop i).take (k - i))) (.str (gC p s i)):=fun h=>aq (by
  grind [gC,Ds])
 by_cases au:k<s.length
 ·obtain⟨x,hx⟩:=bk au;have qe:(k:Int)<(s.length:Int):=oM;repeat' first|with_reducible apply zJ<;>intro _|with_reducible refine pX (yX x) sG ?_|with_reducible refine pX (contains_c p (cls x) oM) sG ?_|simp(disch:=omega) only[go_sem, *,eT,qe]
  ·rename_i hc;rw[aR oM];refine⟨⟨k+1,oM,oM,rfl,?_⟩,by simp only[afC];omega⟩;rw[show k+1 - i=(k - i)+1 by omega]
   grind [xB]
  exact awN
 ·have qe:¬(k:Int)<(s.length:Int):=oM;repeat' first|with_reducible apply zJ<;>intro _|simp(disch:=omega) only[go_sem, *,eT,qe]
  exact awN
end Go.V.Lx
namespace Go.V.Lx
open Go.Proofs Go.Proofs.Tryz Go.RowKit
def wv:List Nat:=[76,96,126]
def Scan(bx:ab)(e:Nat)(s:List UInt8)(i:Int)(xs:List Tok):Prop:=∃l,bx 15=⟨e,1,3,336,[eT s i l]⟩/\aP bx wv 212 4 l (xs.map Tok.d)
def Kept(bx bx':ab):Prop:=∀q,q<39->q≠15->bx' q=bx q
theorem Kept.refl(bx:ab):Kept bx bx:=fun _ _ _=>rfl
theorem Kept.trans{a b c:ab}(h:Kept a b)(k:Kept b c):Kept a c:=fun q h1 h2=>(k q h1 h2).trans (h q h1 h2)
set_option maxRecDepth 20000 in
def R3(base e:Nat)(xQ:base=50\/base=70\/base=100)(s t:List UInt8)(i:Nat)(xs:List Tok)(x:Tok)(bx:ab)(hs:s.length<=65536)(ht:t.length<=65536)(hxt:x.t.length<=65536)(hi:i<=s.length)(iS:xs.length<=65536)(hb:Scan bx e s i xs):
 az prog 270 base [.loc 15 e 0 0,.str t,x.d] bx
  (fun d bx'=>cg x=true/\d= .aL []/\Scan bx' e s (i+t.length) (xs++[{x with a:=i}])/\Kept bx bx')
  (fun d bx'=>cg x=false/\d= .bK 329 (.int .i64 i)/\Kept bx bx'):=by
 refine fB 38 base f270 [(4,[(6,4)])] [] ?_;obtain⟨l,hb,hv⟩:=hb;obtain⟨v1,v2,v3⟩:=hv.facts;have n1:(15:Nat)≠base+5:=oM;have n2:(15:Nat)≠base+26:=oM;have iI:x.d= .agg [.int .i64 x.k,.str x.t,.int .i64 x.n,.int .i64 x.a]:=rfl;have V3:=RO x oM;rw[iI]at V3⊢;simp(disch:=omega) only[go_sem,hb,eT,v1,v2,v3,n1];refine aI V3 sG ?_;simp(disch:=omega) only[go_sem,hb,eT,v1,v2,v3,n1];refine aO (fun kY=>?_) (fun kY=>?_)
 ·simp(disch:=omega) only[go_sem,hb,eT,v1,v2,v3,n1];refine il (hv.of fun q hq=>?_) sI sG awe oM oM (fun q hq=>?_) (fun e' bx' g1 g2=>?_)
  ·exact avY
  ·exact awN
  ·have g4:bx' 15=⟨e,1,3,336,[eT s i l]⟩:=avY
   simp(disch:=omega) only[go_sem,g4,eT,v1,v2,v3,n1];rw[wrap_i64 (n:=(i:Int)+_) oM oM];have e1:List.map Tok.d xs++[D.agg [.int .i64 x.k,.str x.t,.int .i64 x.n,.int .i64 i]]=List.map Tok.d (xs++[{x with a:=i}]):=by simp[Tok.d]
   refine⟨kY,⟨_,by simp only[aY];rfl,.inr ⟨base+26,e',by simp[wv];omega,?_,?_⟩⟩,fun q h1 h2=>?_⟩
   ·rw[e1]
   ·exact awh
   grind [wv,al]
 ·simp(disch:=omega) only[go_sem,hb,eT,v1,v2,v3,n1];exact⟨kY,fun q h1 h2=>awh⟩
end Go.V.Lx
namespace Go.V.Lx
open Go.Proofs Go.Proofs.Tryz Go.RowKit
abbrev Step:=Option (Nat×List Tok)
def ew(x:Tok)(i n:Nat):Step:=if cg x then some (i+n,[{x with a:=i}])else none
def qW(s:List UInt8)(i:Nat):Step:=ew ⟨1,gC [2,3,5] s i,0,0⟩ i (gC [2,3,5] s i).length
def mS(s:List UInt8)(i:Nat):Step:=some (i+(gC [1] s i).length,[])
def py(s:List UInt8)(i:Nat):Step:=match Lib.atoiAll (gC [3] s i)with
 | .ok v=>if Lib.itoa v=gC [3] s i then ew ⟨2,[],v,0⟩ i (gC [3] s i).length else none
 |_=>none
def jb(s:List UInt8)(i:Nat):Step:=
 if Lib.hasPrefix (s.drop i) [47,47]then some (if 0<=Lib.indexByte (s.drop i) 10 then i+(Lib.indexByte (s.drop i) 10).toNat else s.length,[])
 else ew ⟨3,(s.drop i).take 1,0,0⟩ i 1
def tG(e:Nat)(s:List UInt8)(xs:List Tok)(bx:ab)(r:Step):D->ab->Prop:=fun d bx'=>∃k l,r=some (k,l)/\d= .aL []/\Scan bx' e s k (xs++l)/\Kept bx bx'
def yR(i:Nat)(bx:ab)(r:Step):D->ab->Prop:=fun d bx'=>r=none/\d= .bK 329 (.int .i64 i)/\Kept bx bx'
def wF(p:List Int)(s:List UInt8)(i:Nat)(h:i<=s.length):i+(gC p s i).length<=s.length:=by grind [gC,List.takeWhile_prefix]
variable {e:Nat} {s:List UInt8} {i:Nat} {xs:List Tok} {bx:ab}
def FB{l:D}(hb:bx 15=⟨e,1,3,336,[eT s i l]⟩):∃y,aU bx (.loc 15 e 0 0)=some (.bR (eT s i y) 0):=by
 rw[ZH,hb,WC];simp only[aet,Tr];split
 ·exact awN
 ·exact⟨l.tf,by simp[eT,go_sem]⟩
def Ed(hb:Scan bx e s i xs):az prog 227 39 [.loc 15 e 0 0] bx (tG e s xs bx none) (yR i bx none):=by
 refine fB 7 39 f227 [] [] ?_;obtain⟨l,hb,hv⟩:=hb;simp(disch:=omega) only[go_sem,hb,eT];exact⟨rfl,rfl,.refl _⟩
def ac3(hs:s.length<=65536)(hi:i<=s.length)(hb:Scan bx e s i xs):az prog 228 39 [.loc 15 e 0 0] bx (tG e s xs bx (mS s i)) (yR i bx (mS s i)):=by
 refine fB 13 39 f228 [(0,[(8,6),(8,5)])] [] ?_;obtain⟨l,hb,hv⟩:=hb;obtain⟨v1,v2,v3⟩:=hv.facts;obtain⟨y,hy⟩:=FB hb;have hr:=wF [1] s i hi;simp(disch:=omega) only[go_sem,hb,eT,v1,v2,v3];refine lx (TL s i y [1] oM hi sI) avg rfl ?_;simp(disch:=omega) only[go_sem,hb,eT,v1,v2,v3];rw[wrap_i64 (n:=(i:Int)+_) oM oM];refine⟨_,_,rfl,rfl,⟨l,?_,?_⟩,fun q h1 h2=>?_⟩
 ·simp[ah,eT]
 ·rw[aez];exact hv.of fun q hq=>avY
 ·simp[ah,h2]
def acw(hs:s.length<=65536)(iS:xs.length<=65536)(hi:i<=s.length)(hb:Scan bx e s i xs):az prog 229 39 [.loc 15 e 0 0] bx (tG e s xs bx (qW s i)) (yR i bx (qW s i)):=by
 refine fB 11 39 f229 [] [] ?_;have mD:=hb;obtain⟨l,hb,hv⟩:=hb;obtain⟨y,hy⟩:=FB hb;have hr:=wF [2,3,5] s i hi;simp(disch:=omega) only[go_sem,hb,eT];refine lx (TL s i y [2,3,5] oM hi sI) avg rfl ?_;generalize bZ:gC [2,3,5] s i=t at hr⊢;simp(disch:=omega) only[go_sem,hb,eT];refine bj (R3 50 e (.inl rfl) s t i xs ⟨1,t,0,0⟩ bx hs oM awN hi iS mD) rfl (fun d bx' hp=>?_) (fun d bx' hp=>?_)
 ·obtain⟨h1,rfl,h2,h3⟩:=hp;simp(disch:=omega) only[go_sem];exact⟨i+t.length,[⟨1,t,0,i⟩],by simp_all[qW,ew],rfl,awN,h3⟩
 ·obtain⟨h1,rfl,h3⟩:=hp;simp(disch:=omega) only[go_sem];exact⟨by grind [qW,ew],rfl,h3⟩
def afX(hs:s.length<=65536)(iS:xs.length<=65536)(hi:i<=s.length)(hb:Scan bx e s i xs):az prog 230 39 [.loc 15 e 0 0] bx (tG e s xs bx (py s i)) (yR i bx (py s i)):=by
 refine fB 31 39 f230 [] [] ?_;have mD:=hb;obtain⟨l,hb,hv⟩:=hb;obtain⟨y,hy⟩:=FB hb;have hr:=wF [3] s i hi;simp(disch:=omega) only[go_sem,hb,eT];refine lx (TL s i y [3] oM hi sI) avg rfl ?_;have yA:py s i=match Lib.atoiAll (gC [3] s i)with
  | .ok v=>if Lib.itoa v=gC [3] s i then ew ⟨2,[],v,0⟩ i (gC [3] s i).length else none
  |_=>none:=rfl
 generalize gC [3] s i=t at hr yA⊢;have iu:=atoi_c t oM;unfold atoiD at iu;simp(disch:=omega) only[go_sem,hb,eT];cases GC:Lib.atoiAll t with
 |ok v=>
  rw[GC]at iu yA;simp only at iu yA;have iH: -9223372036854775808<=v/\v<=9223372036854775807:=Lib.atoiAll_bounds GC;refine aI iu sG ?_;simp(disch:=omega) only[go_sem,hb,eT,sQ];refine aI (itoa_c v iH.1 iH.2) sG ?_;simp(disch:=omega) only[go_sem,hb,eT];refine aW (fun h1=>?_) (fun h1=>?_)
  ·simp(disch:=omega) only[go_sem,hb,eT];rw[aaO h1]at yA;refine bj (R3 70 e (.inr (.inl rfl)) s t i xs ⟨2,[],v,0⟩ bx hs oM sI hi iS mD) rfl (fun d bx' hp=>?_) (fun d bx' hp=>?_)
   ·obtain⟨h1,rfl,h2,h3⟩:=hp;simp(disch:=omega) only[go_sem];exact⟨i+t.length,[⟨2,[],v,i⟩],by simp_all[ew],rfl,awN,h3⟩
   ·exact aqN
  ·simp(disch:=omega) only[go_sem,hb,eT];rw[aaw h1]at yA;exact⟨yA,rfl,.refl _⟩
 |_=>
  rw[GC]at iu yA;simp only at iu yA;refine aI iu sG ?_;simp(disch:=omega) only[go_sem,hb,eT,sQ];exact⟨yA,rfl,.refl _⟩
def CI(l:List UInt8)(c:UInt8):Lib.indexByte l c<=l.length:=by induction l<;>grind [Lib.indexByte]
def ac1(hs:s.length<=65536)(iS:xs.length<=65536)(hi:i<s.length)(hb:Scan bx e s i xs):az prog 231 39 [.loc 15 e 0 0] bx (tG e s xs bx (jb s i)) (yR i bx (jb s i)):=by
 refine fB 61 39 f231 [] [] ?_;have mD:=hb;obtain⟨l,hb,hv⟩:=hb;obtain⟨v1,v2,v3⟩:=hv.facts;have ix:=Lib.indexByte_ge (s.drop i) 10;have ix2:Lib.indexByte (s.drop i) 10<=(s.drop i).length:=CI _ _;rw[akh]at ix2;have nd:∀(v:D) (j:Nat),jb s i=some (j,[])->v=eT s j l->tG e s xs bx (jb s i) (.aL []) (ah bx 15 ⟨e,1,3,336,[v]⟩):=by
  intro v j h1 h2;refine⟨j,[],h1,rfl,⟨l,by simp[ah,h2],?_⟩,fun q h1 h2=>by simp[ah,h2]⟩;rw[aez];refine hv.of fun q hq=>?_
  exact avY
 simp(disch:=omega) only[go_sem,hb,eT];have e0:(s.drop i).take (s.length - i)=s.drop i:=aeu sI;rw[e0];refine aI (hasPrefix_c (s.drop i) [47,47]) sG ?_;simp(disch:=omega) only[go_sem,hb,eT];refine aO (fun hp=>?_) (fun hp=>?_)
 ·have NA:jb s i=some (if 0<=Lib.indexByte (s.drop i) 10 then i+(Lib.indexByte (s.drop i) 10).toNat else s.length,[]):=by simp_all[jb]
  simp(disch:=omega) only[go_sem,hb,eT,e0];refine aI (indexByte_c (s.drop i) 10) sG ?_;simp(disch:=omega) only[go_sem,hb,eT];refine aW (fun h1=>?_) (fun h1=>?_)
  ·rw[aaO h1]at NA;simp(disch:=omega) only[go_sem,hb,eT,v1,v2,v3]
   grind [wrap_i64,eT]
  ·rw[aaw h1]at NA;simp(disch:=omega) only[go_sem,hb,eT,v1,v2,v3];exact nd _ _ NA rfl
 ·simp(disch:=omega) only[go_sem,hb,eT,v1,v2,v3];rw[wrap_i64 (n:=(i:Int)+1) oM oM];have e1:((i:Int)+1).toNat=i+1:=oM;have e2:i+1 - i=1:=oM;have NA:jb s i=ew ⟨3,(s.drop i).take 1,0,0⟩ i 1:=by simp_all[jb]
  have qw:((s.drop i).take 1).length=1:=awN
  simp(disch:=omega) only[go_sem,hb,eT,v1,v2,v3,e1,e2];generalize(s.drop i).take 1=t at NA qw⊢;refine bj (R3 100 e (.inr (.inr rfl)) s t i xs ⟨3,t,0,0⟩ bx hs oM awN oM iS mD) rfl (fun d bx' hp=>?_) (fun d bx' hp=>?_)
  ·obtain⟨h1,rfl,h2,h3⟩:=hp;simp(disch:=omega) only[go_sem];rw[qw]at h2;exact⟨i+1,[⟨3,t,0,i⟩],by simp_all[ew],rfl,awN,h3⟩
  ·exact aqN
end Go.V.Lx
namespace Go.V.Lx
open Go.Proofs Go.Proofs.Tryz Go.RowKit
@[go_sem] def IG(len esz size:Nat)(g ag:Bool)(z:List D)(t e i j:Nat)(n:Int)(h:0<=n)(h':n<len)(h1:1<len)(h2:0<esz):fT ⟨.arr len esz g,size,ag,z⟩ (.loc t e i j) n=some (.loc t e i (j+n.toNat * esz)):=by grind [fT,kJ]
variable {e2 e3 e4:Nat} {x2 x3 x4:D} {bx:ab}
def ly(h2:bx 2=⟨e2,1,1,142,[x2]⟩)(h3:bx 3=⟨e3,1,1,3,[x3]⟩)(h4:bx 4=⟨e4,1,1,39,[x4]⟩):
 vM prog (dD prog) [] f226 39 [.loc 2 e2 0 0,.loc 3 e3 0 0,.loc 4 e4 0 0] bx .ret fun m' bx'=>m'= .ret/\bx'=bx:=by
 refine iG (t:=4) _ _ 9 rfl rfl rfl ar ar (ah (ah (aM 0 [.loc 2 e2 0 0,.loc 3 e3 0 0,.loc 4 e4 0 0]) 4 (.raw .nilIface)) 3 (.raw .nilIface)) ?_ ?_
 ·exact asn
 ·simp(disch:=omega) only[go_sem,h2,h3,h4,sQ]
def dB(i:Int)(o2:x2.one=true/\∀c,ed x2 0 [c]=some c)(o3:∀c,ed x3 0 [c]=some c)(o4:∀c,ed x4 0 [c]=some c)(h2:bx 2=⟨e2,1,1,142,[x2]⟩)(h3:bx 3=⟨e3,1,1,3,[x3]⟩)(h4:bx 4=⟨e4,1,1,39,[x4]⟩):
 vM prog (dD prog) [] f226 39 [.loc 2 e2 0 0,.loc 3 e3 0 0,.loc 4 e4 0 0] bx (.cd (.bK 329 (.int .i64 i))) fun m' bx'=>m'= .ret/\bx' 2=⟨e2,1,1,142,[.ak]⟩/\bx' 3=⟨e3,1,1,3,[.int .i64 i]⟩/\bx' 4=⟨e4,1,1,39,[.int .i64 30]⟩:=by
 refine iG (t:=4) _ _ 9 rfl rfl rfl ar ar (ah (ah (aM 0 [.loc 2 e2 0 0,.loc 3 e3 0 0,.loc 4 e4 0 0]) 4 (.bK 329 (.int .i64 i))) 3 (.bK 329 (.int .i64 i))) ?_ ?_
 ·exact asn
 ·have o2:=o2.2;simp(disch:=omega) only[go_sem,h2,h3,h4,sQ,o2,o3,o4]
def iF {f:FuncId} {fn:Func} {tab:List (Nat×List (Nat×Nat))} {base:Nat} {ds:List D} {m:RM} {Q:RM->ab->Prop} (h:vM prog (dD prog) tab fn base ds bx m Q) (hf:prog.funcs[f]? =some fn) (dJ:(fn.name== "runtime.NumGoroutine")=false) (hlen:decide (ds.length<=fn.ntmps)=true):BS prog f base ds bx m Q:=
 JX mixed hf dJ (afe hlen) (rK prog) h
def JV {f:FuncId} {fn:Func} {tab:List (Nat×List (Nat×Nat))} {base:Nat} {ds:List D} {Q Qp:D->ab->Prop} (h:El prog (dD prog) tab fn base ds bx Q Qp) (hf:prog.funcs[f]? =some fn) (dJ:(fn.name== "runtime.NumGoroutine")=false) (hlen:decide (ds.length<=fn.ntmps)=true):az prog f base ds bx Q Qp:=
 JW mixed hf dJ (afe hlen) (rK prog) h
def dj(s:List UInt8)(i:Nat)(c:UInt8):Step:=
 if cls c=1 then mS s i else if cls c=2 then qW s i else if cls c=3 then py s i else if cls c=4 then jb s i else none
def jg(s:List UInt8):Nat->Nat->List Tok->List Tok×Int×Int
 |0,i,xs=>(xs,0,0)
 |f+1,i,xs=>match s[i]? with
  |none=>(xs,0,0)
  |some c=>match dj s i c with
   |none=>([],i,30)
   |some (k,l)=>jg s f k (xs++l)
def Bd{p:List Int}{s:List UInt8}{i:Nat}{c:UInt8}(hx:s[i]? =some c)(hc:p.contains (cls c)=true):0<(gC p s i).length:=by
 have hi:=(aaL.1 hx).1;simp_all[ak3,gC]
def UH(c:UInt8):cls c=0\/cls c=1\/cls c=2\/cls c=3\/cls c=4\/cls c=5:=by grind [cls]
def FK{x:Tok}{i n k:Nat}{l:List Tok}(h:ew x i n=some (k,l)):k=i+n/\l.length=1:=by
 unfold ew at h
 exact awN
def rT{s:List UInt8}{i k:Nat}{c:UInt8}{l:List Tok}(hx:s[i]? =some c)(h:dj s i c=some (k,l)):i<k/\k<=s.length/\l.length<=1:=by
 have hi:=(aaL.1 hx).1;unfold dj at h;split at h
 ·rename_i hc;have h1:=Bd (p:=[1]) hx awF;have h2:=wF [1] s i oM;simp only[mS,aaM,akX]at h
  exact awN
 split at h
 ·rename_i _ hc;have h1:=Bd (p:=[2,3,5]) hx awF;have h2:=wF [2,3,5] s i oM;exact auI
 split at h
 ·rename_i _ _ hc;have h1:=Bd (p:=[3]) hx awF;have h2:=wF [3] s i oM;unfold py at h;split at h
  ·split at h
   ·exact auI
   ·exact awI
  ·exact awI
 split at h
 ·unfold jb at h;split at h
  ·rename_i hp;have h0:=CI (s.drop i) 10;rw[akh]at h0;have h3:Lib.indexByte (s.drop i) 10≠0:=by
    generalize s.drop i=t at hp
    match t with
    |[]=>simp[Lib.indexByte]
    |x::r=>
     have hx:x=47:=by simp_all[Lib.hasPrefix]
     subst hx;have:=Lib.indexByte_ge r 10;simp only[Lib.indexByte,show((47:UInt8)==10)=false from rfl,aew,aa_]
     exact awN
   exact awN
  ·exact auI
 ·exact awI
theorem AH(s:List UInt8):∀(f i:Nat) (xs:List Tok),s.length - i<=f->jg s f i xs=jg s (s.length - i) i xs
 |0,i,xs,h=>by rw[show s.length - i=0 by omega]
 |f+1,i,xs,h=>by
  cases hx:s[i]? with
  |none=>
   simp_all[jg]
  |some c=>
   have hi:=(aaL.1 hx).1;obtain⟨g,hg⟩:∃g,s.length - i=g+1:=⟨s.length - i - 1,oM⟩
   rw[hg];simp only[jg,hx];cases bI:dj s i c with
   |none=>rfl
   |some r=>
    obtain⟨k,l⟩:=r;obtain⟨h1,h2,_⟩:=rT hx bI;simp only;rw[AH s f k (xs++l) oM,<-AH s g k (xs++l) oM]
termination_by f=>f
theorem AJ{s:List UInt8}{i:Nat}{xs:List Tok}{c:UInt8}(hx:s[i]? =some c):jg s (s.length - i) i xs=match dj s i c with
 |none=>([],i,30)
 |some (k,l)=>jg s (s.length - k) k (xs++l):=by
 have hi:=(aaL.1 hx).1;obtain⟨g,hg⟩:∃g,s.length - i=g+1:=⟨s.length - i - 1,oM⟩
 rw[hg];simp only[jg,hx];cases bI:dj s i c with
 |none=>rfl
 |some r=>
  obtain⟨k,l⟩:=r;obtain⟨h1,h2,_⟩:=rT hx bI
  grind [AH]
def Om(bx:ab):Nat:=match(bx 15).es with
 |[.agg [_,.int _ n,_]]=>n.toNat
 |_=>0
theorem A2{bx:ab}{e:Nat}{s:List UInt8}{i:Nat}{xs:List Tok}(h:Scan bx e s i xs):Om bx=i:=by
 obtain⟨l,hb,_⟩:=h;simp[Om,hb,eT]
def jP(s:List UInt8):List Tok×Int×Int:=if 65536<s.length then([],0,2)else jg s s.length 0 []
def NY(r:List Tok×Int×Int):D:=.aL [bW r.1,.int .i64 r.2.1,.int .i64 r.2.2]
def A4:∀(xs:List Tok),D.aH (xs.map Tok.d)=true
 :=by intro a;induction a<;>simp_all[D.aH,Tok.d,D.pure]
def Re{x:D}{l:List Tok}(a b:Int)(h:bA x (bW l)):bA (.aL [x,.int .i64 a,.int .i64 b]) (NY (l,a,b)):=by
 refine .aL rfl fun i x x' hx jc=>?_;rcases i with _|_|_|i
 ·exact awN
 ·simp at hx jc;subst hx;subst jc;exact .refl _
 ·simp at hx jc;subst hx;subst jc;exact .refl _
 exact awN
theorem qV(a b:Int):bA (.aL [.ak,.int .i64 a,.int .i64 b]) (NY ([],a,b)):=Re a b (.nil _)
def aiL(s:List UInt8)(hs:s.length<=140737488355328):El prog (dD prog) [] f170 0 [.str s] (fun _=> .none) (fun d bx'=>∃r,aU bx' d=some r/\bA r (NY (jP s))) (fun _ _=>False):=by
 refine rp _ [.cell 2 142,.cell 3 3,.cell 4 39] 39 rfl rfl rfl ar ar ?_;simp(disch:=omega) only[go_sem];refine aW (fun h1=>?_) (fun h1=>?_)
 ·simp(disch:=omega) only[go_sem];have:jP s=([],0,2):=by unfold jP;grind
  simp_all[qV]
 ·simp(disch:=omega) only[go_sem,Nat.reduceMul];have ang:jP s=jg s (s.length - 0) 0 []:=by unfold jP;grind
  refine pc (fun σ bx=>∃(i:Nat) (xs:List Tok),i<=s.length/\xs.length<=i/\σ 0= .str s/\σ 2= .loc 2 1 0 0/\σ 3= .loc 3 1 0 0/\σ 4= .loc 4 1 0 0/\σ 5= .loc 5 1 0 0/\σ 6= .loc 15 1 0 0/\
   σ eI= .any [.aL [.fn (.func 226) [.loc 2 1 0 0,.loc 3 1 0 0,.loc 4 1 0 0]]]/\bx 2=⟨1,1,1,142,[.ak]⟩/\bx 3=⟨1,1,1,3,[.int .i64 0]⟩/\bx 4=⟨1,1,1,39,[.int .i64 0]⟩/\
   bx 5=⟨1,1,6,333,[.agg [.fn (.func 227) [],.fn (.func 228) [],.fn (.func 229) [],.fn (.func 230) [],.fn (.func 231) [],.fn (.func 227) []]]⟩/\Scan bx 1 s i xs/\jP s=jg s (s.length - i) i xs) (fun _ bx=>s.length - Om bx)
   ⟨0,[],aes _,aes _,?_⟩ ?_
  ·refine⟨?_,?_,?_,?_,?_,?_,?_,?_,?_,?_,?_,⟨.ak,?_,aP.nil _ _ _ _⟩,ang⟩;all_goals first
    |(simp(disch:=omega) only[go_sem,aM,ah,eT,reduceIte,Nat.reduceEqDiff];done)
    |trace_state
  rintro σ bx ⟨i,xs,hi,rF,h0,h2,h3,h4,h5,h6,hd,b2,b3,b4,b5,GU,eJ⟩;have IE:=GU;obtain⟨l,hb,hv⟩:=GU;obtain⟨v1,v2,v3⟩:=hv.facts;by_cases au:i<s.length
  ·obtain⟨c,hx⟩:=bk au;have qe:(i:Int)<(s.length:Int):=oM;rw[AJ hx]at eJ;have iR:=yX c;rcases UH c with hc|hc|hc|hc|hc|hc
   ·rw[hc]at iR;have bI:dj s i c=none:=awo
    simp(disch:=omega) only[go_sem,h0,h2,h3,h4,h5,h6,hb,eT,hx,qe];refine aI iR sG ?_;simp(disch:=omega) only[go_sem,h0,h2,h3,h4,h5,h6,hb,b5,eT,hx,Nat.reduceMul];refine bj (Ed IE) rfl (fun d bx' hp=>?_) (fun d bx' hp=>?_)
    ·obtain⟨k,l',hr,_⟩:=hp;cases hr
    ·obtain⟨_,rfl,hk⟩:=hp;simp(disch:=omega) only[go_sem,h0,h2,h3,h4,h5,h6,hd];have q2:bx' 2=_:=(hk 2 oM oM).trans b2;have q3:bx' 3=_:=(hk 3 oM oM).trans b3;have q4:bx' 4=_:=(hk 4 oM oM).trans b4;rw[bI]at eJ;refine bM _ (iF (dB (i:Int) ⟨rfl,fun c=>sG⟩ (fun c=>sG) (fun c=>sG) q2 q3 q4) rfl ar rfl) fun m' aT hq=>?_;obtain⟨rfl,g2,g3,g4⟩:=hq;simp(disch:=omega) only[go_sem,h2,h3,h4,g2,g3,g4];exact⟨_,rfl,awp⟩
   ·rw[hc]at iR;have bI:dj s i c=mS s i:=awo
    simp(disch:=omega) only[go_sem,h0,h2,h3,h4,h5,h6,hb,eT,hx,qe];refine aI iR sG ?_;simp(disch:=omega) only[go_sem,h0,h2,h3,h4,h5,h6,hb,b5,eT,hx,Nat.reduceMul];rw[bI]at eJ;refine bj (ac3 oM hi IE) rfl (fun d bx' hp=>?_) (fun d bx' hp=>?_)
    ·obtain⟨k,l',hr,rfl,dq,hk⟩:=hp;simp(disch:=omega) only[go_sem,h0,h2,h3,h4,h5,h6,hd];have Nw:=rT hx (bI.trans hr);rw[hr]at eJ;have q2:=(hk 2 oM oM).trans b2;have q3:=(hk 3 oM oM).trans b3;have q4:=(hk 4 oM oM).trans b4;have q5:=(hk 5 oM oM).trans b5
     grind [A2]
    ·obtain⟨hr,rfl,hk⟩:=hp;simp(disch:=omega) only[go_sem,h0,h2,h3,h4,h5,h6,hd];have q2:bx' 2=_:=(hk 2 oM oM).trans b2;have q3:bx' 3=_:=(hk 3 oM oM).trans b3;have q4:bx' 4=_:=(hk 4 oM oM).trans b4;rw[hr]at eJ;refine bM _ (iF (dB (i:Int) ⟨rfl,fun c=>sG⟩ (fun c=>sG) (fun c=>sG) q2 q3 q4) rfl ar rfl) fun m' aT hq=>?_;obtain⟨rfl,g2,g3,g4⟩:=hq;simp(disch:=omega) only[go_sem,h2,h3,h4,g2,g3,g4];exact⟨_,rfl,awp⟩
   ·rw[hc]at iR;have bI:dj s i c=qW s i:=awo
    simp(disch:=omega) only[go_sem,h0,h2,h3,h4,h5,h6,hb,eT,hx,qe];refine aI iR sG ?_;simp(disch:=omega) only[go_sem,h0,h2,h3,h4,h5,h6,hb,b5,eT,hx,Nat.reduceMul];rw[bI]at eJ;refine bj (acw oM oM hi IE) rfl (fun d bx' hp=>?_) (fun d bx' hp=>?_)
    ·obtain⟨k,l',hr,rfl,dq,hk⟩:=hp;simp(disch:=omega) only[go_sem,h0,h2,h3,h4,h5,h6,hd];have Nw:=rT hx (bI.trans hr);rw[hr]at eJ;have q2:=(hk 2 oM oM).trans b2;have q3:=(hk 3 oM oM).trans b3;have q4:=(hk 4 oM oM).trans b4;have q5:=(hk 5 oM oM).trans b5
     grind [A2]
    ·obtain⟨hr,rfl,hk⟩:=hp;simp(disch:=omega) only[go_sem,h0,h2,h3,h4,h5,h6,hd];have q2:bx' 2=_:=(hk 2 oM oM).trans b2;have q3:bx' 3=_:=(hk 3 oM oM).trans b3;have q4:bx' 4=_:=(hk 4 oM oM).trans b4;rw[hr]at eJ;refine bM _ (iF (dB (i:Int) ⟨rfl,fun c=>sG⟩ (fun c=>sG) (fun c=>sG) q2 q3 q4) rfl ar rfl) fun m' aT hq=>?_;obtain⟨rfl,g2,g3,g4⟩:=hq;simp(disch:=omega) only[go_sem,h2,h3,h4,g2,g3,g4];exact⟨_,rfl,awp⟩
   ·rw[hc]at iR;have bI:dj s i c=py s i:=awo
    simp(disch:=omega) only[go_sem,h0,h2,h3,h4,h5,h6,hb,eT,hx,qe];refine aI iR sG ?_;simp(disch:=omega) only[go_sem,h0,h2,h3,h4,h5,h6,hb,b5,eT,hx,Nat.reduceMul];rw[bI]at eJ;refine bj (afX oM oM hi IE) rfl (fun d bx' hp=>?_) (fun d bx' hp=>?_)
    ·obtain⟨k,l',hr,rfl,dq,hk⟩:=hp;simp(disch:=omega) only[go_sem,h0,h2,h3,h4,h5,h6,hd];have Nw:=rT hx (bI.trans hr);rw[hr]at eJ;have q2:=(hk 2 oM oM).trans b2;have q3:=(hk 3 oM oM).trans b3;have q4:=(hk 4 oM oM).trans b4;have q5:=(hk 5 oM oM).trans b5
     grind [A2]
    ·obtain⟨hr,rfl,hk⟩:=hp;simp(disch:=omega) only[go_sem,h0,h2,h3,h4,h5,h6,hd];have q2:bx' 2=_:=(hk 2 oM oM).trans b2;have q3:bx' 3=_:=(hk 3 oM oM).trans b3;have q4:bx' 4=_:=(hk 4 oM oM).trans b4;rw[hr]at eJ;refine bM _ (iF (dB (i:Int) ⟨rfl,fun c=>sG⟩ (fun c=>sG) (fun c=>sG) q2 q3 q4) rfl ar rfl) fun m' aT hq=>?_;obtain⟨rfl,g2,g3,g4⟩:=hq;simp(disch:=omega) only[go_sem,h2,h3,h4,g2,g3,g4];exact⟨_,rfl,awp⟩
   ·rw[hc]at iR;have bI:dj s i c=jb s i:=awo
    simp(disch:=omega) only[go_sem,h0,h2,h3,h4,h5,h6,hb,eT,hx,qe];refine aI iR sG ?_;simp(disch:=omega) only[go_sem,h0,h2,h3,h4,h5,h6,hb,b5,eT,hx,Nat.reduceMul];rw[bI]at eJ;refine bj (ac1 oM oM au IE) rfl (fun d bx' hp=>?_) (fun d bx' hp=>?_)
    ·obtain⟨k,l',hr,rfl,dq,hk⟩:=hp;simp(disch:=omega) only[go_sem,h0,h2,h3,h4,h5,h6,hd];have Nw:=rT hx (bI.trans hr);rw[hr]at eJ;have q2:=(hk 2 oM oM).trans b2;have q3:=(hk 3 oM oM).trans b3;have q4:=(hk 4 oM oM).trans b4;have q5:=(hk 5 oM oM).trans b5
     grind [A2]
    ·obtain⟨hr,rfl,hk⟩:=hp;simp(disch:=omega) only[go_sem,h0,h2,h3,h4,h5,h6,hd];have q2:bx' 2=_:=(hk 2 oM oM).trans b2;have q3:bx' 3=_:=(hk 3 oM oM).trans b3;have q4:bx' 4=_:=(hk 4 oM oM).trans b4;rw[hr]at eJ;refine bM _ (iF (dB (i:Int) ⟨rfl,fun c=>sG⟩ (fun c=>sG) (fun c=>sG) q2 q3 q4) rfl ar rfl) fun m' aT hq=>?_;obtain⟨rfl,g2,g3,g4⟩:=hq;simp(disch:=omega) only[go_sem,h2,h3,h4,g2,g3,g4];exact⟨_,rfl,awp⟩
   ·rw[hc]at iR;have bI:dj s i c=none:=awo
    simp(disch:=omega) only[go_sem,h0,h2,h3,h4,h5,h6,hb,eT,hx,qe];refine aI iR sG ?_;simp(disch:=omega) only[go_sem,h0,h2,h3,h4,h5,h6,hb,b5,eT,hx,Nat.reduceMul];refine bj (Ed IE) rfl (fun d bx' hp=>?_) (fun d bx' hp=>?_)
    ·obtain⟨k,l',hr,_⟩:=hp;cases hr
    ·obtain⟨_,rfl,hk⟩:=hp;simp(disch:=omega) only[go_sem,h0,h2,h3,h4,h5,h6,hd];have q2:bx' 2=_:=(hk 2 oM oM).trans b2;have q3:bx' 3=_:=(hk 3 oM oM).trans b3;have q4:bx' 4=_:=(hk 4 oM oM).trans b4;rw[bI]at eJ;refine bM _ (iF (dB (i:Int) ⟨rfl,fun c=>sG⟩ (fun c=>sG) (fun c=>sG) q2 q3 q4) rfl ar rfl) fun m' aT hq=>?_;obtain⟨rfl,g2,g3,g4⟩:=hq;simp(disch:=omega) only[go_sem,h2,h3,h4,g2,g3,g4];exact⟨_,rfl,awp⟩
  ·have qe:¬(i:Int)<(s.length:Int):=oM;have yz:jP s=(xs,0,0):=by rw[eJ,show s.length - i=0 by omega];rfl
   have e3:(bx 2).ep=1:=by rw[b2]
   simp(disch:=omega) only[go_sem,h0,h2,h3,h4,h5,h6,hb,eT,qe,b2,b3,b4,v1,v2,v3,hd];refine bM _ (iF (ly (e2:=1) (e3:=1) (e4:=1) (x2:=l) (x3:=.int .i64 0) (x4:=.int .i64 0) awx awx awx) rfl ar rfl) fun m' aT hq=>?_;obtain⟨rfl,rfl⟩:=hq;simp(disch:=omega) only[go_sem,h2,h3,h4,v1,v2];have fX:aP (ah (ah (ah bx 2 ⟨1,1,1,142,[l]⟩) 3 ⟨1,1,1,3,[.int .i64 0]⟩) 4 ⟨1,1,1,39,[.int .i64 0]⟩) wv 212 4 l (xs.map Tok.d):=hv.of fun q hq=>avY
   obtain⟨r,hr,hw⟩:=fX.out (A4 xs);rw[hr,yz];exact⟨_,rfl,Re 0 0 hw⟩
def aiK(s:List UInt8)(hs:s.length<=140737488355328):av prog 170 [.str s] (NY (jP s)):=
 (JV (aiL s hs) rfl ar rfl).to (fun _ _ h=>h) fun d' bx' h=>h
end Go.V.Lx
namespace Go.V.Lx
open Go.Proofs Go.Proofs.Tryz Go.RowKit
def word(x:Tok):List UInt8:=if x.k=2 then Lib.itoa x.n else x.t
def pF(l:List Tok):List UInt8×Int:=if l.all cg then(Lib.join (l.map word) [32],0)else([],30)
def LV(r:List UInt8×Int):D:=.aL [.str r.1,.int .i64 r.2]
def oY(l:List Tok)(k:Nat):List D:=(l.take k).map (fun x=>D.str (word x))++List.replicate (l.length - k) (.str [])
def T3{l:List Tok}{k:Nat}(hk:k<l.length):(oY l k)[k]? =some (.str []):=by
 unfold oY
 exact awN
def T5{l:List Tok}{k:Nat}{x:Tok}(hx:l[k]? =some x):(oY l k).set k (.str (word x))=oY l (k+1):=by
 have hk:=(aaL.1 hx).1;unfold oY;rw[List.set_append_right _ _ awe];simp only[aa0,afd];rw[show k - min k l.length=0 by omega,show l.length - k=(l.length - (k+1))+1 by omega,akq,List.set_cons_zero,ae2,hx];exact sI
def T4(l:List Tok)(k:Nat)(h:k<=l.length):(oY l k).length=l.length:=by grind [oY]
theorem agL(l:List Tok)(hl:l.length<=1000000)(ht:∀x∈l,x.t.length<=140737488355328)(hj:∀k,(l.take k).all cg=true->(Lib.join ((l.take k).map word) [32]).length<=140737488355328):av prog 48 [bW l] (LV (pF l)):=by
 refine fF f48 [] [.tmp 2,.tmp 3] ?_;simp(disch:=omega) only[go_sem,bW];rw[aaO oM,aaO oM,aaO oM];simp(disch:=omega) only[go_sem,bW,aff];refine bB l.length (fun k σ bx=>σ 10=bW l/\σ 11= .int .i64 l.length/\σ 12= .int .i64 k/\σ 4= .ba 9 1 1 0 l.length/\(l.take k).all cg=true/\
  bx 9=⟨1,1,1,9,oY l k⟩)
  ⟨by simp[go_sem,bW],sG,sG,sG,sI,by simp[go_sem,oY]⟩ ?_ ?_
 ·rintro k σ bx hk ⟨jF,gM,fa,h4,hb,b9⟩;obtain⟨x,hx⟩:=bk hk;have rF:x.t.length<=140737488355328:=ht x (aat hx);have V3:=RO x rF;have iI:x.d= .agg [.int .i64 x.k,.str x.t,.int .i64 x.n,.int .i64 x.a]:=rfl;rw[iI]at V3;simp(disch:=omega) only[go_sem,jF,gM,fa,h4,bW];refine JF oM ?_;simp(disch:=omega) only[go_sem,jF,gM,fa,h4,bW,hx,iI];refine aI V3 sG ?_;simp(disch:=omega) only[go_sem,jF,gM,fa,h4,bW,hx,iI];refine aO (fun kY=>?_) (fun kY=>?_)
  ·simp(disch:=omega) only[go_sem,jF,gM,fa,h4,bW,hx,iI];have fk:=T5 hx;have xS:=T3 hk;have eB:=xB cg hx hb kY;refine aW (fun eQ=>?_) (fun eQ=>?_)
   ·have hw:word x=Lib.itoa x.n:=by simp_all[word]
    have hn:0<=x.n/\x.n<=1099511627776:=by simp_all[cg]
    rw[hw]at fk;simp(disch:=omega) only[go_sem,jF,gM,fa,h4,bW,hx,iI];refine aI (itoa_c x.n oM oM) sG ?_;simp(disch:=omega) only[go_sem,jF,gM,fa,h4,bW,hx,iI,b9,xS,fk];rw[aR oM]
    exact awN
   ·have hw:word x=x.t:=by simp_all[word]
    rw[hw]at fk;simp(disch:=omega) only[go_sem,jF,gM,fa,h4,bW,hx,iI,b9,xS,fk];rw[aR oM]
    exact awN
  ·simp(disch:=omega) only[go_sem,jF,gM,fa,h4,bW,hx,iI];have:pF l=([],30):=by unfold pF;grind
   rw[this];exact .refl _
 ·rintro σ bx ⟨jF,gM,fa,h4,hb,b9⟩;simp(disch:=omega) only[go_sem,jF,gM,fa,h4,bW];refine ME oM ?_;simp(disch:=omega) only[go_sem,jF,gM,fa,h4,bW];have uU:=T4 l l.length (aaN _);have hw:oY l l.length=(l.map word).map D.str:=by simp_all[oY]
  have VX:∀ws:List (List UInt8),D.aH (ws.map D.str)=true:=fun ws=>by induction ws<;>grind [D.aH,D.pure]
  have zt:l.length=((l.map word).map D.str).length:=sI
  have ho:aU bx (.ba 9 1 1 0 l.length)=some (.sl 1 ((l.map word).map D.str)):=by
   rw[jQ,b9,hw,zt];exact ja _ _ _ _ _ _ awL rfl (VX _)
  have hj:=hj l.length hb;rw[aaP]at hj;refine ET (join_c (l.map word) [32] awe hj) (by grind [dh,iw,ZI,pg]) rfl ?_;have:pF l=(Lib.join (l.map word) [32],0):=by unfold pF;grind
  rw[this];simp(disch:=omega) only[go_sem,jF,gM,fa,h4,bW];exact .refl _
def uM(x y:Tok):Bool:=decide (x.k=y.k)&&(x.t==y.t)&&decide (x.n=y.n)
def eH:List Tok->List Tok->Bool
 |[],[]=>true
 |x::a,y::b=>uM x y&&eH a b
 |_,_=>false
end Go.V.Lx
