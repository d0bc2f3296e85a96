/- Lemmas on plain data and programs: part B29. -/
import Derived.Test.YtkgloohlmogakaaGreatDoorB27
import Derived.Test.YtkgloohlmogakaaGreatDoorB26
set_option linter.all false
set_option maxHeartbeats 8000000
namespace Go.V.Jn
open Go.Proofs Go.RowKit Go.V.Lx Go.V.Gr Go.V.Ty Go.V.St
mutual
def aR.d:aR->D
 | .i n=> .agg [I 1,I n,.str [],.sl 4 []]
 | .t s=> .agg [I 2,I 0,.str s,.sl 4 []]
 | .l xs=> .agg [I 3,I 0,.str [],.sl 4 (dL xs)]
def dL:List aR->List D
 |[]=>[]
 |x::xs=>x.d::dL xs
end
theorem MY:∀xs:List aR,dL xs=xs.map aR.d
 |[]=>rfl
 |x::xs=>by rw[dL,MY xs];rfl
def nJ(xs:List aR):(aR.l xs).d= .agg [I 3,I 0,.str [],.sl 4 (xs.map aR.d)]:=by rw[aR.d,MY]
theorem n7{P:aR->Prop}(hi:∀n,P (.i n))(ht:∀s,P (.t s))(hl:∀xs,(∀x∈xs,P x)->P (.l xs)):∀v,P v
 | .i n=>hi n
 | .t s=>ht s
 | .l xs=>hl xs fun x hx=>n7 hi ht hl x
termination_by v=>SizeOf.sizeOf v
decreasing_by
 have:=List.sizeOf_lt_of_mem hx;simp;omega
theorem Ei(v:aR):v.d.pure=true:=by
 induction v using n7 with
 |hi n=>rfl
 |ht s=>rfl
 |hl xs ih=>
  rw[nJ];have:D.aF (xs.map aR.d)=true:=by rw[cZ,List.all_eq_true];exact ih
  simp[D.pure,D.aF,this]
def ld(xs:List aR):D.aF (xs.map aR.d)=true:=by rw[cZ,List.all_eq_true];exact fun v _=>Ei v
theorem Rd(v:aR):v.d.cells.length=4/\v.d.one=false:=by
 cases v with
 |i n=>exact⟨rfl,rfl⟩
 |t s=>exact⟨rfl,rfl⟩
 |l xs=>rw[nJ];exact⟨rfl,rfl⟩
mutual
def okW:aR->Prop
 | .i n=> -9223372036854775808<=n/\n<=9223372036854775807
 | .t s=>True
 | .l xs=>rU xs
def rU:List aR->Prop
 |[]=>True
 |x::xs=>okW x/\rU xs
end
theorem wP:∀xs:List aR,rU xs<->∀x∈xs,okW x
 |[]=>by simp[rU]
 |x::xs=>by simp[rU,wP xs]
def C1(xs:List aR):okW (.l xs)<->∀x∈xs,okW x:=by rw[okW,wP]
abbrev na(v:aR):Prop:=okW v/\(cp v).length<=1099511627776
theorem Pw:∀v:aR,1<=(cp v).length
 | .i n=>by simp[cp]
 | .t s=>by simp[cp]
 | .l xs=>by simp[cp]
theorem th:∀xs:List aR,xs.length<=(dN xs).length
 |[]=>by simp[dN]
 |x::xs=>by have:=th xs;have:=Pw x;simp[dN];omega
theorem qt{x:aR}:∀ {xs:List aR},x∈xs->(cp x).length<=(dN xs).length
 |y::xs,h=>by
  simp only[dN,List.length_append];rcases List.mem_cons.1 h with rfl|h
  ·omega
  ·have:=qt h;omega
def Ez{xs:List aR}{j:Nat}{x:aR}(h:xs[j]? =some x):dN (xs.take (j+1))=dN (xs.take j)++cp x:=by rw[List.take_add_one,h,wu];simp[dN]
def EA(xs:List aR)(j:Nat):(dN (xs.take j)).length<=(dN xs).length:=by
 have:=congrArg (fun l=>(dN l).length) (List.take_append_drop j xs);simp only[wu,List.length_append]at this;omega
def zT{xs:List aR}(h:na (.l xs)):xs.length<=1099511627776/\(dN xs).length<=1099511627776/\∀x∈xs,na x:=by
 obtain⟨h1,h2⟩:=h;rw[C1]at h1;simp only[cp,List.length_cons,List.length_append]at h2;have:=th xs;exact⟨by omega,by omega,fun x hx=>⟨h1 x hx,by have:=qt hx;omega⟩⟩
def cz(w:Word):aR:=.l [.t w.t,.i w.f,.i w.u,.i w.s,.l (w.alts.map .t)]
def cV(h:bc):aR:=.l [.i h.at_,.i h.src,.i h.seq,.i h.ir,.i h.kind,.i h.jy,.i h.cut,.l (h.words.map cz)]
def bW(h:bc):ah:=cp (cV h)
theorem Ew:∀l:List ah,eZ (l.map aR.t)=0
 |[]=>rfl
 |x::l=>by simp[eZ,eW,Ew l]
def Pu(w:Word):eW (cz w)=2:=by simp[cz,eW,eZ,Ew]
theorem Ex:∀l:List Word,eZ (l.map cz)<=2
 |[]=>by simp[eZ]
 |x::l=>by have:=Ex l;simp[eZ,Pu];omega
def yf(h:bc):eW (cV h)<=4:=by
 have:=Ex h.words;simp[cV,eW,eZ];omega
end Go.V.Jn
namespace Go.V.Jn
open Go.Proofs Go.RowKit Go.V.Lx Go.V.Gr Go.V.Ty Go.V.St
structure bI where
 bY:aV
 bZ:gm
 cu:cI
abbrev s0:aV:=⟨0,0,0,0,0,0,0,[],[],[],[],[],[],[],[]⟩
abbrev p0:bI:=⟨s0,j0,d0⟩
noncomputable def iN(p:bI):Bool:=decide (bQ p.bY=0)&&kh p.bZ&&dt p.cu&& !p.cu.stop&&decide (p.cu.bC.length=0)&&decide (p.cu.left= -1)&&decide (p.bZ.many=(p.cu.aZ.length:Int))&&decide (p.bZ.bh=p.bY.heard.map bW)&&decide (cF p.cu.aZ=p.bZ.bh.take p.bZ.sync.toNat)
structure PG(p:bI):Prop where
 bY:bQ p.bY=0
 bZ:kh p.bZ=true
 cu:dt p.cu=true
 stop:p.cu.stop=false
 bC:p.cu.bC=[]
 left:p.cu.left= -1
 many:p.bZ.many=(p.cu.aZ.length:Int)
 bh:p.bZ.bh=p.bY.heard.map bW
 read:cF p.cu.aZ=p.bZ.bh.take p.bZ.sync.toNat
def eH(p:bI):iN p=true<->PG p:=by
 unfold iN;simp only[bA,decide_eq_true_eq,Bool.not_eq_true',List.length_eq_zero_iff];constructor
 ·rintro⟨⟨⟨⟨⟨⟨⟨⟨h1,h2⟩,h3⟩,h4⟩,h5⟩,h6⟩,h7⟩,h8⟩,h9⟩;exact⟨h1,h2,h3,h4,h5,h6,h7,h8,h9⟩
 ·rintro⟨h1,h2,h3,h4,h5,h6,h7,h8,h9⟩;exact⟨⟨⟨⟨⟨⟨⟨⟨h1,h2⟩,h3⟩,h4⟩,h5⟩,h6⟩,h7⟩,h8⟩,h9⟩
abbrev bL(s:aV)(l:List bc):aV:={s with heard:=l}
noncomputable def eu(s:aV)(n:Int):bI×Int:=if bQ s=0 then if s.heard.length=0 then if(jx n).2=0 then(⟨s,(dC (jx n).1).1,(jx n).1⟩,0)else(p0,(jx n).2)else(p0,580)else(p0,bQ s)
noncomputable def d_(p:bI)(h:bc):bI×Int:=if iN p=true then if bQ (bL p.bY (p.bY.heard++[h]))=0 then if(fU p.bZ (bW h)).2=0 then(⟨bL p.bY (p.bY.heard++[h]),(fU p.bZ (bW h)).1,p.cu⟩,0)else(p0,(fU p.bZ (bW h)).2)else(p0,1)else(p0,580)
noncomputable def n6(p:bI):bI×Int:=if iN p=true then if(gV p.bZ p.cu).2.2=0 then(⟨p.bY,(gV p.bZ p.cu).1,(gV p.bZ p.cu).2.1⟩,0)else(p0,(gV p.bZ p.cu).2.2)else(p0,580)
@[reducible] def y4(d:cI)(n:Int):cI:=⟨d.aZ,d.bC,n,d.stop⟩
def fZ(p:bI)(n:Int):cI×Int:=(sj (gV p.bZ (y4 p.cu n)).2.1,(gV p.bZ (y4 p.cu n)).2.2)
noncomputable def gi(p:bI)(n:Int):bI×Int:=if iN p=true then if 0<=n/\n<=65536 then if(fZ p n).2=0\/(fZ p n).2=40 then
 (⟨bL p.bY (p.bY.heard.take (dC (fZ p n).1).1.bh.length),(dC (fZ p n).1).1,(fZ p n).1⟩,0)else(p0,(fZ p n).2)else(p0,1)else(p0,580)
def lW{d:cI}(h:dt d=true):(1<=d.aZ.length/\d.aZ.length<=4096)/\(∀b∈d.aZ,b.length=128)/\ -1<=d.left/\d.left<=65536:=by
 simp[dt]at h;exact⟨by omega,h.2,by omega,by omega⟩
def qs{S:List ah}{L:Int}{st:Bool}(h:1<=S.length/\S.length<=4096)(h2:∀b∈S,b.length=128)(h3: -1<=L)(h4:L<=65536):dt ⟨S,[],L,st⟩=true:=by
 simp[dt];exact⟨by omega,h2⟩
def kJ{j:gm}(h:kh j=true):(1<=j.many/\j.many<=4096)/\0<=j.sync/\j.sync<=j.bh.length/\(aW j.bh:Int)<=j.many:=by
 simp[kh]at h;exact⟨by omega,by omega,by omega,by omega⟩
def CR{R:List ah}{m y:Int}(h:1<=m/\m<=4096)(h2:0<=y)(h3:y<=R.length)(h4:(aW R:Int)<=m):kh ⟨R,m,y⟩=true:=by
 simp[kh];omega
def Q5{d:cI}(hs:∀b∈d.aZ,b.length=128)(hw:∀w∈d.bC,0<=w.at_/\w.at_<d.aZ.length/\w.data.length=128)(hl:d.left.toNat<d.bC.length):(qb d).length=d.aZ.length/\∀b∈qb d,b.length=128:=by
 have iL:∀w∈d.bC.take d.left.toNat,rM d.aZ.length w=true:=fun w h=>by
  have:=hw w (List.mem_of_mem_take h);simp[rM];omega
 have h1:=tU hs iL;have h2:=kZ (d.bC.take d.left.toNat) d.aZ;obtain⟨w,JW⟩:∃w,d.bC[d.left.toNat]? =some w:=⟨_,gE hl⟩
 have yL:=hw w (mG JW);unfold qb;simp only[List.getD_eq_getElem?_getD,JW,Option.getD_some];refine⟨by rw[List.length_set,h2],fun b hb=>?_⟩;rcases List.mem_or_eq_of_mem_set hb with hb|rfl
 ·exact h1 b hb
 ·obtain⟨o,ho⟩:∃o,(ey d.aZ (d.bC.take d.left.toNat))[w.at_.toNat]? =some o:=⟨_,gE oM⟩
  have:=h1 o (mG ho);rw[ho];simp;omega
def yo{S T:List ah}{g:Nat}(h:∀t∈T,num (t.take 4)<=g/\num (t.drop 124)<=g):cP T<=g+1:=by
 suffices ∀(T:List ah) (a:Nat),a<=g->(∀t∈T,num (t.take 4)<=g/\num (t.drop 124)<=g)->T.foldl (fun g s=>max g (max (num (s.take 4)) (num (s.drop 124)))) a<=g by
  have:=this T 0 oM h;unfold cP;omega
 intro T;induction T with
 |nil=>intro a ha _;exact ha
 |cons t T ih=>
  intro a ha ht;have:=ht t (List.mem_cons_self ..);exact ih _ (by dsimp only;omega) fun x hx=>ht x (List.mem_cons_of_mem _ hx)
def Oh{g a n:Nat}{b:ah}{k:Nat}(hg:g<4294967296):num ((fQ g a n b k).data.take 4)=g/\num ((fQ g a n b k).data.drop 124)=g:=by
 refine⟨sX hg,?_⟩;show num ((ei _ _ _ _).drop 124)=g;rw[Ip (by simp;omega),tQ];exact Nat.mod_eq_of_lt hg
theorem F3{g:Nat}{w:bX}(hg:g<4294967296):∀ {l:List ah} {a:Nat},w∈cO g a l->num (w.data.take 4)=g/\num (w.data.drop 124)=g
 |[],a,h=>by simp[cO]at h
 |b::l,a,h=>by
  simp only[cO,List.mem_append]at h;rcases h with h|h
  ·simp only[lY,List.mem_map,List.mem_range]at h;obtain⟨k,hk,rfl⟩:=h;exact Oh hg
  ·exact F3 hg h
theorem Bu{t:ah}:∀ {W:List bX} {S:List ah},t∈ey S W->t∈S\/∃w∈W,t=w.data
 |[],S,h=> .inl h
 |w::W,S,h=>by
  rcases Bu (W:=W) (S:=S.set w.at_.toNat w.data) h with h|⟨x,hx,rfl⟩
  ·rcases List.mem_or_eq_of_mem_set h with h|rfl
   ·exact .inl h
   ·exact .inr ⟨w,List.mem_cons_self ..,rfl⟩
  ·exact .inr ⟨x,List.mem_cons_of_mem _ hx,rfl⟩
def xq{p:bI}(hp:PG p){n:Int}(h0: -1<=n)(h1:n<=65536):
 ((gV p.bZ (y4 p.cu n)).2.2=50/\¬cP p.cu.aZ<4294967296)\/
 ∃(S:List ah) (q:Nat) (L:Int) (st:Bool),(gV p.bZ (y4 p.cu n)).2.1=⟨S,[],L,st⟩/\S.length=p.cu.aZ.length/\(∀b∈S,b.length=128)/\cP S<=cP p.cu.aZ+1/\p.bZ.sync<=q/\q<=p.bZ.bh.length/\
  cF S=p.bZ.bh.take q/\(n=0->(q:Int)=p.bZ.sync)/\((n= -1\/(aW (p.bZ.bh.drop p.bZ.sync.toNat):Int)<=n)->(q=p.bZ.bh.length/\(gV p.bZ (y4 p.cu n)).2.2=0))/\cP p.cu.aZ<4294967296/\
  (((gV p.bZ (y4 p.cu n)).2.2=0/\(gV p.bZ (y4 p.cu n)).1={p.bZ with sync:=p.bZ.bh.length}/\st=false/\(n= -1->L= -1))\/(gV p.bZ (y4 p.cu n)).2.2=40):=by
 obtain⟨bY,⟨R,M,y⟩,⟨S,W,L,st⟩⟩:=p;obtain⟨e1,e2,e3,e4,e5,e6,e7,e8,e9⟩:=hp;simp only at e1 e2 e3 e4 e5 e6 e7 e8 e9⊢;subst e4;subst e5;subst e6;subst e7;obtain⟨⟨d1,d2⟩,d3,d4,d5⟩:=lW e3;obtain⟨⟨j1,j2⟩,j3,j4,j5⟩:=kJ e2;simp only at d1 d2 d3 j1 j2 j3 j4 j5;obtain⟨y,rfl⟩:∃m:Nat,y=m:=⟨y.toNat,by omega⟩
 simp only[Int.toNat_natCast]at e9⊢;have oa:dt ⟨S,[],n,false⟩=true:=qs ⟨d1,d2⟩ d3 h0 h1;have ho:dC ⟨S,[],n,false⟩=(⟨cF S,S.length,(cF S).length⟩,0):=by unfold dC;rw[if_pos oa];rfl
 by_cases hg:cP S<4294967296
 rotate_left
 ·refine .inl ⟨?_,hg⟩;unfold gV;rw[if_pos e2,if_pos oa,if_neg sI,ho,if_pos rfl,if_neg (fun h=>hg h.2)]
 refine .inr ?_;have V7:=Q2 (rs:=R) (y:=y) (L:=n) (st:=false) ⟨d3,d2⟩ e9 oM oM hg;have yK:=xu R y;have hgS:cP S - 1+1=cP S:=by unfold cP;omega
 have hSg:∀t∈S,num (t.take 4)<=cP S/\num (t.drop 124)<=cP S:=fun t ht=>by have:=zU ht;omega
 by_cases hy:(y:Int)=R.length
 ·have e:gV ⟨R,S.length,y⟩ ⟨S,[],n,false⟩=(⟨R,S.length,y⟩,⟨S,[],n,false⟩,0):=by
   unfold gV;rw[if_pos e2,if_pos oa,if_neg sI,ho,if_pos rfl,if_pos ⟨by simpa using e9,hg⟩,if_pos hy]
  rw[e];exact⟨S,y,n,false,rfl,rfl,d3,by omega,by omega,by omega,e9,fun _=>rfl,fun _=>⟨by omega,rfl⟩,hg,.inl ⟨rfl,by rw[hy],rfl,fun h=>h⟩⟩
 ·have sf:=s8 (cP S) (R.drop y) (aW (R.take y));have yL:∀w∈cO (cP S) (aW (R.take y)) (R.drop y),0<=w.at_/\w.at_<S.length/\w.data.length=128:=fun w hw=>by have:=vW hw;omega
  have Vt:DG S n:=⟨d1,d2,d3,h0,h1⟩
  have bR:mU ⟨S,cO (cP S) (aW (R.take y)) (R.drop y),n,false⟩=true:=by
   unfold mU;rw[Vt.cu yL oM];rfl
  have e:gV ⟨R,S.length,y⟩ ⟨S,[],n,false⟩=if(kU ⟨S,cO (cP S) (aW (R.take y)) (R.drop y),n,false⟩).2=0 then(⟨R,S.length,R.length⟩,(kU ⟨S,cO (cP S) (aW (R.take y)) (R.drop y),n,false⟩).1,0)else(j0,(kU ⟨S,cO (cP S) (aW (R.take y)) (R.drop y),n,false⟩).1,(kU ⟨S,cO (cP S) (aW (R.take y)) (R.drop y),n,false⟩).2):=by
   conv=>lhs;unfold gV
   rw[if_pos e2,if_pos oa,if_neg sI,ho,if_pos rfl,if_pos ⟨by simpa using e9,hg⟩,if_neg hy];rfl
  have Lf:∀w∈cO (cP S) (aW (R.take y)) (R.drop y),num (w.data.take 4)=cP S/\num (w.data.drop 124)=cP S:=fun w hw=>F3 hg hw;generalize hW:cO (cP S) (aW (R.take y)) (R.drop y)=W at *;by_cases ht:0<=n/\n<(W.length:Int)
  ·have es:kU ⟨S,W,n,false⟩=(⟨qb ⟨S,W,n,false⟩,[],0,true⟩,40):=by unfold kU;rw[if_pos bR,if_pos ht]
   obtain⟨t1,t2⟩:=Q5 (d:=⟨S,W,n,false⟩) d3 yL (by simp;omega);obtain⟨q,q1,q2,q3,q4⟩:=V7.2 n.toNat oM;rw[Int.toNat_of_nonneg ht.1]at q4;rw[e,es,if_neg (show ¬(40:Int)=0 by decide)];refine⟨_,q,0,true,rfl,t1,t2,?_,by omega,by omega,q4,fun h=>by rw[q3 oM],fun h=>by omega,hg,.inr rfl⟩;refine yo (S:=S) fun t AH=>?_;unfold qb at AH;simp only at AH;have RE:∀t∈ey S (W.take n.toNat),num (t.take 4)<=cP S/\num (t.drop 124)<=cP S:=fun t AH=>by
    rcases Bu AH with h|⟨w,hw,rfl⟩
    ·exact hSg t h
    ·have:=Lf w (List.mem_of_mem_take hw);omega
   rcases List.mem_or_eq_of_mem_set AH with h|rfl
   ·exact RE t h
   ·obtain⟨w,JW⟩:∃w,W[n.toNat]? =some w:=⟨_,gE oM⟩
    simp only[List.getD_eq_getElem?_getD,JW,Option.getD_some];have uB:=Lf w (mG JW);have iL:=yL w (mG JW);obtain⟨o,ho⟩:∃o,(ey S (W.take n.toNat))[w.at_.toNat]? =some o:=⟨_,gE (by rw[kZ];omega)⟩
    have dV:=RE o (mG ho);have tE:=tU (l:=W.take n.toNat) d3 (fun w hw=>by have:=yL w (List.mem_of_mem_take hw);simp[rM];omega) o (mG ho);rw[ho,Option.getD_some];constructor
    ·rw[List.take_append_of_le_length (by simp;omega),List.take_take,show min 4 64=4 by rfl];omega
    ·have hD:(w.data.take 64++o.drop 64).drop 124=o.drop 124:=by
      rw[List.drop_append,List.drop_of_length_le (by simp;omega),List.nil_append,List.drop_drop]
      congr 1;simp;omega
     rw[hD];omega
  ·have es:kU ⟨S,W,n,false⟩=(⟨ey S W,[],if 0<=n then n - W.length else n,false⟩,0):=by unfold kU;rw[if_pos bR,if_neg ht]
   rw[e,es,if_pos rfl];refine⟨_,R.length,_,false,rfl,kZ _ _,tU d3 (fun w hw=>by have:=yL w hw;simp[rM];omega),?_,by omega,by omega,by rw[tL];exact V7.1,fun h=>?_,fun _=>⟨rfl,rfl⟩,hg,.inl ⟨rfl,rfl,rfl,fun h=>by rw[if_neg oM];exact h⟩⟩
   ·refine yo (S:=S) fun t AH=>?_;rcases Bu AH with h|⟨w,hw,rfl⟩
    ·exact hSg t h
    ·have:=Lf w hw;omega
   ·have hdl:=l_ (R.drop y);rw[List.length_drop]at hdl;omega
def K_{s:aV}{l:List bc}(h:kC (bL s l)=true)(q:Nat):kC (bL s (l.take q))=true:=by
 unfold kC at *;simp only at *;rw[<-List.take_append_drop q l,List.foldlM_append]at h;cases hh:List.foldlM (rm s.sources) 0 (l.take q)with
 |none=>rw[hh]at h;simp at h
 |some v=>rfl
def QZ{s:aV}{l:List bc}(h:bQ (bL s l)=0)(q:Nat):bQ (bL s (l.take q))=0:=by
 unfold bQ at *;split at h
 ·cases h
 ·rename_i hc;simp only at hc;rw[if_neg (by simp only[List.length_take];omega)];split at h
  ·rename_i hb;have oy:ua (bL s (l.take q))=true:=by
    unfold ua at *;simp only[bA]at *;exact⟨⟨⟨hb.1.1.1,hb.1.1.2⟩,hb.1.2⟩,K_ hb.2 q⟩
   rw[if_pos oy]
  ·cases h
def ur{p:bI}(hp:PG p){n:Int}(h0:0<=n)(h1:n<=65536)(hg:cP p.cu.aZ<4294967296):
 ∃(S:List ah) (q:Nat),gi p n=(⟨bL p.bY (p.bY.heard.take q),⟨p.bZ.bh.take q,p.bZ.many,q⟩,⟨S,[],-1,false⟩⟩,0)/\PG (gi p n).1/\cP S<=cP p.cu.aZ+1/\p.bZ.sync<=q/\q<=p.bY.heard.length/\(n=0->(q:Int)=p.bZ.sync)/\((aW (p.bZ.bh.drop p.bZ.sync.toNat):Int)<=n->q=p.bY.heard.length):=by
 rcases xq hp (n:=n) oM h1 with⟨_,h⟩|⟨S,q,L,st,f1,f2,f3,f4,f5,f6,f7,f8,f9,f10,f11⟩
 ·exact absurd hg h
 obtain⟨⟨d1,d2⟩,d3,d4,d5⟩:=lW hp.cu;obtain⟨⟨j1,j2⟩,j3,j4,j5⟩:=kJ hp.bZ;have tF:p.bZ.bh.length=p.bY.heard.length:=by rw[hp.bh,List.length_map]
 have hL:(fZ p n).1=⟨S,[],-1,false⟩:=by unfold fZ;simp only[f1,sj]
 have hE:(fZ p n).2=0\/(fZ p n).2=40:=by
  unfold fZ;rcases f11 with h|h
  ·exact .inl h.1
  ·exact .inr h
 have oa:dt ⟨S,[],-1,false⟩=true:=qs oM f3 oM oM;have hO:dC (fZ p n).1=(⟨p.bZ.bh.take q,p.bZ.many,q⟩,0):=by
  rw[hL];unfold dC;rw[if_pos oa,if_neg sI,if_pos sI];simp only[f7,f2,hp.many,List.length_take,Nat.min_eq_left f6]
 have hC:gi p n=(⟨bL p.bY (p.bY.heard.take q),⟨p.bZ.bh.take q,p.bZ.many,q⟩,⟨S,[],-1,false⟩⟩,0):=by
  unfold gi;rw[if_pos ((eH p).2 hp),if_pos ⟨h0,h1⟩,if_pos hE,hO,hL];simp only[List.length_take,Nat.min_eq_left f6]
 refine⟨S,q,hC,?_,f4,f5,by omega,f8,fun h=>by rw[<-tF];exact(f9 (.inr h)).1⟩;rw[hC];refine⟨QZ hp.bY q,CR ⟨j1,j2⟩ oM (by simp;omega) (by have:=rL p.bZ.bh q;omega),oa,rfl,rfl,rfl,by rw[hp.many,f2],?_,?_⟩
 ·simp only[hp.bh,List.map_take]
 ·simp only[f7,Int.toNat_natCast,List.take_take,Nat.min_self]
def Fi{p:bI}(hp:PG p)(hg:cP p.cu.aZ<4294967296):
 ∃S:List ah,n6 p=(⟨p.bY,{p.bZ with sync:=p.bZ.bh.length},⟨S,[],-1,false⟩⟩,0)/\PG (n6 p).1/\cP S<=cP p.cu.aZ+1:=by
 rcases xq hp (n:= -1) oM oM with⟨_,h⟩|⟨S,q,L,st,f1,f2,f3,f4,f5,f6,f7,f8,f9,f10,f11⟩
 ·exact absurd hg h
 obtain⟨⟨d1,d2⟩,d3,d4,d5⟩:=lW hp.cu;obtain⟨⟨j1,j2⟩,j3,j4,j5⟩:=kJ hp.bZ;have hd:y4 p.cu (-1)=p.cu:=by unfold y4;rw[<-hp.left]
 obtain⟨g1,g2⟩:=f9 (.inl rfl);subst g1;rw[hd]at f1 g2 f11;rcases f11 with⟨k1,k2,k3,k4⟩|h
 rotate_left
 ·rw[h]at g2;cases g2
 have hS:n6 p=(⟨p.bY,{p.bZ with sync:=p.bZ.bh.length},⟨S,[],-1,false⟩⟩,0):=by
  unfold n6;rw[if_pos ((eH p).2 hp),if_pos k1,k2,f1,k3,k4 rfl]
 have oa:dt ⟨S,[],-1,false⟩=true:=qs oM f3 oM oM;refine⟨S,hS,?_,f4⟩;rw[hS];exact⟨hp.bY,CR ⟨j1,j2⟩ oM oM j5,oa,rfl,rfl,rfl,by rw[f2];exact hp.many,hp.bh,by simpa using f7⟩
def Bd{p:bI}{h:bc}(hp:PG p)(hh:(d_ p h).2=0):d_ p h=(⟨bL p.bY (p.bY.heard++[h]),{p.bZ with bh:=p.bZ.bh++[bW h]},p.cu⟩,0)/\PG (d_ p h).1:=by
 have h0:=hh;unfold d_ at hh;rw[if_pos ((eH p).2 hp)]at hh;split at hh
 rotate_left
 ·cases hh
 rename_i hs;split at hh
 rotate_left
 ·exact absurd hh ‹_›
 rename_i ha;obtain⟨⟨j1,j2⟩,j3,j4,j5⟩:=kJ hp.bZ;have hA:fU p.bZ (bW h)=(⟨p.bZ.bh++[bW h],p.bZ.many,p.bZ.sync⟩,0)/\¬(p.bZ.many - (aW p.bZ.bh:Int))<bM (bW h):=by
  unfold fU at ha⊢;rw[if_pos hp.bZ]at ha⊢;split at ha
  ·cases ha
  ·rename_i hc;exact⟨by rw[if_neg hc],hc⟩
 have hE:d_ p h=(⟨bL p.bY (p.bY.heard++[h]),{p.bZ with bh:=p.bZ.bh++[bW h]},p.cu⟩,0):=by
  unfold d_;rw[if_pos ((eH p).2 hp),if_pos hs,if_pos ha,hA.1]
 refine⟨hE,?_⟩;rw[hE];have hu:aW (p.bZ.bh++[bW h])=aW p.bZ.bh+bM (bW h):=by simp[aW]
 refine⟨hs,CR ⟨j1,j2⟩ j3 (by simp;omega) (by rw[hu];omega),hp.cu,hp.stop,hp.bC,hp.left,hp.many,by simp[hp.bh],?_⟩;simp only;rw[List.take_append_of_le_length oM];exact hp.read
def uJ(n:Nat):cF (List.replicate n cK)=[]:=by
 unfold cF jB;rw[List.length_replicate];cases n with
 |zero=>rfl
 |succ n=>
  have hx:(List.replicate (n+1) cK)[0]? =some cK:=by simp
  have hb:gD cK 0=false:=by
   unfold gD su;have:gen cK=0:=by unfold gen cK;rw[List.take_replicate];rfl
   simp[this]
  rw[kO,List.length_replicate,Nat.sub_zero,qH hx,hb];rfl
def GK(n:Nat):cP (List.replicate n cK)=1:=by
 have:=yo (S:=[]) (T:=List.replicate n cK) (g:=0) fun t ht=>by
  obtain⟨_,rfl⟩:=List.mem_replicate.1 ht;unfold cK;rw[List.take_replicate,List.drop_replicate];exact⟨by decide,by decide⟩
 have h2:1<=cP (List.replicate n cK):=by unfold cP;omega
 omega
def D0{s:aV}{n:Int}(h:(eu s n).2=0):1<=n/\n<=4096/\eu s n=(⟨s,⟨[],n,0⟩,⟨List.replicate n.toNat cK,[],-1,false⟩⟩,0)/\PG (eu s n).1/\s.heard=[]/\bQ s=0:=by
 have h0:=h;unfold eu at h;split at h
 rotate_left
 ·exact absurd h ‹_›
 rename_i hs;split at h
 rotate_left
 ·cases h
 rename_i hh;have hh2:s.heard=[]:=List.length_eq_zero_iff.1 hh;by_cases hn:1<=n/\n<=4096
 rotate_left
 ·have:jx n=(d0,1):=by unfold jx;rw[if_neg hn]
  rw[this,if_neg (by decide)]at h;cases h
 have hN:jx n=(⟨List.replicate n.toNat cK,[],-1,false⟩,0):=by unfold jx;rw[if_pos hn]
 have oa:dt ⟨List.replicate n.toNat cK,[],-1,false⟩=true:=qs (by simp;omega) (fun b hb=>by obtain⟨_,rfl⟩:=List.mem_replicate.1 hb;exact nK) oM oM;have hO:dC ⟨List.replicate n.toNat cK,[],-1,false⟩=(⟨[],n,0⟩,0):=by
  unfold dC;rw[if_pos oa,if_neg sI,if_pos sI];simp only[uJ,List.length_replicate,List.length_nil];rw[Int.toNat_of_nonneg oM];rfl
 have hE:eu s n=(⟨s,⟨[],n,0⟩,⟨List.replicate n.toNat cK,[],-1,false⟩⟩,0):=by
  unfold eu;rw[if_pos hs,if_pos hh,hN,if_pos rfl,hO]
 refine⟨hn.1,hn.2,hE,?_,hh2,hs⟩;rw[hE];exact⟨hs,CR hn oM sI (by simp[aW];omega),oa,rfl,rfl,rfl,by simp;omega,by simp[hh2],by simp[uJ]⟩
end Go.V.Jn
