/- Plain laws: B26. -/
import Derived.Test.YtkgloohlmogakaaGreatDoorB24
import Derived.Test.YtkgloohlmogakaaGreatDoorB23
set_option linter.all false
set_option maxHeartbeats 8000000
namespace Go.V.Jn
open Go.Proofs Go.RowKit Go.V.Lx Go.V.Gr Go.V.Ty Go.V.St
mutual
def aU.d:aU->D
 | .i n=> .agg [I 1,I n,.str [],.sl 4 []]
 | .t s=> .agg [I 2,I 0,.str s,.sl 4 []]
 | .l xs=> .agg [I 3,I 0,.str [],.sl 4 (dL xs)]
def dL:List aU->List D
 |[]=>[]
 |x::xs=>x.d::dL xs
end
theorem Nq:∀xs:List aU,dL xs=xs.map aU.d
 |[]=>rfl
 |x::xs=>by rw[dL,Nq xs];rfl
def nQ(xs:List aU):(aU.l xs).d= .agg [I 3,I 0,.str [],.sl 4 (xs.map aU.d)]:=by rw[aU.d,Nq]
theorem oq{P:aU->Prop}(hi:∀n,P (.i n))(ht:∀s,P (.t s))(hl:∀xs,(∀x∈xs,P x)->P (.l xs)):∀v,P v
 | .i n=>hi n
 | .t s=>ht s
 | .l xs=>hl xs fun x hx=>oq hi ht hl x
termination_by v=>SizeOf.sizeOf v
decreasing_by
 have:=List.sizeOf_lt_of_mem hx;simp;omega
theorem Ew(v:aU):v.d.pure=true:=by
 induction v using oq with
 |hi n=>rfl
 |ht s=>rfl
 |hl xs ih=>
  rw[nQ];have:D.aF (xs.map aU.d)=true:=by rw[dB,List.all_eq_true];exact ih
  simp[D.pure,D.aF,this]
def lx(xs:List aU):D.aF (xs.map aU.d)=true:=by rw[dB,List.all_eq_true];exact fun v _=>Ew v
theorem RF(v:aU):v.d.cells.length=4/\v.d.one=false:=by
 cases v with
 |i n=>exact⟨rfl,rfl⟩
 |t s=>exact⟨rfl,rfl⟩
 |l xs=>rw[nQ];exact⟨rfl,rfl⟩
mutual
def okW:aU->Prop
 | .i n=> -9223372036854775808<=n/\n<=9223372036854775807
 | .t s=>True
 | .l xs=>sb xs
def sb:List aU->Prop
 |[]=>True
 |x::xs=>okW x/\sb xs
end
theorem xh:∀xs:List aU,sb xs<->∀x∈xs,okW x
 |[]=>by simp[sb]
 |x::xs=>by simp[sb,xh xs]
def De(xs:List aU):okW (.l xs)<->∀x∈xs,okW x:=by rw[okW,xh]
abbrev ng(v:aU):Prop:=okW v/\(cr v).length<=1099511627776
theorem PY:∀v:aU,1<=(cr v).length
 | .i n=>by simp[cr]
 | .t s=>by simp[cr]
 | .l xs=>by simp[cr]
theorem tM:∀xs:List aU,xs.length<=(dW xs).length
 |[]=>by simp[dW]
 |x::xs=>by have:=tM xs;have:=PY x;simp[dW];omega
theorem qL{x:aU}:∀ {xs:List aU},x∈xs->(cr x).length<=(dW xs).length
 |y::xs,h=>by
  simp only[dW,List.length_append];rcases List.mem_cons.1 h with rfl|h
  ·omega
  ·have:=qL h;omega
def EL{xs:List aU}{j:Nat}{x:aU}(h:xs[j]? =some x):dW (xs.take (j+1))=dW (xs.take j)++cr x:=by rw[List.take_add_one,h,wR];simp[dW]
def EM(xs:List aU)(j:Nat):(dW (xs.take j)).length<=(dW xs).length:=by
 have:=congrArg (fun l=>(dW l).length) (List.take_append_drop j xs);simp only[wR,List.length_append]at this;omega
def Ah{xs:List aU}(h:ng (.l xs)):xs.length<=1099511627776/\(dW xs).length<=1099511627776/\∀x∈xs,ng x:=by
 obtain⟨h1,h2⟩:=h;rw[De]at h1;simp only[cr,List.length_cons,List.length_append]at h2;have:=tM xs;exact⟨by omega,by omega,fun x hx=>⟨h1 x hx,by have:=qL hx;omega⟩⟩
def cF(w:Word):aU:=.l [.t w.t,.i w.f,.i w.u,.i w.s,.l (w.alts.map .t)]
def c_(h:bn):aU:=.l [.i h.at_,.i h.src,.i h.seq,.i h.jX,.i h.kind,.i h.lQ,.i h.cut,.l (h.words.map cF)]
def cz(h:bn):ah:=cr (c_ h)
theorem EJ:∀l:List ah,fb (l.map aU.t)=0
 |[]=>rfl
 |x::l=>by simp[fb,e_,EJ l]
def PW(w:Word):e_ (cF w)=2:=by simp[cF,e_,fb,EJ]
theorem EK:∀l:List Word,fb (l.map cF)<=2
 |[]=>by simp[fb]
 |x::l=>by have:=EK l;simp[fb,PW];omega
def yA(h:bn):e_ (c_ h)<=4:=by
 have:=EK h.words;simp[c_,e_,fb];omega
end Go.V.Jn
namespace Go.V.Jn
open Go.Proofs Go.RowKit Go.V.Lx Go.V.Gr Go.V.Ty Go.V.St
structure bG where
 cn:bg
 cm:gy
 cg:bV
abbrev s0:bg:=⟨0,0,0,0,0,0,0,[],[],[],[],[],[],[],[]⟩
abbrev p0:bG:=⟨s0,j0,d0⟩
noncomputable def iw(p:bG):Bool:=decide (cd p.cn=0)&&ko p.cm&&cO p.cg&& !p.cg.stop&&decide (p.cg.br.length=0)&&decide (p.cg.left= -1)&&decide (p.cm.many=(p.cg.a_.length:Int))&&decide (p.cm.bJ=p.cn.heard.map cz)&&decide (b_ p.cg.a_=p.cm.bJ.take p.cm.sync.toNat)
structure PG(p:bG):Prop where
 cn:cd p.cn=0
 cm:ko p.cm=true
 cg:cO p.cg=true
 stop:p.cg.stop=false
 br:p.cg.br=[]
 left:p.cg.left= -1
 many:p.cm.many=(p.cg.a_.length:Int)
 bJ:p.cm.bJ=p.cn.heard.map cz
 read:b_ p.cg.a_=p.cm.bJ.take p.cm.sync.toNat
def eg(p:bG):iw p=true<->PG p:=by
 unfold iw;simp only[bA,decide_eq_true_eq,Bool.not_eq_true',List.length_eq_zero_iff];constructor
 ·rintro⟨⟨⟨⟨⟨⟨⟨⟨h1,h2⟩,h3⟩,h4⟩,h5⟩,h6⟩,h7⟩,h8⟩,h9⟩;exact⟨h1,h2,h3,h4,h5,h6,h7,h8,h9⟩
 ·rintro⟨h1,h2,h3,h4,h5,h6,h7,h8,h9⟩;exact⟨⟨⟨⟨⟨⟨⟨⟨h1,h2⟩,h3⟩,h4⟩,h5⟩,h6⟩,h7⟩,h8⟩,h9⟩
abbrev cb(s:bg)(l:List bn):bg:={s with heard:=l}
noncomputable def jg(s:bg)(n:Int):bG×Int:=if cd s=0 then if s.heard.length=0 then if(nG n).2=0 then(⟨s,(cV (nG n).1).1,(nG n).1⟩,0)else(p0,(nG n).2)else(p0,580)else(p0,cd s)
noncomputable def j7(p:bG)(h:bn):bG×Int:=if iw p=true then if cd (cb p.cn (p.cn.heard++[h]))=0 then if(lK p.cm (cz h)).2=0 then(⟨cb p.cn (p.cn.heard++[h]),(lK p.cm (cz h)).1,p.cg⟩,0)else(p0,(lK p.cm (cz h)).2)else(p0,1)else(p0,580)
noncomputable def fh(p:bG):bG×Int:=if iw p=true then if(ft p.cm p.cg).2.2=0 then(⟨p.cn,(ft p.cm p.cg).1,(ft p.cm p.cg).2.1⟩,0)else(p0,(ft p.cm p.cg).2.2)else(p0,580)
@[reducible] def uY(d:bV)(n:Int):bV:=⟨d.a_,d.br,n,d.stop⟩
def fQ(p:bG)(n:Int):bV×Int:=(kB (ft p.cm (uY p.cg n)).2.1,(ft p.cm (uY p.cg n)).2.2)
noncomputable def cZ(p:bG)(n:Int):bG×Int:=if iw p=true then if 0<=n/\n<=65536 then if(fQ p n).2=0\/(fQ p n).2=40 then
 (⟨cb p.cn (p.cn.heard.take (cV (fQ p n).1).1.bJ.length),(cV (fQ p n).1).1,(fQ p n).1⟩,0)else(p0,(fQ p n).2)else(p0,1)else(p0,580)
def kG{d:bV}(h:cO d=true):(1<=d.a_.length/\d.a_.length<=4096)/\(∀b∈d.a_,b.length=128)/\ -1<=d.left/\d.left<=65536:=by
 simp[cO]at h;exact⟨by omega,h.2,by omega,by omega⟩
def tt{S:List ah}{L:Int}{st:Bool}(h:1<=S.length/\S.length<=4096)(h2:∀b∈S,b.length=128)(h3: -1<=L)(h4:L<=65536):cO ⟨S,[],L,st⟩=true:=by
 simp[cO];exact⟨by omega,h2⟩
def kT{j:gy}(h:ko j=true):(1<=j.many/\j.many<=4096)/\0<=j.sync/\j.sync<=j.bJ.length/\(aV j.bJ:Int)<=j.many:=by
 simp[ko]at h;exact⟨by omega,by omega,by omega,by omega⟩
def C5{R:List ah}{m y:Int}(h:1<=m/\m<=4096)(h2:0<=y)(h3:y<=R.length)(h4:(aV R:Int)<=m):ko ⟨R,m,y⟩=true:=by
 simp[ko];omega
def Rv{d:bV}(hs:∀b∈d.a_,b.length=128)(hw:∀w∈d.br,0<=w.at_/\w.at_<d.a_.length/\w.data.length=128)(hl:d.left.toNat<d.br.length):(om d).length=d.a_.length/\∀b∈om d,b.length=128:=by
 have hZ:∀w∈d.br.take d.left.toNat,oD d.a_.length w=true:=fun w h=>by
  have:=hw w (List.mem_of_mem_take h);simp[oD];omega
 have h1:=qX hs hZ;have h2:=gW (d.br.take d.left.toNat) d.a_;obtain⟨w,C0⟩:∃w,d.br[d.left.toNat]? =some w:=⟨_,gE hl⟩
 have uU:=hw w (mG C0);unfold om;simp only[List.getD_eq_getElem?_getD,C0,Option.getD_some];refine⟨by rw[List.length_set,h2],fun b hb=>?_⟩;rcases List.mem_or_eq_of_mem_set hb with hb|rfl
 ·exact h1 b hb
 ·obtain⟨o,ho⟩:∃o,(cP d.a_ (d.br.take d.left.toNat))[w.at_.toNat]? =some o:=⟨_,gE oM⟩
  have:=h1 o (mG ho);rw[ho];simp;omega
def yK{S T:List ah}{g:Nat}(h:∀t∈T,num (t.take 4)<=g/\num (t.drop 124)<=g):cB T<=g+1:=by
 suffices ∀(T:List ah) (a:Nat),a<=g->(∀t∈T,num (t.take 4)<=g/\num (t.drop 124)<=g)->T.foldl (fun g s=>max g (max (num (s.take 4)) (num (s.drop 124)))) a<=g by
  have:=this T 0 oM h;unfold cB;omega
 intro T;induction T with
 |nil=>intro a ha _;exact ha
 |cons t T ih=>
  intro a ha ht;have:=ht t (List.mem_cons_self ..);exact ih _ (by dsimp only;omega) fun x hx=>ht x (List.mem_cons_of_mem _ hx)
def OL{g a n:Nat}{b:ah}{k:Nat}(hg:g<4294967296):num ((eQ g a n b k).data.take 4)=g/\num ((eQ g a n b k).data.drop 124)=g:=by
 refine⟨tz hg,?_⟩;show num ((dw _ _ _ _).drop 124)=g;rw[IH (by simp;omega),ud];exact Nat.mod_eq_of_lt hg
theorem Gh{g:Nat}{w:bE}(hg:g<4294967296):∀ {l:List ah} {a:Nat},w∈cq g a l->num (w.data.take 4)=g/\num (w.data.drop 124)=g
 |[],a,h=>by simp[cq]at h
 |b::l,a,h=>by
  simp only[cq,List.mem_append]at h;rcases h with h|h
  ·simp only[iO,List.mem_map,List.mem_range]at h;obtain⟨k,hk,rfl⟩:=h;exact OL hg
  ·exact Gh hg h
theorem BK{t:ah}:∀ {W:List bE} {S:List ah},t∈cP S W->t∈S\/∃w∈W,t=w.data
 |[],S,h=> .inl h
 |w::W,S,h=>by
  rcases BK (W:=W) (S:=S.set w.at_.toNat w.data) h with h|⟨x,hx,rfl⟩
  ·rcases List.mem_or_eq_of_mem_set h with h|rfl
   ·exact .inl h
   ·exact .inr ⟨w,List.mem_cons_self ..,rfl⟩
  ·exact .inr ⟨x,List.mem_cons_of_mem _ hx,rfl⟩
def tf{p:bG}(hp:PG p){n:Int}(h0: -1<=n)(h1:n<=65536):
 ((ft p.cm (uY p.cg n)).2.2=50/\¬cB p.cg.a_<4294967296)\/
 ∃(S:List ah) (q:Nat) (L:Int) (st:Bool),(ft p.cm (uY p.cg n)).2.1=⟨S,[],L,st⟩/\S.length=p.cg.a_.length/\(∀b∈S,b.length=128)/\cB S<=cB p.cg.a_+1/\p.cm.sync<=q/\q<=p.cm.bJ.length/\
  b_ S=p.cm.bJ.take q/\(n=0->(q:Int)=p.cm.sync)/\((n= -1\/(aV (p.cm.bJ.drop p.cm.sync.toNat):Int)<=n)->(q=p.cm.bJ.length/\(ft p.cm (uY p.cg n)).2.2=0))/\cB p.cg.a_<4294967296/\
  (((ft p.cm (uY p.cg n)).2.2=0/\(ft p.cm (uY p.cg n)).1={p.cm with sync:=p.cm.bJ.length}/\st=false/\(n= -1->L= -1))\/(ft p.cm (uY p.cg n)).2.2=40):=by
 obtain⟨cn,⟨R,M,y⟩,⟨S,W,L,st⟩⟩:=p;obtain⟨e1,e2,e3,e4,e5,e6,e7,e8,e9⟩:=hp;simp only at e1 e2 e3 e4 e5 e6 e7 e8 e9⊢;subst e4;subst e5;subst e6;subst e7;obtain⟨⟨d1,d2⟩,d3,d4,d5⟩:=kG e3;obtain⟨⟨j1,j2⟩,j3,j4,j5⟩:=kT e2;simp only at d1 d2 d3 j1 j2 j3 j4 j5;obtain⟨y,rfl⟩:∃m:Nat,y=m:=⟨y.toNat,by omega⟩
 simp only[Int.toNat_natCast]at e9⊢;have p_:cO ⟨S,[],n,false⟩=true:=tt ⟨d1,d2⟩ d3 h0 h1;have ho:cV ⟨S,[],n,false⟩=(⟨b_ S,S.length,(b_ S).length⟩,0):=by unfold cV;rw[if_pos p_];rfl
 by_cases hg:cB S<4294967296
 rotate_left
 ·refine .inl ⟨?_,hg⟩;unfold ft;rw[if_pos e2,if_pos p_,if_neg sI,ho,if_pos rfl,if_neg (fun h=>hg h.2)]
 refine .inr ?_;have WC:=Rs (rs:=R) (y:=y) (L:=n) (st:=false) ⟨d3,d2⟩ e9 oM oM hg;have vZ:=tj R y;have hgS:cB S - 1+1=cB S:=by unfold cB;omega
 have hSg:∀t∈S,num (t.take 4)<=cB S/\num (t.drop 124)<=cB S:=fun t ht=>by have:=Ai ht;omega
 by_cases hy:(y:Int)=R.length
 ·have e:ft ⟨R,S.length,y⟩ ⟨S,[],n,false⟩=(⟨R,S.length,y⟩,⟨S,[],n,false⟩,0):=by
   unfold ft;rw[if_pos e2,if_pos p_,if_neg sI,ho,if_pos rfl,if_pos ⟨by simpa using e9,hg⟩,if_pos hy]
  rw[e];exact⟨S,y,n,false,rfl,rfl,d3,by omega,by omega,by omega,e9,fun _=>rfl,fun _=>⟨by omega,rfl⟩,hg,.inl ⟨rfl,by rw[hy],rfl,fun h=>h⟩⟩
 ·have sE:=pb (cB S) (R.drop y) (aV (R.take y));have uU:∀w∈cq (cB S) (aV (R.take y)) (R.drop y),0<=w.at_/\w.at_<S.length/\w.data.length=128:=fun w hw=>by have:=tE hw;omega
  have NP:DG S n:=⟨d1,d2,d3,h0,h1⟩
  have bQ:j9 ⟨S,cq (cB S) (aV (R.take y)) (R.drop y),n,false⟩=true:=by
   unfold j9;rw[NP.cg uU oM];rfl
  have e:ft ⟨R,S.length,y⟩ ⟨S,[],n,false⟩=if(gX ⟨S,cq (cB S) (aV (R.take y)) (R.drop y),n,false⟩).2=0 then(⟨R,S.length,R.length⟩,(gX ⟨S,cq (cB S) (aV (R.take y)) (R.drop y),n,false⟩).1,0)else(j0,(gX ⟨S,cq (cB S) (aV (R.take y)) (R.drop y),n,false⟩).1,(gX ⟨S,cq (cB S) (aV (R.take y)) (R.drop y),n,false⟩).2):=by
   conv=>lhs;unfold ft
   rw[if_pos e2,if_pos p_,if_neg sI,ho,if_pos rfl,if_pos ⟨by simpa using e9,hg⟩,if_neg hy];rfl
  have LJ:∀w∈cq (cB S) (aV (R.take y)) (R.drop y),num (w.data.take 4)=cB S/\num (w.data.drop 124)=cB S:=fun w hw=>Gh hg hw;generalize hW:cq (cB S) (aV (R.take y)) (R.drop y)=W at *;by_cases ht:0<=n/\n<(W.length:Int)
  ·have es:gX ⟨S,W,n,false⟩=(⟨om ⟨S,W,n,false⟩,[],0,true⟩,40):=by unfold gX;rw[if_pos bQ,if_pos ht]
   obtain⟨t1,t2⟩:=Rv (d:=⟨S,W,n,false⟩) d3 uU (by simp;omega);obtain⟨q,q1,q2,q3,q4⟩:=WC.2 n.toNat oM;rw[Int.toNat_of_nonneg ht.1]at q4;rw[e,es,if_neg (show ¬(40:Int)=0 by decide)];refine⟨_,q,0,true,rfl,t1,t2,?_,by omega,by omega,q4,fun h=>by rw[q3 oM],fun h=>by omega,hg,.inr rfl⟩;refine yK (S:=S) fun t AY=>?_;unfold om at AY;simp only at AY;have J2:∀t∈cP S (W.take n.toNat),num (t.take 4)<=cB S/\num (t.drop 124)<=cB S:=fun t AY=>by
    rcases BK AY with h|⟨w,hw,rfl⟩
    ·exact hSg t h
    ·have:=LJ w (List.mem_of_mem_take hw);omega
   rcases List.mem_or_eq_of_mem_set AY with h|rfl
   ·exact J2 t h
   ·obtain⟨w,C0⟩:∃w,W[n.toNat]? =some w:=⟨_,gE oM⟩
    simp only[List.getD_eq_getElem?_getD,C0,Option.getD_some];have pG:=LJ w (mG C0);have hZ:=uU w (mG C0);obtain⟨o,ho⟩:∃o,(cP S (W.take n.toNat))[w.at_.toNat]? =some o:=⟨_,gE (by rw[gW];omega)⟩
    have ea:=J2 o (mG ho);have tV:=qX (l:=W.take n.toNat) d3 (fun w hw=>by have:=uU w (List.mem_of_mem_take hw);simp[oD];omega) o (mG ho);rw[ho,Option.getD_some];constructor
    ·rw[List.take_append_of_le_length (by simp;omega),List.take_take,show min 4 64=4 by rfl];omega
    ·have hD:(w.data.take 64++o.drop 64).drop 124=o.drop 124:=by
      rw[List.drop_append,List.drop_of_length_le (by simp;omega),List.nil_append,List.drop_drop]
      congr 1;simp;omega
     rw[hD];omega
  ·have es:gX ⟨S,W,n,false⟩=(⟨cP S W,[],if 0<=n then n - W.length else n,false⟩,0):=by unfold gX;rw[if_pos bQ,if_neg ht]
   rw[e,es,if_pos rfl];refine⟨_,R.length,_,false,rfl,gW _ _,qX d3 (fun w hw=>by have:=uU w hw;simp[oD];omega),?_,by omega,by omega,by rw[tL];exact WC.1,fun h=>?_,fun _=>⟨rfl,rfl⟩,hg,.inl ⟨rfl,rfl,rfl,fun h=>by rw[if_neg oM];exact h⟩⟩
   ·refine yK (S:=S) fun t AY=>?_;rcases BK AY with h|⟨w,hw,rfl⟩
    ·exact hSg t h
    ·have:=LJ w hw;omega
   ·have hdl:=lr (R.drop y);rw[List.length_drop]at hdl;omega
def LA{s:bg}{l:List bn}(h:kJ (cb s l)=true)(q:Nat):kJ (cb s (l.take q))=true:=by
 unfold kJ at *;simp only at *;rw[<-List.take_append_drop q l,List.foldlM_append]at h;cases hh:List.foldlM (rI s.sources) 0 (l.take q)with
 |none=>rw[hh]at h;simp at h
 |some v=>rfl
def Rp{s:bg}{l:List bn}(h:cd (cb s l)=0)(q:Nat):cd (cb s (l.take q))=0:=by
 unfold cd at *;split at h
 ·cases h
 ·rename_i hc;simp only at hc;rw[if_neg (by simp only[List.length_take];omega)];split at h
  ·rename_i hb;have qC:uu (cb s (l.take q))=true:=by
    unfold uu at *;simp only[bA]at *;exact⟨⟨⟨hb.1.1.1,hb.1.1.2⟩,hb.1.2⟩,LA hb.2 q⟩
   rw[if_pos qC]
  ·cases h
def uL{p:bG}(hp:PG p){n:Int}(h0:0<=n)(h1:n<=65536)(hg:cB p.cg.a_<4294967296):
 ∃(S:List ah) (q:Nat),cZ p n=(⟨cb p.cn (p.cn.heard.take q),⟨p.cm.bJ.take q,p.cm.many,q⟩,⟨S,[],-1,false⟩⟩,0)/\PG (cZ p n).1/\cB S<=cB p.cg.a_+1/\p.cm.sync<=q/\q<=p.cn.heard.length/\(n=0->(q:Int)=p.cm.sync)/\((aV (p.cm.bJ.drop p.cm.sync.toNat):Int)<=n->q=p.cn.heard.length):=by
 rcases tf hp (n:=n) oM h1 with⟨_,h⟩|⟨S,q,L,st,f1,f2,f3,f4,f5,f6,f7,f8,f9,f10,f11⟩
 ·exact absurd hg h
 obtain⟨⟨d1,d2⟩,d3,d4,d5⟩:=kG hp.cg;obtain⟨⟨j1,j2⟩,j3,j4,j5⟩:=kT hp.cm;have qe:p.cm.bJ.length=p.cn.heard.length:=by rw[hp.bJ,List.length_map]
 have hL:(fQ p n).1=⟨S,[],-1,false⟩:=by unfold fQ;simp only[f1,kB]
 have hE:(fQ p n).2=0\/(fQ p n).2=40:=by
  unfold fQ;rcases f11 with h|h
  ·exact .inl h.1
  ·exact .inr h
 have p_:cO ⟨S,[],-1,false⟩=true:=tt oM f3 oM oM;have hO:cV (fQ p n).1=(⟨p.cm.bJ.take q,p.cm.many,q⟩,0):=by
  rw[hL];unfold cV;rw[if_pos p_,if_neg sI,if_pos sI];simp only[f7,f2,hp.many,List.length_take,Nat.min_eq_left f6]
 have hC:cZ p n=(⟨cb p.cn (p.cn.heard.take q),⟨p.cm.bJ.take q,p.cm.many,q⟩,⟨S,[],-1,false⟩⟩,0):=by
  unfold cZ;rw[if_pos ((eg p).2 hp),if_pos ⟨h0,h1⟩,if_pos hE,hO,hL];simp only[List.length_take,Nat.min_eq_left f6]
 refine⟨S,q,hC,?_,f4,f5,by omega,f8,fun h=>by rw[<-qe];exact(f9 (.inr h)).1⟩;rw[hC];refine⟨Rp hp.cn q,C5 ⟨j1,j2⟩ oM (by simp;omega) (by have:=nP p.cm.bJ q;omega),p_,rfl,rfl,rfl,by rw[hp.many,f2],?_,?_⟩
 ·simp only[hp.bJ,List.map_take]
 ·simp only[f7,Int.toNat_natCast,List.take_take,Nat.min_self]
def zB{p:bG}(hp:PG p)(hg:cB p.cg.a_<4294967296):
 ∃S:List ah,fh p=(⟨p.cn,{p.cm with sync:=p.cm.bJ.length},⟨S,[],-1,false⟩⟩,0)/\PG (fh p).1/\cB S<=cB p.cg.a_+1:=by
 rcases tf hp (n:= -1) oM oM with⟨_,h⟩|⟨S,q,L,st,f1,f2,f3,f4,f5,f6,f7,f8,f9,f10,f11⟩
 ·exact absurd hg h
 obtain⟨⟨d1,d2⟩,d3,d4,d5⟩:=kG hp.cg;obtain⟨⟨j1,j2⟩,j3,j4,j5⟩:=kT hp.cm;have hd:uY p.cg (-1)=p.cg:=by unfold uY;rw[<-hp.left]
 obtain⟨g1,g2⟩:=f9 (.inl rfl);subst g1;rw[hd]at f1 g2 f11;rcases f11 with⟨k1,k2,k3,k4⟩|h
 rotate_left
 ·rw[h]at g2;cases g2
 have hS:fh p=(⟨p.cn,{p.cm with sync:=p.cm.bJ.length},⟨S,[],-1,false⟩⟩,0):=by
  unfold fh;rw[if_pos ((eg p).2 hp),if_pos k1,k2,f1,k3,k4 rfl]
 have p_:cO ⟨S,[],-1,false⟩=true:=tt oM f3 oM oM;refine⟨S,hS,?_,f4⟩;rw[hS];exact⟨hp.cn,C5 ⟨j1,j2⟩ oM oM j5,p_,rfl,rfl,rfl,by rw[f2];exact hp.many,hp.bJ,by simpa using f7⟩
def Hi{p:bG}{h:bn}(hp:PG p)(hh:(j7 p h).2=0):j7 p h=(⟨cb p.cn (p.cn.heard++[h]),{p.cm with bJ:=p.cm.bJ++[cz h]},p.cg⟩,0)/\PG (j7 p h).1:=by
 have h0:=hh;unfold j7 at hh;rw[if_pos ((eg p).2 hp)]at hh;split at hh
 rotate_left
 ·cases hh
 rename_i hs;split at hh
 rotate_left
 ·exact absurd hh ‹_›
 rename_i ha;obtain⟨⟨j1,j2⟩,j3,j4,j5⟩:=kT hp.cm;have hA:lK p.cm (cz h)=(⟨p.cm.bJ++[cz h],p.cm.many,p.cm.sync⟩,0)/\¬(p.cm.many - (aV p.cm.bJ:Int))<bm (cz h):=by
  unfold lK at ha⊢;rw[if_pos hp.cm]at ha⊢;split at ha
  ·cases ha
  ·rename_i hc;exact⟨by rw[if_neg hc],hc⟩
 have hE:j7 p h=(⟨cb p.cn (p.cn.heard++[h]),{p.cm with bJ:=p.cm.bJ++[cz h]},p.cg⟩,0):=by
  unfold j7;rw[if_pos ((eg p).2 hp),if_pos hs,if_pos ha,hA.1]
 refine⟨hE,?_⟩;rw[hE];have hu:aV (p.cm.bJ++[cz h])=aV p.cm.bJ+bm (cz h):=by simp[aV]
 refine⟨hs,C5 ⟨j1,j2⟩ j3 (by simp;omega) (by rw[hu];omega),hp.cg,hp.stop,hp.br,hp.left,hp.many,by simp[hp.bJ],?_⟩;simp only;rw[List.take_append_of_le_length oM];exact hp.read
def zG(n:Nat):b_ (List.replicate n dD)=[]:=by
 unfold b_ jC;rw[List.length_replicate];cases n with
 |zero=>rfl
 |succ n=>
  have hx:(List.replicate (n+1) dD)[0]? =some dD:=by simp
  have hb:gH dD 0=false:=by
   unfold gH sP;have:gen dD=0:=by unfold gen dD;rw[List.take_replicate];rfl
   simp[this]
  rw[kY,List.length_replicate,Nat.sub_zero,qY hx,hb];rfl
def G1(n:Nat):cB (List.replicate n dD)=1:=by
 have:=yK (S:=[]) (T:=List.replicate n dD) (g:=0) fun t ht=>by
  obtain⟨_,rfl⟩:=List.mem_replicate.1 ht;unfold dD;rw[List.take_replicate,List.drop_replicate];exact⟨by decide,by decide⟩
 have h2:1<=cB (List.replicate n dD):=by unfold cB;omega
 omega
def KB{s:bg}{n:Int}(h:(jg s n).2=0):1<=n/\n<=4096/\jg s n=(⟨s,⟨[],n,0⟩,⟨List.replicate n.toNat dD,[],-1,false⟩⟩,0)/\PG (jg s n).1/\s.heard=[]/\cd s=0:=by
 have h0:=h;unfold jg at h;split at h
 rotate_left
 ·exact absurd h ‹_›
 rename_i hs;split at h
 rotate_left
 ·cases h
 rename_i hh;have hh2:s.heard=[]:=List.length_eq_zero_iff.1 hh;by_cases hn:1<=n/\n<=4096
 rotate_left
 ·have:nG n=(d0,1):=by unfold nG;rw[if_neg hn]
  rw[this,if_neg (by decide)]at h;cases h
 have hN:nG n=(⟨List.replicate n.toNat dD,[],-1,false⟩,0):=by unfold nG;rw[if_pos hn]
 have p_:cO ⟨List.replicate n.toNat dD,[],-1,false⟩=true:=tt (by simp;omega) (fun b hb=>by obtain⟨_,rfl⟩:=List.mem_replicate.1 hb;exact rY) oM oM;have hO:cV ⟨List.replicate n.toNat dD,[],-1,false⟩=(⟨[],n,0⟩,0):=by
  unfold cV;rw[if_pos p_,if_neg sI,if_pos sI];simp only[zG,List.length_replicate,List.length_nil];rw[Int.toNat_of_nonneg oM];rfl
 have hE:jg s n=(⟨s,⟨[],n,0⟩,⟨List.replicate n.toNat dD,[],-1,false⟩⟩,0):=by
  unfold jg;rw[if_pos hs,if_pos hh,hN,if_pos rfl,hO]
 refine⟨hn.1,hn.2,hE,?_,hh2,hs⟩;rw[hE];exact⟨hs,C5 hn oM sI (by simp[aV];omega),p_,rfl,rfl,rfl,by simp;omega,by simp[hh2],by simp[zG]⟩
end Go.V.Jn
