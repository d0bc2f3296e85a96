/- Journals: the program opens one and appends to one. -/
import Derived.Test.YtkgloohlmogakaaGreatDoorB29
import Derived.Test.YtkgloohlmogakaaGreatDoorB28
set_option linter.unusedSimpArgs false
set_option linter.unusedVariables false
set_option maxRecDepth 100000
namespace Go.V.Jn
open Go.Proofs Go.RowKit Go.V.Lx Go.V.Gr Go.V.Ty Go.V.St
def bU(l:List ah):List ah:=(gk l).map (·.1)
abbrev j0:fO:=⟨[],0,0⟩
def cJ(d:bT):fO×Int:=if cG d=true then(if d.stop=true then(j0,40)else if d.pend.length=0 then(⟨bU d.secs,d.secs.length,(bU d.secs).length⟩,0)else(j0,1))else(j0,40)
theorem IC(l:List ah):bk (.sl 1 (l.map jS)) (.sl 1 (l.map bj)):=by
 have h1:∀(i:Nat) x x',(l.map jS)[i]? =some x->(l.map bj)[i]? =some x'->∃s:ah,x=jS s/\x'=bj s:=fun i x x' hx hx'=>by
  rw[List.getElem?_map,Option.map_eq_some_iff]at hx hx';obtain⟨s,hs,rfl⟩:=hx;obtain⟨s',hs',rfl⟩:=hx';rw[hs]at hs';injection hs' with hs';subst hs';exact⟨s,rfl,rfl⟩
 refine .sl sI (fun i x x' hx hx'=>?_) fun i x x' j c c' hx hx' hc hc'=>?_
 ·obtain⟨s,rfl,rfl⟩:=h1 i x x' hx hx';unfold jS;split<;>rfl
 ·obtain⟨s,rfl,rfl⟩:=h1 i x x' hx hx';by_cases hs:s=[]
  ·subst hs;cases j<;>simp[jS,D.cells]at hc hc';subst hc;subst hc';exact .nil _
  ·rw[jS,if_neg hs]at hc;cases j<;>simp[D.cells]at hc hc';subst hc;subst hc';exact .refl _
theorem ux(l:List ah):(gk l).length<=l.length:=by
 unfold gk;suffices ∀f a last,a<=l.length->(jy l f a last).length<=l.length - a by simpa using this l.length 0 0 oM
 intro f;induction f with
 |zero=>intro a last h;simp[jy]
 |succ f ih=>
  intro a last h;rw[jz];split
  ·simp
  ·rename_i b n hr;have:=ky hr;simp only at this;have:=ih n (gen (l.getD a [])) oM;simp only[List.length_cons];omega
theorem GF(l:List ah):D.aF (l.map jS)=true:=by rw[cA];simp only[List.all_eq_true];intro x _;unfold jS;split<;>rfl
set_option maxHeartbeats 1000000 in
instance Mf(d:bT):Ct Tryz.prog 36 [d.d] (okD d) (.tup [(cJ d).1.d,I (cJ d).2]):=by
 refine IU (fn:=Tryz.f36) (n:=41) [] [.cell 2 36,.tmp 3] fun pre=>?_;generalize hR:cJ d=R;unfold cJ at hR;have hlen:=ux d.secs;by_cases h1:cG d=true
 rotate_left
 ·rw[if_neg h1]at hR;subst hR;repeat' first|exact zQ|with_reducible refine zJ (fun _=>?_) fun _=>?_|refine zK ?_|fail
  exact wk
 rw[if_pos h1]at hR;have hok:MC d.secs:=by
  simp[cG]at h1;exact⟨by omega,h1.2⟩
 have hl2:=hok.1;replace hR:Hid _:=hR;repeat' first|exact zQ|with_reducible refine zJ (fun _=>?_) fun _=>?_|refine zK ?_|fail
 all_goals first|(rw[<-hR.out,if_pos (by assumption)];exact wk)|(rw[<-hR.out,if_neg (by simp[*]),if_neg oM];exact wk)|skip
 obtain rfl:=(hR.out.symm.trans (if_neg (by simp[*]))).trans (if_pos oM);refine GG 138 [.cref (.sl 1 (d.secs.map bj)) 0] _ 78 (fun n bx'=>∃x,bx' 2=⟨1,1,3,36,[.agg [x,I d.secs.length,I 0]]⟩/\aW bx' [34] 71 1 x (((gk d.secs).take n).map fun p=>jS p.1)) rfl sG (D7 d.secs hok) ?_ ?_ ?_
 ·exact⟨.nilsl,by simp[go_sem,bp],.nil _ _ _ _⟩
 ·intro n it bx1 hi ⟨x,h2,hv⟩;rw[List.getElem?_map,Option.map_eq_some_iff]at hi;obtain⟨p,hp,rfl⟩:=hi;rw[gB oM]at h2;replace hv:=hv.tv (fun t ht=>by simp at ht;omega);have hf:=hv.facts;have hn:=(List.getElem?_eq_some_iff.1 hp).1;have hbs:(jS p.1).cells=[jS p.1]/\(jS p.1).one=true/\(jS p.1).pure=true:=by unfold jS;split<;>exact⟨rfl,rfl,rfl⟩
  unfold D6;refine⟨rfl,?_⟩;repeat' first|exact zQ|with_reducible refine zJ (fun _=>?_) fun _=>?_|refine zK ?_|fail
  refine app [34] hv (fun x' β hv'=>?_) (by simp;omega);have hf':=hv'.facts;repeat' first|exact zQ|with_reducible refine zJ (fun _=>?_) fun _=>?_|refine zK ?_|fail
  refine⟨fun s h1 h2=>by rw[if_neg oM,if_pos oM,if_neg oM],x',rfl,?_⟩;rw[List.take_add_one,hp,Option.toList_some,List.map_append];exact hv'.of fun t ht=>by simp at ht;subst ht;simp[bp,ao,aY,cm]
 ·intro bx1 ⟨x,h2,hv⟩;rw[gB oM]at h2;replace hv:=hv.tv (fun t ht=>by simp at ht;omega);rw[List.length_map,List.take_length]at hv;have hf:=hv.facts;have hll:=hv.len 71 24 false;rw[List.length_map]at hll;have hR2:((bU d.secs).length:Int)=(gk d.secs).length:=by simp[bU]
  have hmm:(gk d.secs).map (fun p=>jS p.1)=(bU d.secs).map jS:=by simp[bU,Function.comp_def]
  have hfin:∀r,bk r (.sl 1 ((bU d.secs).map bj))->bk (.tup [.agg [r,I d.secs.length,I (gk d.secs).length],I 0]) (.tup [fO.d ⟨bU d.secs,d.secs.length,(gk d.secs).length⟩,I 0]):=fun r hr=>
   pv (.cons (fj (.cons hr (.cons (.refl _) (.cons (.refl _) .nil)))) (.cons (.refl _) .nil))
  rcases hv with⟨rfl,he⟩|⟨t,e,ht,rfl,hb⟩
  ·have:bU d.secs=[]:=by rw[hmm]at he;simpa using he
   replace this:Hid _:=this;repeat' first|exact zQ|with_reducible refine zJ (fun _=>?_) fun _=>?_|refine zK ?_|fail
   refine hfin _ ?_;rw[this.out];exact .nil _
  ·simp at ht;subst ht;rw[List.length_map]at *;have ho:lx ⟨e,1,1,71,(bU d.secs).map jS⟩ e 1 0 (gk d.secs).length=some (.sl 1 ((bU d.secs).map jS)):=by exact cU _ _ _ _ _ _ (by decide) (by simp[bU]) (GF _)
   repeat' first|exact zQ|with_reducible refine zJ (fun _=>?_) fun _=>?_|refine zK ?_|fail
   exact hfin _ (IC _)
def il(j:fO)(b:ah):fO×Int:=if jV j=true then(if(j.many - (aS j.recs:Int))<bn b then(j0,2)else(⟨j.recs++[b],j.many,j.sync⟩,0))else(j0,1)
set_option maxHeartbeats 1000000 in
instance(j:fO)(b:ah):Ct Tryz.prog 41 [j.d,bj b] (o0 j.recs/\b.length<=1099511627776/\j.recs.length<=1048576) (.tup [(il j b).1.d,I (il j b).2]):=by
 refine IU (fn:=Tryz.f41) (n:=32) [(3000029,[]),(4,[(7,5),(7,3),(5,2)])] [.cell 4 36,.tmp 5] fun pre=>?_;obtain⟨p1,p2,p3⟩:=pre;generalize hR:il j b=R;unfold il at hR;have hb:Lm b:=by simp[Lm];omega
 have h2:bn b<=1099511627776/\b.length<=112 * bn b:=by unfold bn;omega
 by_cases h1:jV j=true
 rotate_left
 ·rw[if_neg h1]at hR;subst hR;repeat' first|exact zQ|with_reducible refine zJ (fun _=>?_) fun _=>?_|refine zK ?_|fail
  exact wk
 rw[if_pos h1]at hR;have hm:j.many<=4096/\1<=j.many:=by simp[jV]at h1;omega
 have hw:IntKind.i64.wrap (j.many - (aS j.recs:Int))=j.many - (aS j.recs:Int):=iL _ oM oM;by_cases c:j.many - (aS j.recs:Int)<(bn b:Int)
 ·rw[if_pos c]at hR;subst hR;repeat' first|exact zQ|with_reducible refine zJ (fun _=>?_) fun _=>?_|refine zK ?_|fail
  exact wk
 rw[if_neg c]at hR;have hpre:(aV b).length<=1048576/\D.aF (aV b)=true:=⟨by
  have:b.length<=1048576:=oM;simpa[aV]using this,mL b⟩
 have hc:((j.recs.map bj).length+[bj b].length) * 24<=140737488355328:=by simp;omega
 have ho:lx ⟨1,1,1,71,j.recs.map bj++[bj b]⟩ 1 1 0 (j.recs.length+1)=some (.sl 1 ((j.recs++[b]).map bj)):=by
  rw[show j.recs.map bj++[bj b]=(j.recs++[b]).map bj by simp];exact cU _ _ _ _ _ _ (by decide) sI (by rw[cA];simp[D.pure])
 subst hR;repeat' first|exact zQ|with_reducible refine zJ (fun _=>?_) fun _=>?_|refine zK ?_|fail
 exact⟨wk,wk⟩
section
variable (S:List ah) (W:List bA) (L:Int) (st:Bool)
instance (priority:=low):Ct Tryz.prog 73 [.agg [.sl 1 (S.map bj),.sl 2 (W.map bA.d),I L,.bool st]] (okD ⟨S,W,L,st⟩) (I (if cG ⟨S,W,L,st⟩then 0 else 40)):=R1 ⟨S,W,L,st⟩
instance (priority:=low)(a:Int)(b:ah):Ct Tryz.prog 99 [.agg [.sl 1 (S.map bj),.sl 2 (W.map bA.d),I L,.bool st],I a,bj b] (okD ⟨S,W,L,st⟩) (.tup [(oI ⟨S,W,L,st⟩ a b).1.d,I (oI ⟨S,W,L,st⟩ a b).2]):=R3 ⟨S,W,L,st⟩ a b
instance (priority:=low):Ct Tryz.prog 101 [.agg [.sl 1 (S.map bj),.sl 2 (W.map bA.d),I L,.bool st]] (okD ⟨S,W,L,st⟩) (.tup [(gT ⟨S,W,L,st⟩).1.d,I (gT ⟨S,W,L,st⟩).2]):=R2 ⟨S,W,L,st⟩
instance (priority:=low):Ct Tryz.prog 36 [.agg [.sl 1 (S.map bj),.sl 2 (W.map bA.d),I L,.bool st]] (okD ⟨S,W,L,st⟩) (.tup [(cJ ⟨S,W,L,st⟩).1.d,I (cJ ⟨S,W,L,st⟩).2]):=Mf ⟨S,W,L,st⟩
end
def bQ(l:List ah):Nat:=l.foldl (fun g s=>max g (max (num (s.take 4)) (num (s.drop 124)))) 0+1
def ic(k n:Nat):UInt8:=if k=0 then(if n=1 then 3 else 1)else if k+1=n then 2 else 0
def dX(g a n:Nat)(b:ah)(k:Nat):bA:=⟨(a+k:Nat),dj g (a+k) (ic k n) ((b.drop (112 * k)).take 112)⟩
def iD(g a:Nat)(b:ah):List bA:=(List.range (bn b)).map (dX g a (bn b) b)
def bP(g:Nat):Nat->List ah->List bA
 |_,[]=>[]
 |a,b::l=>iD g a b++bP g (a+bn b) l
theorem kA(g a:Nat)(b:ah):(iD g a b).length=bn b:=by simp[iD]
theorem y4(g:Nat):∀(l m:List ah) (a:Nat),bP g a (l++m)=bP g a l++bP g (a+aS l) m
 |[],m,a=>by simp[bP,aS]
 |b::l,m,a=>by simp only[List.cons_append,bP,y4 g l m,aS,List.map_cons,List.sum_cons,List.append_assoc,Nat.add_assoc]
theorem nT(g:Nat):∀(l:List ah) (a:Nat),(bP g a l).length=aS l
 |[],a=>rfl
 |b::l,a=>by simp[bP,kA,nT g l,aS]
def eI(j:fO)(d:bT):fO×bT×Int:=
 if jV j=true then if cG d=true then if ¬j.many=d.secs.length/\d.stop=false then(j0,d0,1)else
  if(cJ d).2=0 then if bU d.secs=j.recs.take j.sync.toNat/\bQ d.secs<4294967296 then
   if j.sync=j.recs.length then(j,d,0)else
    if(gT {d with pend:=bP (bQ d.secs) (aS (j.recs.take j.sync.toNat)) (j.recs.drop j.sync.toNat)}).2=0 then
     ({j with sync:=j.recs.length},(gT {d with pend:=bP (bQ d.secs) (aS (j.recs.take j.sync.toNat)) (j.recs.drop j.sync.toNat)}).1,0)
    else(j0,(gT {d with pend:=bP (bQ d.secs) (aS (j.recs.take j.sync.toNat)) (j.recs.drop j.sync.toNat)}).1,(gT {d with pend:=bP (bQ d.secs) (aS (j.recs.take j.sync.toNat)) (j.recs.drop j.sync.toNat)}).2)
  else(j0,d0,50)else(j0,d0,(cJ d).2)else(j0,d0,40)else(j0,d0,1)
theorem Hl{l:List ah}{j:Nat}{x:ah}(h:l[j]? =some x):bQ (l.take (j+1))=max (bQ (l.take j)) (max (num (x.take 4)+1) (num (x.drop 124)+1)):=by rw[List.take_add_one,h];simp[bQ,List.foldl_append];try omega
theorem LL(l:List ah)(h:∀s∈l,s.length=128):bQ l<=4294967296:=by
 suffices ∀(l:List ah) (g:Nat),(∀s∈l,s.length=128)->g<4294967296->l.foldl (fun g s=>max g (max (num (s.take 4)) (num (s.drop 124)))) g<4294967296 by
  have:=this l 0 h oM;unfold bQ;omega
 intro l;induction l with
 |nil=>intro g _ h;exact h
 |cons s l ih=>
  intro g hs hg;have h1:=oe (s.take 4);have h2:=oe (s.drop 124);have h3:=hs s (List.mem_cons_self ..);rw[List.length_take,h3]at h1;rw[List.length_drop,h3]at h2;refine ih _ (fun x hx=>hs x (List.mem_cons_of_mem _ hx)) ?_;simp at h1 h2;dsimp only;omega
theorem rl(l:List ah)(n:Nat):aS l=aS (l.take n)+aS (l.drop n):=by rw[aS,aS,aS,<-List.sum_append,<-List.map_append,List.take_append_drop]
theorem x8{g a n k:Nat}{b:ah}:(dX g a n b k).data.length=128:=qY (by simp;omega)
theorem AV{g a:Nat}{b:ah}{w:bA}(h:w∈iD g a b):(a:Int)<=w.at_/\w.at_<(a+bn b:Nat)/\w.data.length=128:=by
 simp only[iD,List.mem_map,List.mem_range]at h;obtain⟨k,hk,rfl⟩:=h;exact⟨by simp only[dX];omega,by simp only[dX];omega,x8⟩
theorem qd{g:Nat}{w:bA}:∀ {l:List ah} {a:Nat},w∈bP g a l->(a:Int)<=w.at_/\w.at_<(a+aS l:Nat)/\w.data.length=128
 |[],a,h=>by simp[bP]at h
 |b::l,a,h=>by
  simp only[bP,List.mem_append]at h;have hu:aS (b::l)=bn b+aS l:=by simp[aS]
  rcases h with h|h
  ·have:=AV h;omega
  ·have:=qd h;omega
structure DG(S:List ah)(L:Int):Prop where
 a:1<=S.length
 b:S.length<=4096
 c:∀x∈S,x.length=128
 d: -1<=L
 e:L<=65536
theorem DG.bF{S:List ah}{L:Int}(h:DG S L){W:List bA}(hw:∀w∈W,0<=w.at_/\w.at_<S.length/\w.data.length=128)(hl:W.length<=4096){st:Bool}:cG ⟨S,W,L,st⟩=true:=by
 obtain⟨a,b,c,d,e⟩:=h;simp only[cG,Bool.and_eq_true,decide_eq_true_eq,List.all_eq_true];exact⟨⟨⟨⟨⟨⟨a,b⟩,hl⟩,d⟩,e⟩,fun w h=>by simp only[oG,Bool.and_eq_true,decide_eq_true_eq];exact⟨⟨(hw w h).1,(hw w h).2.1⟩,(hw w h).2.2⟩⟩,c⟩
theorem IF{S:List ah}{L:Int}(h:DG S L){W:List bA}(hw:∀w∈W,0<=w.at_/\w.at_<S.length/\w.data.length=128)(hl:W.length<4096){a:Int}{b:ah}(ha:0<=a)(ha2:a<S.length)(hb:b.length=128):
 oI ⟨S,W,L,false⟩ a b=(⟨S,W++[⟨a,b⟩],L,false⟩,0):=by
 have h1:jd ⟨S,W,L,false⟩=true:=by simp[jd,h.bF hw oM]
 have h2:hasB ⟨S,W,L,false⟩ a=true:=by simp[hasB,ha,ha2]
 have h3:mQ b=b:=by simp[mQ,hb]
 unfold oI;rw[if_pos ⟨h1,h2⟩,if_pos oM,if_neg (show ¬W.length=4096 by omega),h3]
theorem F4{g a k:Nat}{b:ah}(h:k<bn b):(iD g a b).take (k+1)=(iD g a b).take k++[dX g a (bn b) b k]:=by rw[List.take_add_one,iD,List.getElem?_map,List.getElem?_range h];rfl
end Go.V.Jn
namespace Go.V.Jn
open Go.Proofs Go.RowKit Go.V.Lx Go.V.Gr Go.V.Ty Go.V.St
theorem B8:∀(a b:List ah),a.length=b.length->decide (a=b)=(a.zip b).all fun p=>p.1==p.2
 |[],[],_=>rfl
 |x::a,y::b,h=>by
  rw[List.zip_cons_cons,List.all_cons,<-B8 a b (by simpa using h),Bool.eq_iff_iff];simp
instance(a b:List ah):Ct Tryz.prog 51 [.sl 1 (a.map bj),.sl 1 (b.map bj),.fn (.func 52) []] (Lm a/\Lm b) (.bool (decide (a=b))):=by
 refine bm (fn:=Tryz.f51) [] [.tmp 6] fun pre=>?_;obtain⟨h1,h2⟩:=pre;by_cases hl:a.length=b.length
 rotate_left
 ·have hc:¬(a.length:Int)=b.length:=oM;have he:decide (a=b)=false:=decide_eq_false fun h=>hl (by rw[h]);rw[he];repeat' first|exact zQ|with_reducible refine zJ (fun _=>?_) fun _=>?_|refine zK ?_|fail
 rw[B8 a b hl];have hz:(a.zip b).length=a.length:=by simp;omega
 generalize hA:List.all _ _=A;have hc:(b.length:Int)=a.length:=oM;clear hl;repeat' first|exact zQ|with_reducible refine zJ (fun _=>?_) fun _=>?_|refine zK ?_|fail
 refine fS (a.zip b) hA 17 [(6,9),(17,31)] [] (by simp[Lm];omega) sG (fun j x τ β hx hj hw hi hno=>?_) fun τ β hn hi ha=>?_
 ·rw[List.getElem?_zip_eq_some]at hx;obtain⟨hx1,hx2⟩:=hx;rw[hz]at hj;clear hA hz;repeat' first|exact zQ|with_reducible refine zJ (fun _=>?_) fun _=>?_|refine zK ?_|fail
  all_goals first|with_reducible exact .refl _|(refine ab ?_;have hno:=hno.out zz;simp[*];done)|((try refine ab ?_);exact zz)
 ·rw[hz]at hn hi;repeat' first|exact zQ|with_reducible refine zJ (fun _=>?_) fun _=>?_|refine zK ?_|fail
  all_goals first|with_reducible exact .refl _|(refine ab ?_;have hno:=hno.out zz;simp[*];done)|((try refine ab ?_);exact zz)
instance (priority:=low)(rs:List ah)(M y:Int):Ct Tryz.prog 48 [.agg [.sl 1 (rs.map bj),I M,I y]] (o0 rs) (I (if jV ⟨rs,M,y⟩then 0 else 1)):=Sx ⟨rs,M,y⟩
instance (priority:=low)(a l:List ah)(n:Nat):Ct Tryz.prog 51 [.sl 1 (a.map bj),.sl 1 (List.take n (l.map bj)),.fn (.func 52) []] (Lm a/\Lm (l.take n)) (.bool (decide (a=l.take n))):=by rw[<-List.map_take];infer_instance
instance (priority:=low)(l:List ah)(n:Nat):Ct Tryz.prog 80 [.sl 1 (List.take n (l.map bj))] (o0 (l.take n)) (I (aS (l.take n))):=by rw[<-List.map_take];infer_instance
abbrev MF(r:fO×bT×Int):D:=.tup [r.1.d,r.2.1.d,I r.2.2]
set_option maxHeartbeats 8000000 in
theorem Cy(rs:List ah)(M y:Int)(S:List ah)(W:List bA)(L:Int)(st:Bool)(hu:o0 rs)(hd:okD ⟨S,W,L,st⟩):aq Tryz.prog 58 [fO.d ⟨rs,M,y⟩,bT.d ⟨S,W,L,st⟩] (MF (eI ⟨rs,M,y⟩ ⟨S,W,L,st⟩)):=by
 suffices Ct Tryz.prog 58 [fO.d ⟨rs,M,y⟩,bT.d ⟨S,W,L,st⟩] True (MF (eI ⟨rs,M,y⟩ ⟨S,W,L,st⟩))from this.h trivial
 refine bm (fn:=Tryz.f58) [(21,[(3,2)]),(33,[(14,6)]),(41,[(4,2)]),(43,[(3,2)])] [.cell 4 36,.cell 5 39,.tmp 6] fun pre=>?_;generalize hR:eI ⟨rs,M,y⟩ ⟨S,W,L,st⟩=R;unfold eI at hR;by_cases h1:jV ⟨rs,M,y⟩=true
 rotate_left
 ·rw[if_neg h1]at hR;subst hR;repeat' first|exact zQ|with_reducible refine zJ (fun _=>?_) fun _=>?_|refine zK ?_|fail
  exact wk
 rw[if_pos h1]at hR;by_cases h2:cG ⟨S,W,L,st⟩=true
 rotate_left
 ·rw[if_neg h2]at hR;subst hR;repeat' first|exact zQ|with_reducible refine zJ (fun _=>?_) fun _=>?_|refine zK ?_|fail
  exact wk
 rw[if_pos h2]at hR;simp only at hR;have hop:Hid _:=(rfl:cJ ⟨S,W,L,st⟩=cJ ⟨S,W,L,st⟩)
 obtain⟨s1,s2,s3,s4⟩:1<=S.length/\S.length<=4096/\(∀b∈S,b.length=128)/\W.length<=4096:=by
  simp[cG]at h2;exact⟨by omega,by omega,h2.2,by omega⟩
 obtain⟨m1,m2,m3,m4,m5⟩:1<=M/\M<=4096/\0<=y/\y<=rs.length/\(aS rs:Int)<=M:=by simp[jV]at h1;exact⟨by omega,by omega,by omega,by omega,by omega⟩
 by_cases h3:¬M=S.length/\st=false
 ·rw[if_pos h3]at hR;subst hR;obtain⟨h3,rfl⟩:=h3;repeat' first|exact zQ|with_reducible refine zJ (fun _=>?_) fun _=>?_|refine zK ?_|fail
  exact wk
 rw[if_neg h3]at hR;cases hs:st
 rotate_left
 ·subst hs;have ho:cJ ⟨S,W,L,true⟩=(j0,40):=by simp[cJ,h2]
  rw[ho]at hR;simp only[if_neg (show ¬(40:Int)=0 by decide)]at hR;subst hR;clear hop h3 s3;repeat' first|exact zQ|with_reducible refine zJ (fun _=>?_) fun _=>?_|refine zK ?_|fail
  all_goals exact wk
 subst hs;have hM:M=S.length:=by simpa using h3
 subst hM;clear h3 hop;by_cases h4:W.length=0
 rotate_left
 ·have ho:cJ ⟨S,W,L,false⟩=(j0,1):=by simp[cJ,h2];intro h;exact absurd (by simp[h]) h4
  rw[ho]at hR;simp only[if_neg (show ¬(1:Int)=0 by decide)]at hR;subst hR;clear s3;repeat' first|exact zQ|with_reducible refine zJ (fun _=>?_) fun _=>?_|refine zK ?_|fail
  all_goals exact wk
 have hW:Hid (W=[]):=List.length_eq_zero_iff.1 h4;have hw0:¬(0:Int)<W.length:=oM;have ho:cJ ⟨S,W,L,false⟩=(⟨bU S,S.length,(bU S).length⟩,0):=by have:=hW.out;subst this;simp[cJ,h2]
 rw[ho]at hR;simp only[if_true]at hR;have hDG:Hid (DG S L):=⟨s1,s2,s3,by simp[cG]at h2;omega,by simp[cG]at h2;omega⟩
 clear h4 s4;replace hR:Hid _:=hR;repeat' first|exact zQ|with_reducible refine zJ (fun _=>?_) fun _=>?_|refine zK ?_|fail
 generalize hG:bQ S=G at *;have hG1:=LL S s3;refine bO S [(10,10),(12,12),(59,73)] [] (fun i τ _=>τ 59=I i/\τ 10= .int .u64 (bQ (S.take i))) (by simp[Lm];omega) ⟨by simp[go_sem],by simp[go_sem,bQ]⟩ (fun i x τ β hx hj hw hi=>?_) fun τ β hn hi=>?_
 ·obtain⟨h59,h10⟩:=hi;have hg:=Hl hx;have hxl:=s3 x (List.mem_of_getElem? hx);have hd4:(x.drop 124).take 4=x.drop 124:=List.take_of_length_le (by simp;omega);have l1:(x.take 4).length<=8:=by simp;omega
  have l2:(x.drop 124).length<=8:=by simp;omega
  have n1:num (x.take 4)<4294967296:=by have:=oe (x.take 4);simp[hxl]at this;omega
  have n2:num (x.drop 124)<4294967296:=by have:=oe (x.drop 124);simp[hxl]at this;omega
  have w1:IntKind.u64.wrap ((num (x.take 4):Int)+1)=((num (x.take 4)+1:Nat):Int):=by rw[show(num (x.take 4):Int)+1=((num (x.take 4)+1:Nat):Int) by simp,dZ rfl (by simp[IntKind.bits];omega)]
  have w2:IntKind.u64.wrap ((num (x.drop 124):Int)+1)=((num (x.drop 124)+1:Nat):Int):=by rw[show(num (x.drop 124):Int)+1=((num (x.drop 124)+1:Nat):Int) by simp,dZ rfl (by simp[IntKind.bits];omega)]
  clear s3 hR ho h1 h2;repeat' first|exact zQ|with_reducible refine zJ (fun _=>?_) fun _=>?_|refine zK ?_|fail
  exact congrArg (D.int .u64) oM
 ·obtain⟨h59,h10⟩:=hi;rw[List.take_length,hG]at h10;rw[hG]at hG1;refine fresh (fun σ' B=>σ' 2= .loc 2 1 0 0/\σ' 3= .loc 3 1 0 0/\σ' 4= .loc 4 1 0 0/\σ' 5= .loc 5 1 0 0/\σ' 9= .loc 9 1 0 0/\σ' 10= .int .u64 G/\σ' 58=I S.length/\σ' 59=I S.length/\
   B 2=⟨1,1,3,36,[fO.d ⟨rs,S.length,y⟩]⟩/\B 3=⟨1,1,4,39,[bT.d ⟨S,W,L,false⟩]⟩/\B 4=⟨1,1,3,36,[.agg [.nilsl,I 0,I 0]]⟩/\B 5=⟨1,1,4,39,[.agg [.nilsl,.nilsl,I 0,.bool false]]⟩/\B 9=⟨1,1,3,36,[fO.d ⟨bU S,S.length,(bU S).length⟩]⟩)
   ⟨by simp[go_sem],by simp[go_sem],by simp[go_sem],by simp[go_sem],by simp[go_sem],by simp[go_sem,h10],by simp[go_sem],by simp[go_sem,h59],by simp[go_sem],by simp[go_sem],by simp[go_sem],by simp[go_sem],by simp[go_sem]⟩ ?_
  clear h59 h10 hn;rintro σ B ⟨k2,k3,k4,k5,k9,k10,k58,k59,b2,b3,b4,b5,b9⟩;have hu1:=kC rs;have hu2:=kC (bU S);have hrl:=ux S;have p1:Lm (bU S)/\Lm (rs.take y.toNat):=by constructor<;>(simp[Lm,bU];omega)
  have hnn:¬(S.length:Int)<S.length:=oM;have hq1:Hid (decide (bU S=rs.take y.toNat)=decide (bU S=rs.take y.toNat)):=rfl;clear s3 h1 h2;have shr:∀g:Nat,g<=4294967296->(g:Int).fdiv (2 ^ min 32 64)=if g<4294967296 then 0 else 1:=fun g hg=>by rw[show(2:Int) ^ min 32 64=((4294967296:Nat):Int) by rfl,Int.fdiv_eq_ediv_of_nonneg _ oM];split<;>omega
  have hsh:=shr G hG1;clear shr;by_cases hc:bU S=rs.take y.toNat/\G<4294967296
  rotate_left
  ·obtain rfl:=hR.out.symm.trans (if_neg hc);clear hR hq1 hu1 hu2 hrl;by_cases hc1:bU S=rs.take y.toNat
   ·have hd1:decide (bU S=rs.take y.toNat)=true:=decide_eq_true hc1;rw[if_neg (fun h=>hc ⟨hc1,h⟩)]at hsh;clear hc hc1;repeat' first|exact zQ|with_reducible refine zJ (fun _=>?_) fun _=>?_|((with_reducible refine gu ?_ (fun _=>?_) fun _=>?_);exact pr)|refine zK ?_|fail
    exact wk
   ·have hd1:decide (bU S=rs.take y.toNat)=false:=decide_eq_false hc1;clear hc hc1 hsh;repeat' first|exact zQ|with_reducible refine zJ (fun _=>?_) fun _=>?_|((with_reducible refine gu ?_ (fun _=>?_) fun _=>?_);exact pr)|refine zK ?_|fail
    exact wk
  ·have hR:=hR.out;rw[if_pos hc]at hR;obtain⟨hc1,hc2⟩:=hc;rw[if_pos hc2]at hsh;rw[hc1]at p1 b9;clear hu1 hu2 hrl;have hR:Hid _:=hR;have hd1:decide (rs.take y.toNat=rs.take y.toNat)=true:=by simp
   clear hc1 hq1;repeat' first|exact zQ|with_reducible refine zJ (fun _=>?_) fun _=>?_|((with_reducible refine gu ?_ (fun _=>?_) fun _=>?_);exact pr)|refine zK ?_|fail
   ·rename_i hy;rw[<-hR.out,if_pos hy,hy];exact wk
   rename_i hy;have hR:=hR.out;rw[if_neg hy]at hR;have hut:o0 (rs.take y.toNat):=Nat.le_trans (po _ _) hu;have hsp:=rl rs y.toNat;have hvl:(rs.drop y.toNat).length=rs.length - y.toNat:=List.length_drop;have hlr:=kC rs;replace hR:Hid _:=hR;repeat' first|exact zQ|with_reducible refine zJ (fun _=>?_) fun _=>?_|((with_reducible refine gu ?_ (fun _=>?_) fun _=>?_);exact pr)|refine zK ?_|fail
   generalize hv:rs.drop y.toNat=v at *;generalize hA:aS (rs.take y.toNat)=A at *;refine fresh (fun σ' B'=>σ' 2= .loc 2 1 0 0/\σ' 3= .loc 3 1 0 0/\σ' 4= .loc 4 1 0 0/\σ' 5= .loc 5 1 0 0/\σ' 10= .int .u64 G/\σ' 13=I A/\σ' 108= .sl 1 (v.map bj)/\σ' 109=I v.length/\σ' 110=I 0/\
    B' 2=⟨1,1,3,36,[fO.d ⟨rs,S.length,y⟩]⟩/\B' 3=⟨1,1,4,39,[bT.d ⟨S,W,L,false⟩]⟩/\B' 4=⟨1,1,3,36,[.agg [.nilsl,I 0,I 0]]⟩/\B' 5=⟨1,1,4,39,[.agg [.nilsl,.nilsl,I 0,.bool false]]⟩)
    ⟨by simp[go_sem,k2],by simp[go_sem,k3],by simp[go_sem,k4],by simp[go_sem,k5],by simp[go_sem,k10],by simp[go_sem],by simp[go_sem];rw[<-hv,List.map_drop,List.take_of_length_le sI],by simp[go_sem];omega,by simp[go_sem],b2,b3,b4,b5⟩ ?_
   clear k2 k3 k4 k5 k9 k10 k58 k59 b2 b3 b4 b5 b9 p1 hd1 hsh;rintro σ B ⟨k2,k3,k4,k5,k10,k13,k108,k109,k110,b2,b3,b4,b5⟩;have hG2:G<4294967296:=hc2;have hvl2:Lm v:=by simp[Lm];omega
   replace hvl:Hid _:=hvl;have hW0:W.length=0:=by rw[hW.out];rfl
   refine bO v [(6,6),(13,13),(15,18),(110,150)] [(3,3)] (fun j τ β=>τ 110=I j/\τ 13=I ((A+aS (v.take j):Nat):Int)/\β 3=⟨1,1,4,39,[bT.d ⟨S,W++bP G A (v.take j),L,false⟩]⟩) hvl2 ⟨k110,by rw[k13];simp[aS],by rw[b3];simp[bP]⟩ (fun j x τ β hx hj hw hi=>?_) fun τ β hn hi=>?_
   ·obtain⟨h110,h13,h3⟩:=hi;have hus:=ym hx;have hut2:=po v (j+1);have hxm:=Bk (List.mem_of_getElem? hx);have hxL:Lm x:=by simp[Lm];omega
    have hsx:=qX x;have haw:bP G A (v.take (j+1))=bP G A (v.take j)++iD G (A+aS (v.take j)) x:=by rw[List.take_add_one,hx,Option.toList_some,y4];simp[bP]
    have hmem:∀w∈W++bP G A (v.take j),(0:Int)<=w.at_/\w.at_<(A+aS (v.take j):Nat)/\w.data.length=128:=fun w hw=>by
     rw[hW.out,List.nil_append]at hw;have:=qd hw;exact⟨by omega,this.2⟩
    have hlen:(W++bP G A (v.take j)).length=aS (v.take j):=by rw[List.length_append,nT,hW0,Nat.zero_add]
    generalize hWj:W++bP G A (v.take j)=Wj at *;generalize hAj:A+aS (v.take j)=Aj at *;replace hmem:Hid _:=hmem;repeat' first|exact zQ|with_reducible refine zJ (fun _=>?_) fun _=>?_|((with_reducible refine gu ?_ (fun _=>?_) fun _=>?_);exact pr)|refine zK ?_|fail
    refine iN [(6,6),(13,13),(15,18),(116,149)] [(3,3)] (bn x) (fun k τ β=>τ 17=I ((bn x - k:Nat):Int)/\τ 15= .sl 1 (aV (x.drop (112 * k)))/\τ 16= .int .u8 ((if k=0 then 1 else 0:UInt8).toNat:Int)/\τ 13=I ((Aj+k:Nat):Int)/\β 3=⟨1,1,4,39,[bT.d ⟨S,Wj++(iD G Aj x).take k,L,false⟩]⟩) ?_ (fun k τ' β' hk hi2=>?_) fun τ' β' hi2=>?_
    ·refine⟨by simp[go_sem],by simp[go_sem],by simp[go_sem],by simp[go_sem,h13],by simp[go_sem,h3]⟩
    ·obtain⟨i17,i15,i16,i13,i3⟩:=hi2;have hag:cd [(3,3)] B (aY [(3,3)] β B):=fun s hs=>by simp[aY,hs]
     have hsn:=F4 (g:=G) (a:=Aj) (b:=x) hk;have hmem2:∀w∈Wj++(iD G Aj x).take k,(0:Int)<=w.at_/\w.at_<S.length/\w.data.length=128:=fun w hw=>by
      rcases List.mem_append.1 hw with hw|hw
      ·have:=hmem.out w hw;omega
      ·have:=AV (List.mem_of_mem_take hw);omega
     have hl2:(Wj++(iD G Aj x).take k).length=Wj.length+k:=by simp[kA];omega
     have hpc:(dX G Aj (bn x) x k).data.length=128:=x8;have hwr:=IF (a:=((Aj+k:Nat):Int)) (b:=(dX G Aj (bn x) x k).data) hDG.out hmem2 oM oM oM hpc;rw[List.append_assoc,show[bA.mk ((Aj+k:Nat):Int) (dX G Aj (bn x) x k).data]=[dX G Aj (bn x) x k]from rfl,<-hsn]at hwr;have hpd:(dX G Aj (bn x) x k).data=dj G (Aj+k) (ic k (bn x)) ((x.drop (112 * k)).take 112):=rfl;rw[hpd]at hwr;generalize hWk:Wj++(iD G Aj x).take k=Wk at *;generalize hWk2:Wj++(iD G Aj x).take (k+1)=Wk2 at *;have hxd:(x.drop (112 * k)).drop 112=x.drop (112 * (k+1)):=by rw[List.drop_drop];congr 1
     have hxk:(x.drop (112 * k)).length<=x.length:=by simp
     generalize x.drop (112 * k)=xb at *;generalize x.drop (112 * (k+1))=xn at *;have c1:(0:Int)<((bn x - k:Nat):Int):=oM;have c2:min (xb.length:Int) 112=((min xb.length 112:Nat):Int):=oM;have c3:xb.take (min xb.length 112)=xb.take 112:=by
      by_cases h:xb.length<=112
      ·rw[show min xb.length 112=xb.length by omega,List.take_length,List.take_of_length_le h]
      ·rw[show min xb.length 112=112 by omega]
     have c4:xb.drop (min xb.length 112)=xn:=by
      rw[<-hxd];by_cases h:xb.length<=112
      ·rw[show min xb.length 112=xb.length by omega,List.drop_length,List.drop_of_length_le h]
      ·rw[show min xb.length 112=112 by omega]
     have c5:(xb.take 112).length<=112/\Aj+k<65536:=⟨by simp;omega,by omega⟩
     have c6:Lm S/\Lm Wk:=⟨by simp[Lm];omega,by simp[Lm];omega⟩
     have c7:IntKind.i64.wrap (((Aj+k:Nat):Int)+1)=((Aj+(k+1):Nat):Int):=by rw[iL _ oM oM];omega
     have c8:IntKind.i64.wrap (((bn x - k:Nat):Int) - 1)=((bn x - (k+1):Nat):Int):=by rw[iL _ oM oM];omega
     have c9:(min xb.length 112:Int)<=xb.length:=oM;clear hmem2 hsn hpc;by_cases hlast:k+1=bn x
     ·have d1:((bn x - k:Nat):Int)=1:=oM;have d2:ca .or .u8 ((if k=0 then 1 else 0:UInt8).toNat:Int) 2=((ic k (bn x)).toNat:Int):=by
       unfold ic;by_cases h0:k=0
       ·rw[if_pos h0,if_pos h0,if_pos oM];rfl
       ·rw[if_neg h0,if_neg h0,if_pos hlast];rfl
      generalize ic k (bn x)=K at *;generalize(if k=0 then 1 else 0:UInt8)=K0 at *;repeat' first|exact zQ|with_reducible refine zJ (fun _=>?_) fun _=>?_|((with_reducible refine gu ?_ (fun _=>?_) fun _=>?_);exact pr)|refine zK ?_|fail
      exact⟨by simp,by rw[List.take_of_length_le (by rw[<-c4];simp)],by rw[if_neg oM];rfl⟩
     ·have d1:¬((bn x - k:Nat):Int)=1:=oM;have d2:(if k=0 then 1 else 0:UInt8)=ic k (bn x):=by
       unfold ic;by_cases h0:k=0
       ·rw[if_pos h0,if_pos h0,if_neg oM]
       ·rw[if_neg h0,if_neg h0,if_neg hlast]
      rw[d2]at i16;generalize ic k (bn x)=K at *;clear d2;repeat' first|exact zQ|with_reducible refine zJ (fun _=>?_) fun _=>?_|((with_reducible refine gu ?_ (fun _=>?_) fun _=>?_);exact pr)|refine zK ?_|fail
      exact⟨by rw[List.take_of_length_le (by rw[<-c4];simp)],rfl⟩
    ·obtain⟨i17,i15,i16,i13,i3⟩:=hi2;have hag:cd [(3,3)] B (aY [(3,3)] β B):=fun s hs=>by simp[aY,hs]
     rw[Nat.sub_self]at i17;rw[List.take_of_length_le (by rw[kA];exact Nat.le_refl _)]at i3;have e1:A+aS (v.take (j+1))=Aj+bn x:=oM;have e2:W++bP G A (v.take (j+1))=Wj++iD G Aj x:=by rw[haw,<-List.append_assoc,hWj]
     have z0:¬(0:Int)<((0:Nat):Int):=by decide
     clear haw;repeat' first|exact zQ|with_reducible refine zJ (fun _=>?_) fun _=>?_|((with_reducible refine gu ?_ (fun _=>?_) fun _=>?_);exact pr)|refine zK ?_|fail
     exact congrArg I oM
   ·obtain⟨h110,h13,h3⟩:=hi;rw[List.take_length]at h13 h3;have c6:Lm S/\Lm (W++bP G A v):=⟨by simp[Lm];omega,by simp[Lm,nT];omega⟩
    have hR:=hR.out;rw[show bP G A v=W++bP G A v by rw[hW.out];rfl]at hR;generalize W++bP G A v=WW at *;replace hR:Hid _:=hR;repeat' first|exact zQ|with_reducible refine zJ (fun _=>?_) fun _=>?_|((with_reducible refine gu ?_ (fun _=>?_) fun _=>?_);exact pr)|refine zK ?_|fail
    all_goals first|(rw[<-hR.out,if_pos (by assumption)];exact wk)|(rw[<-hR.out,if_neg (by assumption)];exact wk)
end Go.V.Jn
