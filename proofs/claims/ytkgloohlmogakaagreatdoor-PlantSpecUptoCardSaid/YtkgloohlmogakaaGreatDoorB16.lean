/- Lemmas on plain data and programs: part B16. -/
import Derived.Test.YtkgloohlmogakaaGreatDoorB14
set_option linter.all false
set_option maxHeartbeats 8000000
set_option maxRecDepth 100000
namespace Go.V.Ty
open Go.Proofs Go.Proofs.Tryz Go.RowKit Go.V.Lx Go.V.Gr
def Mp(bx:ae)(x:D)(l:List ah):Prop:=∃t e o es,(t=12\/t=66)/\x= .bE t e 1 o l.length/\bx t=⟨e,1,1,9,es⟩/\o+l.length=es.length/\es.drop o=l.map D.str
theorem Mp.of{bx bx':ae}{x:D}{l:List ah}(h:Mp bx x l)(hb:∀q,q=12\/q=66->bx' q=bx q):Mp bx' x l:=by
 obtain⟨t,e,o,es,ht,h1,h2,h3⟩:=h;exact⟨t,e,o,es,ht,h1,by rw[hb t ht];exact h2,h3⟩
def Pv{x:aE}{p:ah×ah}(h:jo x=some p):∃q,x.parts=[q]/\p=(x.cat,q.cat):=by
 unfold jo at h;split at h
 ·rename_i q hq;split at h
  ·exact⟨q,hq,by simpa using h.symm⟩
  ·cases h
 ·cases h
theorem D9{c:ah}{p:List ah×List ah}{x:aE}(h:∀a d,jo x=some (a,d)->a≠c\/d∈p.1):push c p x=p:=by
 unfold push;cases he:jo x with
 |none=>rfl
 |some q=>
  obtain⟨a,d⟩:=q;dsimp only;rw[if_neg fun hh=>(h a d he).elim (fun h=>h hh.1) fun h=>hh.2 h]
def QF{c d:ah}{p:List ah×List ah}{x:aE}(h:jo x=some (c,d))(hd:¬d∈p.1):push c p x=(p.1++[d],p.2++[d]):=by
 unfold push;rw[h];dsimp only;rw[if_pos ⟨rfl,hd⟩]
def uO(c:ah)(rs:List aE)(p:List ah×List ah)(i:Nat):List ah×List ah:=(rs.take i).foldl (push c) p
def OI{c:ah}{p0:List ah×List ah}{l:List aE}{i:Nat}{x:aE}(h:l[i]? =some x):uO c l p0 (i+1)=push c (uO c l p0 i) x:=by rw[uO,List.take_add_one,h,List.foldl_append];rfl
def TN(g:aS)(s:ah)(hg:mK g)(hr:g.rules.length<=128):mf prog (cJ prog) [(1000010,[]),(1000012,[]),(3000066,[])] f256 0 [g.d,.str s] (fun _=> .none) (fun d bx=>∃r,bz bx d=some r/\bN r (strs (lL g.rules s))) (fun _ _=>False):=by
 refine aJ _ [.tmp 4] 68 rfl rfl rfl aj ?_;have cX:g.d= .agg [.str g.name,.sl 1 (g.au.map D.str),.str g.start,.int .i64 g.no,.sl 5 (g.entries.map Entry.d),.sl 5 (g.rules.map aE.d)]:=rfl;simp(disch:=omega) only[go_sem,cX];refine bo (g.rules.length+1) (fun j σ bx=>σ 2= .loc 2 1 0 0/\bx 2=⟨1,1,6,81,[g.d]⟩/\∃out todo,aX bx [10,58] 9 1 (σ 5) (out.map D.str)/\Mp bx (σ 6) todo/\A3 g.rules s out todo/\todo.length+g.rules.length<=g.rules.length+1 - j+out.length/\run g.rules (g.rules.length+1 - j) (out,todo)=lL g.rules s) ?_ ?_ ?_
 ·simp(disch:=omega) only[go_sem,cX];refine⟨[],[s],?_,?_,?_,?_,?_⟩
  ·exact aX.mk (xs:=[]) (t:=10) sI (by simp[ak])
  ·exact⟨12,_,0,_,.inl rfl,rfl,by simp[ak];rfl,by simp,by simp⟩
  ·exact⟨.nil,by simp,by simp,by simp,fun c hc hn d he=>by
    rcases hc with rfl|hc
    ·simp at hn
    ·simp at hc⟩
  ·simp;omega
  ·rfl
 ·rintro j σ bx hj ⟨q2,b2,out,todo,ov,qv,hw,hn,bR⟩;have R1:out.length<=g.rules.length:=Nat.le_trans (tP hw.nodup hw.sub) (qW _);obtain⟨t,e,o,es,ht,h6,bt,yA,tv⟩:=qv;cases todo with
  |nil=>
   have hz:¬(0:Int)<((([]:List ah).length:Nat):Int):=by simp
   simp(disch:=omega) only[go_sem,h6,decide_false];obtain⟨r,oe,yI⟩:=ov.out (nX _);have:out=lL g.rules s:=by rw[<-bR];unfold run;rfl
   exact⟨r,oe,by rw[<-this];exact yI⟩
  |cons c todo=>
   rw[List.length_cons]at h6 yA hn;have hz:(0:Int)<((todo.length+1:Nat):Int):=oM;have h0:es[o]? =some (.str c):=by
    have:=congrArg (·[0]?) tv;simpa using this
   simp(disch:=omega) only[go_sem,h6,hz,decide_true,bt,h0];refine bo g.rules.length (fun i σ bx=>σ 2= .loc 2 1 0 0/\σ 7= .str c/\σ 8= .int .i64 i/\bx 2=⟨1,1,6,81,[g.d]⟩/\aX bx [10,58] 9 1 (σ 5) ((uO c g.rules (out,todo) i).1.map D.str)/\Mp bx (σ 6) (uO c g.rules (out,todo) i).2/\(uO c g.rules (out,todo) i).1.length<=out.length+i/\(uO c g.rules (out,todo) i).2.length<=todo.length+i) ?_ ?_ ?_
   ·simp(disch:=omega) only[go_sem,q2,b2,cX];refine⟨ov,⟨t,e,o+1,es,ht,rfl,bt,by simp[uO]at yA⊢;omega,?_⟩,by simp[uO],by simp[uO]⟩;rw[<-List.drop_drop,tv];simp[uO]
   ·rintro i σ bx hi ⟨q2,q7,q8,b2,ov,qv,n1,n2⟩;obtain⟨x,hx⟩:=ba hi;rw[OI hx];generalize uO c g.rules (out,todo) i=p at ov qv n1 n2⊢;obtain⟨o1,t1⟩:=p;dsimp only at ov qv n1 n2;have ar:(i:Int)<(g.rules.length:Int):=oM;have jE:IntKind.i64.wrap ((i:Int)+1)=((i+1:Nat):Int):=aD oM;have fY:x.d= .agg [.str x.cat,.int .i64 x.no,.sl 3 (x.parts.map Part.d),.sl 2 (x.aM.map dK.d),.int .i64 x.cost]:=rfl;have jI:=hg.rules x (mG hx);simp(disch:=omega) only[go_sem,q2,q8,ar,decide_true,b2,cX,hx,fY];refine av (O7 x jI.wV) sG ?_;cases he:jo x with
    |none=>
     rw[D9 (fun a d h=>by rw[he]at h;cases h)];simp(disch:=omega) only[go_sem,Option.isSome_none,q2,q7,q8,jE,b2,cX];exact⟨ov.of fun q hq=>by simp at hq;exact(aB oM).trans (aB oM),qv.of fun q hq=>(aB oM).trans (aB oM),by omega,by omega⟩
    |some pr=>
     obtain⟨q,hq,rfl⟩:=Pv he;by_cases hc:x.cat=c
     ·subst hc;simp(disch:=omega) only[go_sem,Option.isSome_some,decide_true,q7,hq,mC,List.map_nil,Part.d];generalize hB:ak (ak bx 9 _) 9 _=B;have k:∀r,r≠9->B r=bx r:=fun r hr=>by rw[<-hB];exact(aB hr).trans (aB hr)
      have k9:B 9=⟨(bx 9).ep+1,1,5,142,[.agg [.str x.cat,.int .i64 x.no,.sl 3 [q.d],.sl 2 (x.aM.map dK.d),.int .i64 x.cost]]⟩:=by rw[<-hB,eC,hq];rfl
      clear hB;replace b2:=(k 2 oM).trans b2;replace ov:=ov.of (bx':=B) fun q hq=>k q (by simp at hq;omega);replace qv:=qv.of (bx':=B) fun q hq=>k q oM;obtain⟨r,oe,yI⟩:=ov.out (nX _);refine rj ((nj o1 q.cat oM).SN yI (.refl _)) (by simp[go_sem,oe]) rfl ?_;by_cases hd:q.cat∈o1
      ·have G9:¬im o1 q.cat<0:=by simp[im,hd]
       rw[D9 (fun a d h=>by rw[he]at h;cases h;exact .inr hd)];simp(disch:=omega) only[go_sem,G9,decide_false,q2,q7,q8,jE,b2,cX];exact⟨ov,qv,by omega,by omega⟩
      ·have G9:im o1 q.cat<0:=by simp[im,hd]
       rw[QF he hd];simp(disch:=omega) only[go_sem,G9,decide_true,k9,Part.d];refine gP ov sI sG (by simp;omega) oM oM sI fun e' B' g1 g2=>?_;obtain⟨t,e,o,es,ht,h6,bt,yA,tv⟩:=qv;have hU:(es.drop o).length=t1.length:=by rw[tv,List.length_map]
       rw[List.length_drop]at hU;have bt':=(g2 t oM (by simp;omega)).trans bt;have c9:=(g2 9 oM sI).trans k9;have c2:=(g2 2 oM sI).trans b2;have hQ:uW 0 66 9 1 16 B' (.bE t e 1 o t1.length) [.str q.cat]=some ((.bE 66 ((B' 66).ep+1) 1 0 (t1.length+1),ak (ak B' t ⟨e,0,1,9,es⟩) 66 ⟨(B' 66).ep+1,1,1,9,(es.drop o).take t1.length++[.str q.cat]⟩),(.bE 66 ((B' 66).ep+1) 1 o (t1.length+1),ak (ak B' t ⟨e,0,1,9,es⟩) 66 ⟨(B' 66).ep+1,1,1,9,es.take (o+t1.length)++[.str q.cat]⟩)):=by
        dsimp only[uW];rw[bt'];dsimp only;rw[if_pos ⟨by omega,rfl,rfl,rfl,rfl,rfl,by omega,by simp;omega,by omega,by omega⟩];rfl
       simp(disch:=omega) only[go_sem,q2,q7,q8,c9,c2,h6,Part.d,hQ,reduceCtorEq,if_false,jE];have hov:∀y z,aX (ak (ak B' t y) 66 z) [10,58] 9 1 (.bE 58 e' 1 0 (o1.map D.str++[D.str q.cat]).length) ((o1++[q.cat]).map D.str):=fun y z=>by
        rw[List.map_append];exact aX.mk sI ((aB oM).trans ((aB oM).trans g1))
       have yF:(o1++[q.cat]).length<=out.length+(i+1):=by simp;omega
       have pk:(t1++[q.cat]).length<=todo.length+(i+1):=by simp;omega
       rw[if_neg oM];refine⟨⟨rfl,hov _ _,⟨66,_,0,_,.inr rfl,by simp,eC _ _ _,by simp;omega,?_⟩,yF,pk⟩,rfl,hov _ _,⟨66,_,o,_,.inr rfl,by simp,eC _ _ _,by simp;omega,?_⟩,yF,pk⟩
       ·rw[List.drop_zero,tv,List.take_of_length_le sI,List.map_append];rfl
       ·rw[List.take_of_length_le oM,List.drop_append_of_le_length oM,tv,List.map_append];rfl
     ·rw[D9 (fun a d h=>by rw[he]at h;cases h;exact .inl hc)];simp(disch:=omega) only[go_sem,Option.isSome_some,hc,decide_false,q2,q7,q8,jE,b2,cX];exact⟨ov.of fun q hq=>by simp at hq;exact(aB oM).trans (aB oM),qv.of fun q hq=>(aB oM).trans (aB oM),by omega,by omega⟩
   ·rintro σ bx ⟨q2,q7,q8,b2,ov,qv,n1,n2⟩;have ar:¬(g.rules.length:Int)<(g.rules.length:Int):=oM;obtain⟨m,h1,h2⟩:=hw.step;have bw:uO c g.rules (out,todo) g.rules.length=(out++m,todo++m):=by rw[uO,tL];exact h1
    rw[bw]at ov qv n1 n2;have oc:g.rules.length+1 - j=g.rules.length+1 - (j+1)+1:=oM;rw[oc,run,h1]at bR;simp(disch:=omega) only[go_sem,q2,q8,ar,decide_false,b2,cX];exact⟨_,_,ov,qv,h2,by simp;omega,bR⟩
 ·rintro σ bx ⟨q2,b2,out,todo,ov,qv,hw,hn,bR⟩;have R1:out.length<=g.rules.length:=Nat.le_trans (tP hw.nodup hw.sub) (qW _);obtain rfl:todo=[]:=List.eq_nil_of_length_eq_zero oM;obtain⟨t,e,o,es,ht,h6,bt,yA,tv⟩:=qv;have hz:¬(0:Int)<((([]:List ah).length:Nat):Int):=by simp
  simp(disch:=omega) only[go_sem,h6,decide_false];obtain⟨r,oe,yI⟩:=ov.out (nX _);have:out=lL g.rules s:=by rw[<-bR];unfold run;rfl
  exact⟨r,oe,by rw[<-this];exact yI⟩
def QH:zM:=fun g s hg hr hs=>(aI mixed (TN g s hg hr) rfl aj rfl).to (fun _ _ h=>h) (fun d' bx' ⟨r,h1,h2⟩=>⟨r,h1,h2⟩)
end Go.V.Ty
