/- Plain laws: B15. -/
import Derived.Test.YtkgloohlmogakaaGreatDoorB13
set_option linter.all false
set_option maxHeartbeats 8000000
set_option maxRecDepth 100000
namespace Go.V.Ty
open Go.Proofs Go.Proofs.Tryz Go.RowKit Go.V.Lx Go.V.Gr
def MQ(bx:ae)(x:D)(l:List ah):Prop:=∃t e o es,(t=12\/t=66)/\x= .bp t e 1 o l.length/\bx t=⟨e,1,1,9,es⟩/\o+l.length=es.length/\es.drop o=l.map D.str
theorem MQ.of{bx bx':ae}{x:D}{l:List ah}(h:MQ bx x l)(hb:∀q,q=12\/q=66->bx' q=bx q):MQ bx' x l:=by
 obtain⟨t,e,o,es,ht,h1,h2,h3⟩:=h;exact⟨t,e,o,es,ht,h1,by rw[hb t ht];exact h2,h3⟩
def PX{x:aH}{p:ah×ah}(h:jv x=some p):∃q,x.parts=[q]/\p=(x.cat,q.cat):=by
 unfold jv at h;split at h
 ·rename_i q hq;split at h
  ·exact⟨q,hq,by simpa using h.symm⟩
  ·cases h
 ·cases h
theorem El{c:ah}{p:List ah×List ah}{x:aH}(h:∀a d,jv x=some (a,d)->a≠c\/d∈p.1):push c p x=p:=by
 unfold push;cases he:jv x with
 |none=>rfl
 |some q=>
  obtain⟨a,d⟩:=q;dsimp only;rw[if_neg fun hh=>(h a d he).elim (fun h=>h hh.1) fun h=>hh.2 h]
def Q6{c d:ah}{p:List ah×List ah}{x:aH}(h:jv x=some (c,d))(hd:¬d∈p.1):push c p x=(p.1++[d],p.2++[d]):=by
 unfold push;rw[h];dsimp only;rw[if_pos ⟨rfl,hd⟩]
def vf(c:ah)(rs:List aH)(p:List ah×List ah)(i:Nat):List ah×List ah:=(rs.take i).foldl (push c) p
def O6{c:ah}{p0:List ah×List ah}{l:List aH}{i:Nat}{x:aH}(h:l[i]? =some x):vf c l p0 (i+1)=push c (vf c l p0 i) x:=by rw[vf,List.take_add_one,h,List.foldl_append];rfl
def Uf(g:aW)(s:ah)(hg:mP g)(hr:g.rules.length<=128):mn prog (cJ prog) [(1000010,[]),(1000012,[]),(3000066,[])] f256 0 [g.d,.str s] (fun _=> .none) (fun d bx=>∃r,bD bx d=some r/\bN r (strs (lR g.rules s))) (fun _ _=>False):=by
 refine aL _ [.tmp 4] 68 rfl rfl rfl ak ?_;have dj:g.d= .agg [.str g.name,.sl 1 (g.au.map D.str),.str g.start,.int .i64 g.no,.sl 5 (g.entries.map Entry.d),.sl 5 (g.rules.map aH.d)]:=rfl;simp(disch:=omega) only[go_sem,dj];refine bo (g.rules.length+1) (fun j σ bx=>σ 2= .loc 2 1 0 0/\bx 2=⟨1,1,6,81,[g.d]⟩/\∃out todo,aS bx [10,58] 9 1 (σ 5) (out.map D.str)/\MQ bx (σ 6) todo/\Bh g.rules s out todo/\todo.length+g.rules.length<=g.rules.length+1 - j+out.length/\run g.rules (g.rules.length+1 - j) (out,todo)=lR g.rules s) ?_ ?_ ?_
 ·simp(disch:=omega) only[go_sem,dj];refine⟨[],[s],?_,?_,?_,?_,?_⟩
  ·exact aS.mk (xs:=[]) (t:=10) sI (by simp[aj])
  ·exact⟨12,_,0,_,.inl rfl,rfl,by simp[aj];rfl,by simp,by simp⟩
  ·exact⟨.nil,by simp,by simp,by simp,fun c hc hn d he=>by
    rcases hc with rfl|hc
    ·simp at hn
    ·simp at hc⟩
  ·simp;omega
  ·rfl
 ·rintro j σ bx hj ⟨q2,b2,out,todo,ov,qv,hw,hn,bQ⟩;have E7:out.length<=g.rules.length:=Nat.le_trans (uc hw.nodup hw.sub) (rq _);obtain⟨t,e,o,es,ht,h6,bt,yR,tQ⟩:=qv;cases todo with
  |nil=>
   have hz:¬(0:Int)<((([]:List ah).length:Nat):Int):=by simp
   simp(disch:=omega) only[go_sem,h6,decide_false];obtain⟨r,oA,yZ⟩:=ov.out (oc _);have:out=lR g.rules s:=by rw[<-bQ];unfold run;rfl
   exact⟨r,oA,by rw[<-this];exact yZ⟩
  |cons c todo=>
   rw[List.length_cons]at h6 yR hn;have hz:(0:Int)<((todo.length+1:Nat):Int):=oM;have h0:es[o]? =some (.str c):=by
    have:=congrArg (·[0]?) tQ;simpa using this
   simp(disch:=omega) only[go_sem,h6,hz,decide_true,bt,h0];refine bo g.rules.length (fun i σ bx=>σ 2= .loc 2 1 0 0/\σ 7= .str c/\σ 8= .int .i64 i/\bx 2=⟨1,1,6,81,[g.d]⟩/\aS bx [10,58] 9 1 (σ 5) ((vf c g.rules (out,todo) i).1.map D.str)/\MQ bx (σ 6) (vf c g.rules (out,todo) i).2/\(vf c g.rules (out,todo) i).1.length<=out.length+i/\(vf c g.rules (out,todo) i).2.length<=todo.length+i) ?_ ?_ ?_
   ·simp(disch:=omega) only[go_sem,q2,b2,dj];refine⟨ov,⟨t,e,o+1,es,ht,rfl,bt,by simp[vf]at yR⊢;omega,?_⟩,by simp[vf],by simp[vf]⟩;rw[<-List.drop_drop,tQ];simp[vf]
   ·rintro i σ bx hi ⟨q2,q7,q8,b2,ov,qv,n1,n2⟩;obtain⟨x,hx⟩:=ba hi;rw[O6 hx];generalize vf c g.rules (out,todo) i=p at ov qv n1 n2⊢;obtain⟨o1,t1⟩:=p;dsimp only at ov qv n1 n2;have ar:(i:Int)<(g.rules.length:Int):=oM;have jF:IntKind.i64.wrap ((i:Int)+1)=((i+1:Nat):Int):=aE oM;have gf:x.d= .agg [.str x.cat,.int .i64 x.no,.sl 3 (x.parts.map Part.d),.sl 2 (x.aN.map dT.d),.int .i64 x.cost]:=rfl;have jJ:=hg.rules x (mG hx);simp(disch:=omega) only[go_sem,q2,q8,ar,decide_true,b2,dj,hx,gf];refine av (Py x jJ.xm) sG ?_;cases he:jv x with
    |none=>
     rw[El (fun a d h=>by rw[he]at h;cases h)];simp(disch:=omega) only[go_sem,Option.isSome_none,q2,q7,q8,jF,b2,dj];exact⟨ov.of fun q hq=>by simp at hq;exact(aD oM).trans (aD oM),qv.of fun q hq=>(aD oM).trans (aD oM),by omega,by omega⟩
    |some pr=>
     obtain⟨q,hq,rfl⟩:=PX he;by_cases hc:x.cat=c
     ·subst hc;simp(disch:=omega) only[go_sem,Option.isSome_some,decide_true,q7,hq,mC,List.map_nil,Part.d];generalize hB:aj (aj bx 9 _) 9 _=B;have k:∀r,r≠9->B r=bx r:=fun r hr=>by rw[<-hB];exact(aD hr).trans (aD hr)
      have k9:B 9=⟨(bx 9).ep+1,1,5,142,[.agg [.str x.cat,.int .i64 x.no,.sl 3 [q.d],.sl 2 (x.aN.map dT.d),.int .i64 x.cost]]⟩:=by rw[<-hB,dC,hq];rfl
      clear hB;replace b2:=(k 2 oM).trans b2;replace ov:=ov.of (bx':=B) fun q hq=>k q (by simp at hq;omega);replace qv:=qv.of (bx':=B) fun q hq=>k q oM;obtain⟨r,oA,yZ⟩:=ov.out (oc _);refine pA ((nu o1 q.cat oM).Tj yZ (.refl _)) (by simp[go_sem,oA]) rfl ?_;by_cases hd:q.cat∈o1
      ·have Hq:¬iA o1 q.cat<0:=by simp[iA,hd]
       rw[El (fun a d h=>by rw[he]at h;cases h;exact .inr hd)];simp(disch:=omega) only[go_sem,Hq,decide_false,q2,q7,q8,jF,b2,dj];exact⟨ov,qv,by omega,by omega⟩
      ·have Hq:iA o1 q.cat<0:=by simp[iA,hd]
       rw[Q6 he hd];simp(disch:=omega) only[go_sem,Hq,decide_true,k9,Part.d];refine eJ ov sI sG (by simp;omega) oM oM sI fun e' B' g1 g2=>?_;obtain⟨t,e,o,es,ht,h6,bt,yR,tQ⟩:=qv;have ik:(es.drop o).length=t1.length:=by rw[tQ,List.length_map]
       rw[List.length_drop]at ik;have bt':=(g2 t oM (by simp;omega)).trans bt;have c9:=(g2 9 oM sI).trans k9;have c2:=(g2 2 oM sI).trans b2;have hQ:vr 0 66 9 1 16 B' (.bp t e 1 o t1.length) [.str q.cat]=some ((.bp 66 ((B' 66).ep+1) 1 0 (t1.length+1),aj (aj B' t ⟨e,0,1,9,es⟩) 66 ⟨(B' 66).ep+1,1,1,9,(es.drop o).take t1.length++[.str q.cat]⟩),(.bp 66 ((B' 66).ep+1) 1 o (t1.length+1),aj (aj B' t ⟨e,0,1,9,es⟩) 66 ⟨(B' 66).ep+1,1,1,9,es.take (o+t1.length)++[.str q.cat]⟩)):=by
        dsimp only[vr];rw[bt'];dsimp only;rw[if_pos ⟨by omega,rfl,rfl,rfl,rfl,rfl,by omega,by simp;omega,by omega,by omega⟩];rfl
       simp(disch:=omega) only[go_sem,q2,q7,q8,c9,c2,h6,Part.d,hQ,reduceCtorEq,if_false,jF];have hov:∀y z,aS (aj (aj B' t y) 66 z) [10,58] 9 1 (.bp 58 e' 1 0 (o1.map D.str++[D.str q.cat]).length) ((o1++[q.cat]).map D.str):=fun y z=>by
        rw[List.map_append];exact aS.mk sI ((aD oM).trans ((aD oM).trans g1))
       have yV:(o1++[q.cat]).length<=out.length+(i+1):=by simp;omega
       have kO:(t1++[q.cat]).length<=todo.length+(i+1):=by simp;omega
       rw[if_neg oM];refine⟨⟨rfl,hov _ _,⟨66,_,0,_,.inr rfl,by simp,dC _ _ _,by simp;omega,?_⟩,yV,kO⟩,rfl,hov _ _,⟨66,_,o,_,.inr rfl,by simp,dC _ _ _,by simp;omega,?_⟩,yV,kO⟩
       ·rw[List.drop_zero,tQ,List.take_of_length_le sI,List.map_append];rfl
       ·rw[List.take_of_length_le oM,List.drop_append_of_le_length oM,tQ,List.map_append];rfl
     ·rw[El (fun a d h=>by rw[he]at h;cases h;exact .inl hc)];simp(disch:=omega) only[go_sem,Option.isSome_some,hc,decide_false,q2,q7,q8,jF,b2,dj];exact⟨ov.of fun q hq=>by simp at hq;exact(aD oM).trans (aD oM),qv.of fun q hq=>(aD oM).trans (aD oM),by omega,by omega⟩
   ·rintro σ bx ⟨q2,q7,q8,b2,ov,qv,n1,n2⟩;have ar:¬(g.rules.length:Int)<(g.rules.length:Int):=oM;obtain⟨m,h1,h2⟩:=hw.step;have bz:vf c g.rules (out,todo) g.rules.length=(out++m,todo++m):=by rw[vf,tL];exact h1
    rw[bz]at ov qv n1 n2;have oy:g.rules.length+1 - j=g.rules.length+1 - (j+1)+1:=oM;rw[oy,run,h1]at bQ;simp(disch:=omega) only[go_sem,q2,q8,ar,decide_false,b2,dj];exact⟨_,_,ov,qv,h2,by simp;omega,bQ⟩
 ·rintro σ bx ⟨q2,b2,out,todo,ov,qv,hw,hn,bQ⟩;have E7:out.length<=g.rules.length:=Nat.le_trans (uc hw.nodup hw.sub) (rq _);obtain rfl:todo=[]:=List.eq_nil_of_length_eq_zero oM;obtain⟨t,e,o,es,ht,h6,bt,yR,tQ⟩:=qv;have hz:¬(0:Int)<((([]:List ah).length:Nat):Int):=by simp
  simp(disch:=omega) only[go_sem,h6,decide_false];obtain⟨r,oA,yZ⟩:=ov.out (oc _);have:out=lR g.rules s:=by rw[<-bQ];unfold run;rfl
  exact⟨r,oA,by rw[<-this];exact yZ⟩
def Q8:z_:=fun g s hg hr hs=>(aK mixed (Uf g s hg hr) rfl ak rfl).to (fun _ _ h=>h) (fun d' bx' ⟨r,h1,h2⟩=>⟨r,h1,h2⟩)
end Go.V.Ty
