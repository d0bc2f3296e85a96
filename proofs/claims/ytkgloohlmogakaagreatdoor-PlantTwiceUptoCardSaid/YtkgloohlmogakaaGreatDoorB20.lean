/- Types: the reference's reach. -/
import Derived.Test.YtkgloohlmogakaaGreatDoorB18
set_option linter.unusedSimpArgs false
set_option linter.unusedVariables false
set_option maxRecDepth 100000
namespace Go.V.Ty
open Go.Proofs Go.RowKit Go.V.Lx Go.V.Gr
set_option maxHeartbeats 1000000
def Ev(bx:ae)(x:D)(l:List ah):Prop:=∃t e o es,(t=12\/t=66)/\x= .osl t e 1 o l.length/\bx t=⟨e,1,1,9,es⟩/\o+l.length=es.length/\es.drop o=l.map D.str
theorem Ev.of{bx bx':ae}{x:D}{l:List ah}(h:Ev bx x l)(hb:∀q,q=12\/q=66->bx' q=bx q):Ev bx' x l:=by
 obtain⟨t,e,o,es,ht,h1,h2,h3⟩:=h;exact⟨t,e,o,es,ht,h1,by rw[hb t ht];exact h2,h3⟩
theorem G4{x:aC}{p:ah×ah}(h:fG x=some p):∃q,x.parts=[q]/\p=(x.cat,q.cat):=by
 unfold fG at h;split at h
 ·rename_i q hq;split at h
  ·exact⟨q,hq,by simpa using h.symm⟩
  ·cases h
 ·cases h
theorem w7{c:ah}{p:List ah×List ah}{x:aC}(h:∀a d,fG x=some (a,d)->a≠c\/d∈p.1):push c p x=p:=by
 unfold push;cases he:fG x with
 |none=>rfl
 |some q=>
  obtain⟨a,d⟩:=q;dsimp only;rw[if_neg fun hh=>(h a d he).elim (fun h=>h hh.1) fun h=>hh.2 h]
theorem HW{c d:ah}{p:List ah×List ah}{x:aC}(h:fG x=some (c,d))(hd:¬d∈p.1):push c p x=(p.1++[d],p.2++[d]):=by
 unfold push;rw[h];dsimp only;rw[if_pos ⟨rfl,hd⟩]
def pb(c:ah)(rs:List aC)(p:List ah×List ah)(i:Nat):List ah×List ah:=(rs.take i).foldl (push c) p
theorem Gi{c:ah}{p0:List ah×List ah}{l:List aC}{i:Nat}{x:aC}(h:l[i]? =some x):pb c l p0 (i+1)=push c (pb c l p0 i) x:=by rw[pb,List.take_add_one,h,List.foldl_append];rfl
set_option maxHeartbeats 8000000 in
theorem Kb(g:aO)(s:ah)(hg:iZ g)(hr:g.rules.length<=128):iI Tryz.prog (bK Tryz.prog) [(1000010,[]),(1000012,[]),(3000066,[])] Tryz.f256 0 [g.d,.str s] (fun _=> .none) (fun d bx=>∃r,bf bx d=some r/\bk r (strs (ir g.rules s))) (fun _ _=>False):=by
 refine aH _ [.tmp 4] 68 rfl rfl rfl aj ?_;have hgd:g.d= .agg [.str g.name,.sl 1 (g.cats.map D.str),.str g.start,.int .i64 g.no,.sl 5 (g.entries.map Entry.d),.sl 5 (g.rules.map aC.d)]:=rfl;simp(disch:=omega) only[go_sem,hgd];refine aX (g.rules.length+1) (fun j σ bx=>σ 2= .loc 2 1 0 0/\bx 2=⟨1,1,6,81,[g.d]⟩/\∃out todo,aW bx [10,58] 9 1 (σ 5) (out.map D.str)/\Ev bx (σ 6) todo/\tX g.rules s out todo/\todo.length+g.rules.length<=g.rules.length+1 - j+out.length/\run g.rules (g.rules.length+1 - j) (out,todo)=ir g.rules s) ?_ ?_ ?_
 ·simp(disch:=omega) only[go_sem,hgd];refine⟨[],[s],?_,?_,?_,?_,?_⟩
  ·exact aW.mk (xs:=[]) (t:=10) sI (by simp[ao])
  ·exact⟨12,_,0,_,.inl rfl,rfl,by simp[ao];rfl,by simp,by simp⟩
  ·exact⟨.nil,by simp,by simp,by simp,fun c hc hn d he=>by
    rcases hc with rfl|hc
    ·simp at hn
    ·simp at hc⟩
  ·simp;omega
  ·rfl
 ·rintro j σ bx hj ⟨q2,b2,out,todo,ov,qv,hw,hn,hrun⟩;have hol:out.length<=g.rules.length:=Nat.le_trans (oc hw.nodup hw.sub) (mg _);obtain⟨t,e,o,es,ht,h6,bt,he1,he2⟩:=qv;cases todo with
  |nil=>
   have hz:¬(0:Int)<((([]:List ah).length:Nat):Int):=by simp
   simp(disch:=omega) only[go_sem,h6,hz,decide_false];obtain⟨r,hr1,hr2⟩:=ov.out (cr _);have:out=ir g.rules s:=by rw[<-hrun];unfold run;rfl
   exact⟨r,hr1,by rw[<-this];exact hr2⟩
  |cons c todo=>
   rw[List.length_cons]at h6 he1 hn;have hz:(0:Int)<((todo.length+1:Nat):Int):=oM;have h0:es[o]? =some (.str c):=by
    have:=congrArg (·[0]?) he2;simpa using this
   simp(disch:=omega) only[go_sem,q2,h6,hz,decide_true,bt,h0];refine aX g.rules.length (fun i σ bx=>σ 2= .loc 2 1 0 0/\σ 7= .str c/\σ 8= .int .i64 i/\bx 2=⟨1,1,6,81,[g.d]⟩/\aW bx [10,58] 9 1 (σ 5) ((pb c g.rules (out,todo) i).1.map D.str)/\Ev bx (σ 6) (pb c g.rules (out,todo) i).2/\(pb c g.rules (out,todo) i).1.length<=out.length+i/\(pb c g.rules (out,todo) i).2.length<=todo.length+i) ?_ ?_ ?_
   ·simp(disch:=omega) only[go_sem,q2,b2,hgd];refine⟨ov,⟨t,e,o+1,es,ht,rfl,bt,by simp[pb]at he1⊢;omega,?_⟩,by simp[pb],by simp[pb]⟩;rw[<-List.drop_drop,he2];simp[pb]
   ·rintro i σ bx hi ⟨q2,q7,q8,b2,ov,qv,n1,n2⟩;obtain⟨x,hx⟩:=aP hi;rw[Gi hx];generalize pb c g.rules (out,todo) i=p at ov qv n1 n2⊢;obtain⟨o1,t1⟩:=p;dsimp only at ov qv n1 n2;have hlt:(i:Int)<(g.rules.length:Int):=oM;have hi1:IntKind.i64.wrap ((i:Int)+1)=((i+1:Nat):Int):=aK oM;have hxd:x.d= .agg [.str x.cat,.int .i64 x.no,.sl 3 (x.parts.map Part.d),.sl 2 (x.gives.map ct.d),.int .i64 x.cost]:=rfl;have hxs:=hg.rules x (List.mem_of_getElem? hx);simp(disch:=omega) only[go_sem,q2,q8,hlt,decide_true,b2,hgd,hx,hxd];refine au (GJ x hxs.plen) sG ?_;cases he:fG x with
    |none=>
     rw[w7 (fun a d h=>by rw[he]at h;cases h)];simp(disch:=omega) only[go_sem,Option.isSome_none,q2,q7,q8,hi1,b2,hgd];exact⟨ov.of fun q hq=>by simp at hq;exact(aA oM).trans (aA oM),qv.of fun q hq=>(aA oM).trans (aA oM),by omega,by omega⟩
    |some pr=>
     obtain⟨q,hq,rfl⟩:=G4 he;by_cases hc:x.cat=c
     ·subst hc;simp(disch:=omega) only[go_sem,Option.isSome_some,decide_true,q2,q7,q8,hq,List.map_cons,List.map_nil,Part.d];generalize hB:ao (ao bx 9 _) 9 _=B;have k:∀r,r≠9->B r=bx r:=fun r hr=>by rw[<-hB];exact(aA hr).trans (aA hr)
      have k9:B 9=⟨(bx 9).ep+1,1,5,142,[.agg [.str x.cat,.int .i64 x.no,.sl 3 [q.d],.sl 2 (x.gives.map ct.d),.int .i64 x.cost]]⟩:=by rw[<-hB,cO,hq];rfl
      clear hB;replace b2:=(k 2 oM).trans b2;replace ov:=ov.of (bx':=B) fun q hq=>k q (by simp at hq;omega);replace qv:=qv.of (bx':=B) fun q hq=>k q oM;obtain⟨r,hr1,hr2⟩:=ov.out (cr _);refine mu ((jm o1 q.cat oM).Ji hr2 (.refl _)) (by simp[go_sem,hr1]) rfl ?_;by_cases hd:q.cat∈o1
      ·have hneg:¬eV o1 q.cat<0:=by simp[eV,hd]
       rw[w7 (fun a d h=>by rw[he]at h;cases h;exact .inr hd)];simp(disch:=omega) only[go_sem,hneg,decide_false,q2,q7,q8,hi1,b2,hgd];exact⟨ov,qv,by omega,by omega⟩
      ·have hneg:eV o1 q.cat<0:=by simp[eV,hd]
       rw[HW he hd];simp(disch:=omega) only[go_sem,hneg,decide_true,q2,q7,q8,k9,Part.d];refine eG ov sI sG (by simp;omega) oM oM sI fun e' B' g1 g2=>?_;obtain⟨t,e,o,es,ht,h6,bt,he1,he2⟩:=qv;have hes:(es.drop o).length=t1.length:=by rw[he2,List.length_map]
       rw[List.length_drop]at hes;have bt':=(g2 t oM (by simp;omega)).trans bt;have c9:=(g2 9 oM sI).trans k9;have c2:=(g2 2 oM sI).trans b2;have hQ:px 0 66 9 1 16 B' (.osl t e 1 o t1.length) [.str q.cat]=some ((.osl 66 ((B' 66).ep+1) 1 0 (t1.length+1),ao (ao B' t ⟨e,0,1,9,es⟩) 66 ⟨(B' 66).ep+1,1,1,9,(es.drop o).take t1.length++[.str q.cat]⟩),(.osl 66 ((B' 66).ep+1) 1 o (t1.length+1),ao (ao B' t ⟨e,0,1,9,es⟩) 66 ⟨(B' 66).ep+1,1,1,9,es.take (o+t1.length)++[.str q.cat]⟩)):=by
        dsimp only[px];rw[bt'];dsimp only;rw[if_pos ⟨by omega,rfl,rfl,rfl,rfl,rfl,by omega,by simp;omega,by omega,by omega⟩];rfl
       simp(disch:=omega) only[go_sem,q2,q7,q8,c9,c2,h6,Part.d,hQ,reduceCtorEq,if_false,hi1];have hov:∀y z,aW (ao (ao B' t y) 66 z) [10,58] 9 1 (.osl 58 e' 1 0 (o1.map D.str++[D.str q.cat]).length) ((o1++[q.cat]).map D.str):=fun y z=>by
        rw[List.map_append];exact aW.mk sI ((aA oM).trans ((aA oM).trans g1))
       have hl1:(o1++[q.cat]).length<=out.length+(i+1):=by simp;omega
       have hl2:(t1++[q.cat]).length<=todo.length+(i+1):=by simp;omega
       rw[if_neg oM];refine⟨⟨rfl,hov _ _,⟨66,_,0,_,.inr rfl,by simp,cO _ _ _,by simp;omega,?_⟩,hl1,hl2⟩,rfl,hov _ _,⟨66,_,o,_,.inr rfl,by simp,cO _ _ _,by simp;omega,?_⟩,hl1,hl2⟩
       ·rw[List.drop_zero,he2,List.take_of_length_le sI,List.map_append];rfl
       ·rw[List.take_of_length_le oM,List.drop_append_of_le_length oM,he2,List.map_append];rfl
     ·rw[w7 (fun a d h=>by rw[he]at h;cases h;exact .inl hc)];simp(disch:=omega) only[go_sem,Option.isSome_some,hc,decide_false,q2,q7,q8,hi1,b2,hgd];exact⟨ov.of fun q hq=>by simp at hq;exact(aA oM).trans (aA oM),qv.of fun q hq=>(aA oM).trans (aA oM),by omega,by omega⟩
   ·rintro σ bx ⟨q2,q7,q8,b2,ov,qv,n1,n2⟩;have hlt:¬(g.rules.length:Int)<(g.rules.length:Int):=oM;obtain⟨m,h1,h2⟩:=hw.step;have hst:pb c g.rules (out,todo) g.rules.length=(out++m,todo++m):=by rw[pb,List.take_length];exact h1
    rw[hst]at ov qv n1 n2;have hj1:g.rules.length+1 - j=g.rules.length+1 - (j+1)+1:=oM;rw[hj1,run,h1]at hrun;simp(disch:=omega) only[go_sem,q2,q7,q8,hlt,decide_false,b2,hgd];exact⟨_,_,ov,qv,h2,by simp;omega,hrun⟩
 ·rintro σ bx ⟨q2,b2,out,todo,ov,qv,hw,hn,hrun⟩;have hol:out.length<=g.rules.length:=Nat.le_trans (oc hw.nodup hw.sub) (mg _);obtain rfl:todo=[]:=List.eq_nil_of_length_eq_zero oM;obtain⟨t,e,o,es,ht,h6,bt,he1,he2⟩:=qv;have hz:¬(0:Int)<((([]:List ah).length:Nat):Int):=by simp
  simp(disch:=omega) only[go_sem,h6,hz,decide_false];obtain⟨r,hr1,hr2⟩:=ov.out (cr _);have:out=ir g.rules s:=by rw[<-hrun];unfold run;rfl
  exact⟨r,hr1,by rw[<-this];exact hr2⟩
theorem HY:sW:=fun g s hg hr hs=>(aG mixed (Kb g s hg hr) rfl aj rfl).to (fun _ _ h=>h) (fun d' bx' ⟨r,h1,h2⟩=>⟨r,h1,h2⟩)
end Go.V.Ty
