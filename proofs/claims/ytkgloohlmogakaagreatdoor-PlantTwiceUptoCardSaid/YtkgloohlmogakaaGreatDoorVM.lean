/- The operations on maps of the activation's own. One operation: what the data level says of it holds of the machine. What a step does hangs on what it looks at alone: so steps that come in no fixed order may be taken in any. -/
import Derived.Test.YtkgloohlmogakaaGreatDoorVB
import Derived.MapKept
import Derived.Maps.RangeRun
set_option linter.unusedSimpArgs false
set_option linter.unusedVariables false
namespace Go.V
open Go.RowKit
variable {P:Program} {X:Ctx} {ρ:bN} {σ:Env} {bx:ae} {a:Act} {w:World}
variable {dst:Option Tmp} {ty:TypeId} {pos:String} {af:Array Edge} {g:Option (Nat×Bool)}
theorem az.Mr{o:Obj}{es:List D}(h:az X ρ σ bx a w)(hlo:X.lo=0)(t sz:Nat)(T:TypeId)(ho:jU ρ o es):
 ∃ρ',az X ρ' σ (ao bx t ⟨(bx t).ep+1,3,sz,T,es⟩) a (w.alloc o)/\ρ' t ((bx t).ep+1)=some ⟨w.heap.size,0,0,0⟩:=by
 have hx:=h.tc (o:=o) ho.jn.1;have hρ:∀s e q,ρ s e=some q->(if s=t/\e=(bx t).ep+1 then some (Place.mk w.heap.size 0 0 0)else ρ s e)=some q:=by
  intro s e q hq;rw[if_neg]
  ·exact hq
  ·rintro⟨rfl,rfl⟩;have:=h.eps _ _ _ hq;omega
 have hne:∀s,s≠t->ao bx t ⟨(bx t).ep+1,3,sz,T,es⟩ s=bx s:=fun s hs=>by simp[ao,hs]
 have heq:ao bx t ⟨(bx t).ep+1,3,sz,T,es⟩ t=⟨(bx t).ep+1,3,sz,T,es⟩:=by simp[ao]
 have live:∀s,(lv (ao bx t ⟨(bx t).ep+1,3,sz,T,es⟩ s).k)->s≠t:=by
  intro s hk e;subst e;rw[heq]at hk;exact hk.2 rfl
 have hS:∀b,ay X ⟨ρ.at_,fun k=>if k=w.heap.size then some o else ρ.hold k⟩ bx (w.alloc o) b->ay X ⟨fun s e=>if s=t/\e=(bx t).ep+1 then some (Place.mk w.heap.size 0 0 0)else ρ s e,fun k=>if k=w.heap.size then some o else ρ.hold k⟩ (ao bx t ⟨(bx t).ep+1,3,sz,T,es⟩) (w.alloc o) b:=by
  intro b hb;refine⟨hb.1,hb.2.1,fun s hs q hq=>?_⟩;have hst:=live s (by rw[hs];decide);rw[hne s hst]at hs hq;simp only[hst,false_and,if_false]at hq;exact hb.2.2 s hs q hq
 refine⟨⟨fun s e=>if s=t/\e=(bx t).ep+1 then some (Place.mk w.heap.size 0 0 0)else ρ s e,fun k=>if k=w.heap.size then some o else ρ.hold k⟩,⟨hx.fr,hx.s0,hx.nb,hx.mb,hx.ec,hx.size,hx.marks.mono (fun _ _=>rfl) hS hρ (fun _ h=>h),hx.nle,hx.mkb,fun s=>(hx.tmps s).mono (fun _ _=>rfl) hS hρ,hx.glo.mono (fun _ _=>rfl) hS hρ,fun s hk=>?_,fun s s' p p' hk hk' hn hp hp'=>?_,fun s e p hp=>?_,fun s e p hp=>hρ s e p (h.r0 s e p hp),hx.hold,hx.holds0,h.yc,h.y0 hlo _ _,h.y0,h.h0lt,⟨fun s hs=>?_,fun s s' p p' hk hk' hn hp hp'=>?_⟩⟩,by simp⟩
 ·have hst:=live s hk;rw[hne s hst]at hk⊢;obtain⟨p,hp,h2,h3,h4,h5⟩:=hx.box s hk;exact⟨p,hρ _ _ _ hp,h2,h3,h4,h5.mono rfl (fun _ _=>rfl) hS hρ⟩
 ·have h1:=live s (by rw[hk];decide);have h2:=live s' hk';rw[hne s h1]at hk hp;rw[hne s' h2]at hk' hp';simp only[h1,false_and,if_false]at hp;simp only[h2,false_and,if_false]at hp';exact h.inj s s' p p' hk hk' hn hp hp'
 ·by_cases hst:s=t
  ·subst hst;rw[heq];dsimp only at hp⊢;split at hp
   ·rename_i he;omega
   ·have:=h.eps _ _ _ hp;omega
  ·rw[hne s hst];simp only[hst,false_and,if_false]at hp;exact h.eps _ _ _ hp
 ·by_cases hst:s=t
  ·subst hst;rw[heq];refine⟨⟨w.heap.size,0,0,0⟩,o,by simp,by simp,.inr h.fr.size,ho.mono hρ⟩
  ·rw[hne s hst]at hs⊢;obtain⟨p,o1,g1,g2,g3,g4⟩:=hx.maps.has s hs;exact⟨p,o1,hρ _ _ _ g1,g2,g3,g4.mono hρ⟩
 ·have old:∀s p,s≠t->(ao bx t ⟨(bx t).ep+1,3,sz,T,es⟩ s).k=3->(if s=t/\(ao bx t ⟨(bx t).ep+1,3,sz,T,es⟩ s).ep=(bx t).ep+1 then some (Place.mk w.heap.size 0 0 0)else ρ s (ao bx t ⟨(bx t).ep+1,3,sz,T,es⟩ s).ep)=some p->(bx s).k=3/\ρ s (bx s).ep=some p/\p.b<w.heap.size:=by
   intro s p hst hk hp;rw[hne s hst]at hk hp;simp only[hst,false_and,if_false]at hp;obtain⟨q,o1,g1,g2,_⟩:=h.maps.has s hk;rw[hp]at g1;injection g1 with g1;subst g1;exact⟨hk,hp,(Array.getElem?_eq_some_iff.1 (h.hold _ _ g2).1).1⟩
  have new:∀p,(if t=t/\(ao bx t ⟨(bx t).ep+1,3,sz,T,es⟩ t).ep=(bx t).ep+1 then some (Place.mk w.heap.size 0 0 0)else ρ t (ao bx t ⟨(bx t).ep+1,3,sz,T,es⟩ t).ep)=some p->p.b=w.heap.size:=by
   intro p hp;rw[heq]at hp;simp only[and_self,if_true,Option.some.injEq]at hp;rw[<-hp]
  by_cases h1:s=t
  ·subst h1;have e1:=new p hp;obtain⟨_,_,e2⟩:=old s' p' (Ne.symm hn) hk' hp';omega
  ·obtain⟨a1,a2,a3⟩:=old s p h1 hk hp;by_cases h2:s'=t
   ·subst h2;have e2:=new p' hp';omega
   ·obtain⟨b1,b2,b3⟩:=old s' p' h2 hk' hp';exact h.maps.inj s s' p p' a1 b1 hn a2 b2
theorem az.dW{t:Nat}{p:Place}{o o':Obj}{es':List D}(h:az X ρ σ bx a w)(hlo:X.lo=0)(hk:(bx t).k=3)(hp:ρ t (bx t).ep=some p)(hb:ρ.hold p.b=some o)(ho:jU ρ o' es')
 {w':World} (hw:Fr (fun k=>k=p.b) w w') (hw':w'.heap[p.b]? =some o'):
 az X ⟨ρ.at_,fun k=>if k=p.b then some o' else ρ.hold k⟩ σ (V.dW bx t es') a w':=by
 obtain⟨q,o1,q1,q2,hE,q4⟩:=h.maps.has t hk;rw[hp]at q1;injection q1 with q1;subst q1;rw[hb]at q2;injection q2 with q2;subst q2;have h0:X.r0.hold p.b=none\/X.E p.b:=by
  rcases hE with hE|hE
  ·exact .inr hE
  ·left;cases hr:X.r0.hold p.b with
   |none=>rfl
   |some o2=>have:=h.h0lt _ _ hr;omega
 obtain⟨g1,g2⟩:=h.hold p.b o hb;have hsame:∀k,iY w w' k:=by
  intro k o1 ho1 hc;refine(hw.block k (Array.getElem?_eq_some_iff.1 ho1).1 (fun e=>?_)).trans ho1;subst e;rw[g1]at ho1;injection ho1 with ho1;subst ho1;rw[g2]at hc;cases hc
 have hkb:∀s,(V.dW bx t es' s).k=(bx s).k/\(V.dW bx t es' s).ep=(bx s).ep:=fun s=>by
  unfold V.dW;by_cases hs:s=t
  ·subst hs;simp[ao]
  ·simp[ao,hs]
 have hnb:∀s,s≠t->V.dW bx t es' s=bx s:=fun s hs=>by simp[V.dW,ao,hs]
 have hlive:∀s,lv (bx s).k->s≠t:=fun s hs e=>by subst e;rw[hk]at hs;exact hs.2 rfl
 have hS:∀k,ay X ρ bx w k->ay X ⟨ρ.at_,fun k=>if k=p.b then some o' else ρ.hold k⟩ (V.dW bx t es') w' k:=fun k hk=>⟨Nat.lt_of_lt_of_le hk.1 hw.size,hk.2.1,fun s hs q hq=>by
  rw[(hkb s).1]at hs;rw[(hkb s).2]at hq;exact hk.2.2 s hs q hq⟩
 refine⟨h.fr.step hw (fun n hn hm=>?_),h.s0,h.nb,h.mb,h.ec,h.size,h.marks.du (fun k _=>hsame k) hS (fun _ _ _ h=>h) (fun r _ hr=>?_),h.nle,h.mkb,fun t=>(h.tmps t).du (fun k _=>hsame k) hS (fun _ _ _ h=>h),h.glo.du (fun k _=>hsame k) hS (fun _ _ _ h=>h),fun s hs=>?_,fun s s' q q' hs hs' hn hq hq'=>?_,fun s e q hq=>?_,h.r0,fun k o1 ho1=>?_,fun k o1 ho1 hnE=>?_,h.yc,h.y0 hlo _ _,h.y0,h.h0lt,⟨fun s hs=>?_,fun s s' q q' hs hs' hn hq hq'=>?_⟩⟩
 ·subst hm;rcases hE with h1|h1
  ·exact .inr h1
  ·omega
 ·show(if r=p.b then some o' else ρ.hold r)=_;rw[if_neg]
  ·exact hr
  ·intro e;subst e;rw[hb]at hr;injection hr with hr;exact q4.jn.2 _ hr
 ·rw[(hkb s).1]at hs;rw[hnb s (hlive s hs)];obtain⟨q,hq,h2,h3,h4,h5⟩:=h.box s hs;exact⟨q,hq,h2,h3,h4,h5.du (hsame _) (fun k _=>hsame k) hS (fun _ _ _ h=>h)⟩
 ·rw[(hkb s).1]at hs;rw[(hkb s').1]at hs';rw[(hkb s).2]at hq;rw[(hkb s').2]at hq';exact h.inj s s' q q' hs hs' hn hq hq'
 ·rw[(hkb s).2];exact h.eps s e q hq
 ·by_cases e:k=p.b
  ·subst e;simp only[if_true,Option.some.injEq]at ho1;subst ho1;exact⟨hw',ho.jn.1⟩
  ·simp only[e,if_false]at ho1;obtain⟨k1,k2⟩:=h.hold k o1 ho1;exact⟨(hw.block k (Array.getElem?_eq_some_iff.1 k1).1 e).trans k1,k2⟩
 ·show(if k=p.b then some o' else ρ.hold k)=_;by_cases e:k=p.b
  ·subst e;rcases h0 with h1|h1
   ·rw[ho1]at h1;cases h1
   ·exact absurd h1 hnE
  ·rw[if_neg e];exact h.holds0 k o1 ho1 hnE
 ·rw[(hkb s).1]at hs;rw[(hkb s).2];by_cases hst:s=t
  ·subst hst;refine⟨p,o',hp,by simp,hE,?_⟩;have e:(V.dW bx s es' s).es=es':=by simp[V.dW,ao]
   rw[e];exact ho.mono (ρ':=⟨ρ.at_,_⟩) (fun _ _ _ h=>h)
  ·obtain⟨q,o2,k1,k2,k3,k4⟩:=h.maps.has s hs;rw[hnb s hst];refine⟨q,o2,k1,?_,k3,k4.mono (ρ':=⟨ρ.at_,_⟩) (fun _ _ _ h=>h)⟩;show(if q.b=p.b then some o' else ρ.hold q.b)=_;rw[if_neg (h.maps.inj s t q p hs hk hst k1 hp)];exact k2
 ·rw[(hkb s).1]at hs;rw[(hkb s').1]at hs';rw[(hkb s).2]at hq;rw[(hkb s').2]at hq';exact h.maps.inj s s' q q' hs hs' hn hq hq'
def mR(w:World)(b:Nat)(o:Obj):World:={w with heap:=w.heap.setIfInBounds b o}
theorem sD{w:World}{b:Nat}{o:Obj}(h:b<w.heap.size):(mR w b o).heap[b]? =some o:=by simp[mR,h]
theorem w9(w:World)(b:Nat)(o:Obj):Fr (fun k=>k=b) w (mR w b o):=⟨rfl,rfl,rfl,by simp[mR],fun k _ hk=>by simp[mR,Ne.symm hk]⟩
theorem ej.len{ds:List D}{es:List MapEntry}(h:ej ds es):ds.length=es.length:=by
 induction h with
 |nil=>rfl
 |cons _ _ _ ih=>simp[ih]
theorem ej.snoc{ds:List D}{es:List MapEntry}{k v:D}{e:MapEntry}(h:ej ds es)(hk:d_ k e.key)(hv:d_ v e.val):ej (ds++[.tup [k,v,.int .i64 (e.born:Int)]]) (es++[e]):=by
 induction h with
 |nil=>exact .cons hk hv .nil
 |cons h1 h2 _ ih=>exact .cons h1 h2 ih
theorem ej.put{ds:List D}{es:List MapEntry}{k v:D}{kv vv:Value}(h:ej ds es)(hk:d_ k kv)(hv:d_ v vv)(j:Nat):ej (ds.modify j (uv k v)) (es.modify j fun e=>{e with key:=kv,val:=vv}):=by
 induction h generalizing j with
 |nil=>simpa using ej.nil
 |@cons k' v' e' _ _ h1 h2 t ih=>
  cases j with
  |zero=>simpa[uv]using ej.cons (e:={e' with key:=kv,val:=vv}) hk hv t
  |succ j=>simpa using ej.cons h1 h2 (ih j)
theorem ej.erase{ds:List D}{es:List MapEntry}(h:ej ds es)(j:Nat):ej (ds.eraseIdx j) (es.eraseIdx j):=by
 induction h generalizing j with
 |nil=>simpa using ej.nil
 |cons h1 h2 t ih=>
  cases j with
  |zero=>simpa using t
  |succ j=>simpa using ej.cons h1 h2 (ih j)
theorem ej.mem{ds:List D}{es:List MapEntry}(h:ej ds es):∀e∈es,∃k v,d_ k e.key/\d_ v e.val/\D.tup [k,v,.int .i64 (e.born:Int)]∈ds:=by
 induction h with
 |nil=>intro e he;cases he
 |cons h1 h2 t ih=>
  intro e he;rcases List.mem_cons.1 he with rfl|he
  ·exact⟨_,_,h1,h2,List.mem_cons_self ..⟩
  ·obtain⟨k,v,g1,g2,g3⟩:=ih e he;exact⟨k,v,g1,g2,List.mem_cons_of_mem _ g3⟩
theorem ej.Mp{ds:List D}{es:List MapEntry}(h:ej ds es):∀d∈ds,∃e∈es,∃k v,d= .tup [k,v,.int .i64 (e.born:Int)]:=by
 induction h with
 |nil=>intro e he;cases he
 |cons h1 h2 t ih=>
  intro d hd;rcases List.mem_cons.1 hd with rfl|hd
  ·exact⟨_,List.mem_cons_self ..,_,_,rfl⟩
  ·obtain⟨e,he,k,v,g⟩:=ih d hd;exact⟨e,List.mem_cons_of_mem _ he,k,v,g⟩
theorem ej.find{ds:List D}{es:List MapEntry}(h:ej ds es)(n:Nat){d:D}(hd:ds.find? (fun e=>eH e==(n:Int))=some d):∃e k v,es.find? (fun e=>e.born==n)=some e/\d= .tup [k,v,.int .i64 (e.born:Int)]/\d_ k e.key/\d_ v e.val:=by
 induction h with
 |nil=>simp at hd
 |@cons k v e ds es h1 h2 t ih=>
  simp only[List.find?_cons]at hd⊢;have e1:(eH (.tup [k,v,.int .i64 (e.born:Int)])==(n:Int))=(e.born==n):=by
   show((e.born:Int)==(n:Int))=_;rw[Bool.eq_iff_iff];simp only[beq_iff_eq];omega
  rw[e1]at hd;split at hd
  ·rename_i hb;injection hd with hd;exact⟨e,k,v,rfl,hd.symm,h1,h2⟩
  ·exact ih hd
def descOf:TK->TypeDesc
 | .int k=> .int k
 | .str=> .string
 |_=> .bool
theorem qy{t:TypeId}{k:D}{kv:Value}(h:ja (ak P t).k k=true)(hk:d_ k kv):P.underlying t=some (descOf (ak P t).k)/\MapKept.IsKey (descOf (ak P t).k) kv:=by
 unfold ja at h;split at h
 ·rename_i j k' n hj;simp only[decide_eq_true_eq]at h;subst h;rw[hj];exact⟨oE hj,by cases hk;rfl⟩
 ·rename_i hj;rw[hj];exact⟨lC hj,by cases hk;trivial⟩
 ·rename_i hj;rw[hj];exact⟨CV hj,by cases hk;trivial⟩
 ·cases h
theorem Gb{tk:TK}{k k':D}{u u':Value}{b:Bool}(h:je tk k k'=some b)(hk:d_ k u)(hk':d_ k' u'):Instr.sameNow (descOf tk) u u'=some b/\(b=true->u'=u):=by
 unfold je at h;split at h
 ·split at h
  ·rename_i he;subst he;injection h with h;cases hk;cases hk';refine⟨by simp[descOf,Instr.sameNow,h],fun hb=>?_⟩;rw[hb]at h;rw[eq_of_beq h]
  ·cases h
 ·injection h with h;cases hk;cases hk';rename_i x y;have e:((⟨x.toArray⟩:ByteArray)==⟨y.toArray⟩)=(x==y):=by
   rw[Bool.eq_iff_iff,MapKept.bytes_beq,beq_iff_eq];constructor
   ·intro h;injection h with h;simpa using h
   ·rintro rfl;rfl
  refine⟨by simp only[descOf,Instr.sameNow,e,h],fun hb=>?_⟩;rw[hb]at h;rw[eq_of_beq h]
 ·injection h with h;cases hk;cases hk';refine⟨by simp[descOf,Instr.sameNow,h],fun hb=>?_⟩;rw[hb]at h;rw[eq_of_beq h]
 ·cases h
theorem rU{tk:TK}{k:D}{kv:Value}(hk:d_ k kv){ds:List D}{es:List MapEntry}(he:ej ds es):∀(i:Nat) r,dt tk k ds i=some r->
 (r=none/\Instr.findNow (descOf tk) kv es i=some none)\/∃j v e,r=some (i+j,v)/\Instr.findNow (descOf tk) kv es i=some (some (i+j,e.val))/\d_ v e.val/\es[j]? =some e/\e.key=kv:=by
 induction he with
 |nil=>intro i r h;injection h with h;exact .inl ⟨h.symm,rfl⟩
 |@cons k' v e ds es h1 h2 t ih=>
  intro i r h;unfold dt at h;cases hs:je tk k k' with
  |none=>rw[hs]at h;cases h
  |some b=>
   obtain⟨g1,g2⟩:=Gb hs hk h1;rw[hs]at h;cases b with
   |true=>
    injection h with h;exact .inr ⟨0,v,e,h.symm,by simp[Instr.findNow,g1],h2,rfl,g2 rfl⟩
   |false=>
    rcases ih (i+1) r h with⟨q1,q2⟩|⟨j,v',e',q1,q2,q3,q4,q5⟩
    ·exact .inl ⟨q1,by simp[Instr.findNow,g1,q2]⟩
    ·exact .inr ⟨j+1,v',e',by rw[q1];simp only[Option.some.injEq,Prod.mk.injEq,and_true];omega,by simp only[Instr.findNow,g1,q2];simp only[Option.some.injEq,Prod.mk.injEq,and_true];omega,q3,by simpa using q4,q5⟩
theorem sR{t kt et:Nat}(h:(ak P t).k= .map kt et):P.underlying t=some (.map kt et):=by
 simp only[ak]at h;cases hu:P.underlying t with
 |none=>simp[hu]at h
 |some d=>cases d<;>simp[hu]at h⊢;exact h
theorem aE.z_{S:Nat->Prop}{t e:Nat}{v:Value}(h:aE w S ρ (.omap t e) v):∃p,ρ t e=some p/\v= .map (some p.b):=by
 cases h with
 |pure h=>cases h
 |omap hp=>exact⟨_,hp,rfl⟩
theorem jo(h:az X ρ σ bx a w){m:D}{vm:Value}{r:Nat×Int×List D}(hm:fq bx m=some r)(hv:aE w (ay X ρ bx w) ρ m vm):
 ∃p ents clock,(bx r.1).k=3/\ρ r.1 (bx r.1).ep=some p/\vm= .map (some p.b)/\ρ.hold p.b=some (.map ents clock)/\w.heap[p.b]? =some (.map ents clock)/\r.2.1=(clock:Int)/\ej r.2.2 ents.toList:=by
 unfold fq at hm;split at hm
 ·rename_i t e;split at hm
  ·rename_i hc;obtain⟨he,hk⟩:=hc;obtain⟨p,o,g1,g2,g3,g4⟩:=h.maps.has t hk;obtain⟨q,k1,rfl⟩:=hv.z_;rw[<-he,g1]at k1;injection k1 with k1;subst k1;have gw:=(h.hold _ _ g2).1;generalize(bx t).es=es at hm g4;unfold vD at hm;split at hm
   ·injection hm with hm;subst hm;generalize hx:D.int .i64 _::_=l at g4;cases g4 with
    |@map ents clock es hE=>
     injection hx with h1 h2;injection h1 with h1 h3;subst h2;subst h3;exact⟨p,ents,clock,hk,g1,rfl,g2,gw,rfl,hE⟩
    |iter=>injection hx with h1 h2;cases h1
   ·cases hm
  ·cases hm
 ·cases hm
theorem vu(h:az X ρ σ bx a w){x:D}{vx:Value}{r:Nat×D×Int×Int×List D}(hm:iterAt bx x=some r)(hv:aE w (ay X ρ bx w) ρ x vx):
 ∃p pm since last seen,(bx r.1).k=3/\ρ r.1 (bx r.1).ep=some p/\vx= .pointer (some ⟨p.b,0,none⟩)/\ρ.hold p.b=some (.mapIter (some pm) since seen last)/\w.heap[p.b]? =some (.mapIter (some pm) since seen last)/\
  aE w (ay X ρ bx w) ρ r.2.1 (.map (some pm))/\(∃m k q,r.2.1= .omap m k/\ρ m k=some q/\q.b=pm)/\r.2.2.1=(since:Int)/\r.2.2.2.1=(last:Int)/\r.2.2.2.2=seen.toList.map fun n:Nat=>D.int .i64 (n:Int):=by
 unfold iterAt at hm;split at hm
 ·rename_i t e;split at hm
  ·rename_i hc;obtain⟨he,hk⟩:=hc;obtain⟨p,o,g1,g2,g3,g4⟩:=h.maps.has t hk;obtain⟨q,k1,rfl⟩:=hv.iq;rw[<-he,g1]at k1;injection k1 with k1;subst k1;have gw:=(h.hold _ _ g2).1;generalize(bx t).es=es at hm g4;unfold r8 at hm;split at hm
   ·injection hm with hm;subst hm;generalize hx:D.omap _ _::_=l at g4;cases g4 with
    |map=>injection hx with h1 h2;cases h1
    |@iter m k pm since last seen hp=>
     injection hx with h1 h2;injection h2 with h3 h4;injection h4 with h5 h6;injection h1 with a1 a2;injection h3 with b1 b2;injection h5 with c1 c2;subst a1;subst a2;subst b2;subst c2;subst h6;exact⟨p,pm.b,since,last,seen,hk,g1,by simp,g2,gw,.omap hp,⟨_,_,pm,rfl,hp,rfl⟩,rfl,rfl,rfl⟩
   ·cases hm
  ·cases hm
 ·cases hm
theorem Et{t:TypeId}{z:D}(hz:zeroV P t=some z)(w:World)(S:Nat->Prop):∃v,(zeroValue t).run P w= .ok v w/\ba w S z v:=by
 unfold zeroV at hz;cases hi:P.info? t with
 |none=>simp[hi]at hz
 |some i=>
  cases h0:i.zero with
  |none=>simp[hi,h0]at hz
  |some v=>
   simp only[hi,h0,Option.bind_some,Option.map_some,Option.some.injEq]at hz;subst hz;exact⟨v,by simp[zeroValue,typeInfo,hi,h0,go_sem],w_ v⟩
theorem DH(h:az X ρ σ bx a w){T:TypeId}{m k:Operand}{ok:Bool}{d:D}(hv:ni P (ak P) (ak P T) bx (ev σ m) (ev σ k) ok=some d):Yields P X ρ bx a w ⟨dst,.lookup T m k ok,ty,pos,af,g⟩ d:=by
 have hm:=h.ev m;have hk:=h.ev k;generalize ev σ m=dm at hv hm;generalize ev σ k=dk at hv hk;unfold ni at hv;split at hv
 ·rename_i kt et hT;split at hv
  ·rename_i hko;simp only[Option.bind_eq_some_iff]at hv;obtain⟨r,hr,hv⟩:=hv;obtain⟨p,ents,clock,_,_,hvm,_,hw,_,hE⟩:=jo h hr hm;have hsk:d_ dk (a.eval k):=hk.simple (by
    unfold ja at hko;split at hko<;>first|rfl|cases hko)
   obtain⟨hu,hik⟩:=qy hko hsk;cases hf:dt (ak P kt).k dk r.2.2 0 with
   |none=>rw[hf]at hv;cases hv
   |some q=>
    rw[hf]at hv;have hmap:=sR hT;rcases rU hsk hE 0 q hf with⟨rfl,hn⟩|⟨j,v,e,rfl,hn,hsv,hj,hkey⟩
    ·simp only[mW,Option.map_eq_some_iff]at hv;obtain⟨z,hz,rfl⟩:=hv;obtain⟨zv,hzr,hzp⟩:=Et hz w (ay X ρ bx w);have hrun:(Instr.lookup T (a.eval m) (a.eval k) ok).run P w= .ok (if ok then .tuple #[zv,.bool false]else zv) w:=by
      rw[hvm];simp only[Instr.lookup,Sem.run_bind,run_underlying hmap,Result.andThen,MapKept.run_getObj_map hw,Sem.run_pure,MapKept.run_checkKey hu hik,MapKept.run_findKey hu hn,hzr]
     refine aM (if ok then .tuple #[zv,.bool false]else zv) (by simp only[execOp,Sem.run_bind,hrun,Result.andThen_ok,Sem.run_pure]) ?_;cases ok with
     |false=>exact .pure hzp
     |true=>
      refine .pure (.tup rfl fun i d v hd hv=>?_)
      match i with
      |0=>simp at hd hv;subst hd;subst hv;exact hzp
      |1=>simp at hd hv;subst hd;subst hv;exact .bool false
      |i+2=>simp at hd
    ·simp only[mW,Option.some.injEq]at hv;subst hv;have hrun:(Instr.lookup T (a.eval m) (a.eval k) ok).run P w= .ok (if ok then .tuple #[e.val,.bool true]else e.val) w:=by
      rw[hvm];simp only[Instr.lookup,Sem.run_bind,run_underlying hmap,Result.andThen,MapKept.run_getObj_map hw,Sem.run_pure,MapKept.run_checkKey hu hik,MapKept.run_findKey hu hn]
     refine aM (if ok then .tuple #[e.val,.bool true]else e.val) (by simp only[execOp,Sem.run_bind,hrun,Result.andThen_ok,Sem.run_pure]) ?_;cases ok with
     |false=>exact .pure hsv.rep
     |true=>
      refine .pure (.tup rfl fun i d v hd hv=>?_)
      match i with
      |0=>simp at hd hv;subst hd;subst hv;exact hsv.rep
      |1=>simp at hd hv;subst hd;subst hv;exact .bool true
      |i+2=>simp at hd
  ·cases hv
 ·cases hv
theorem Gn(h:az X ρ σ bx a w)(hlo:X.lo=0){T:TypeId}{m k v:Operand}{bx':ae}(hv:sS (ak P) (ak P T) bx (ev σ m) (ev σ k) (ev σ v)=some bx'):
 ∃w' ρ',(execOp a.eval ⟨dst,.mapUpdate T m k v,ty,pos,af,g⟩).run P w= .ok .skip w'/\az X ρ' σ bx' a w':=by
 have hm:=h.ev m;have hk:=h.ev k;have hvv:=h.ev v;generalize ev σ m=dm at hv hm;generalize ev σ k=dk at hv hk;generalize ev σ v=dv at hv hvv;unfold sS at hv;split at hv
 ·rename_i kt et hT;split at hv
  ·rename_i hko;obtain⟨hko,hsv⟩:=hko;simp only[Option.bind_eq_some_iff,Option.map_eq_some_iff]at hv;obtain⟨r,hr,es',hes,rfl⟩:=hv;obtain⟨p,ents,clock,h3,hp,hvm,hho,hw,hcl,hE⟩:=jo h hr hm;have hsk:d_ dk (a.eval k):=hk.simple (by
    unfold ja at hko;split at hko<;>first|rfl|cases hko)
   have hsv:=hvv.simple hsv;obtain⟨hu,hik⟩:=qy hko hsk;have hmap:=sR hT;have hlt:=(Array.getElem?_eq_some_iff.1 hw).1;have fin:∀(ents':Array MapEntry) (c':Nat),ej es'.tail ents'.toList->es'= .int .i64 (c':Int)::es'.tail->(Instr.mapUpdate T (a.eval m) (a.eval k) (a.eval v)).run P w= .ok () (mR w p.b (.map ents' c'))->
    ∃w' ρ',(execOp a.eval ⟨dst,.mapUpdate T m k v,ty,pos,af,g⟩).run P w= .ok .skip w'/\az X ρ' σ (V.dW bx r.1 es') a w':=by
    intro ents' c' hE' he hrun;refine⟨mR w p.b (.map ents' c'),_,by simp only[execOp,Sem.run_bind,hrun,Result.andThen_ok,Sem.run_pure],h.dW hlo h3 hp hho (es':=es') ?_ (w9 w p.b _) (sD hlt)⟩;rw[he];exact .map hE'
   unfold jW at hes;cases hf:dt (ak P kt).k dk r.2.2 0 with
   |none=>rw[hf]at hes;cases hes
   |some q=>
    rw[hf]at hes;rcases rU hsk hE 0 q hf with⟨rfl,hn⟩|⟨j,v0,e,rfl,hn,_,hj,hkey⟩
    ·injection hes with hes;subst hes;refine fin (ents.push {key:=a.eval k,val:=a.eval v,born:=clock}) (clock+1) ?_ (by rw[hcl];rfl) ?_
     ·rw[hcl,Array.toList_push];exact hE.snoc (e:={key:=a.eval k,val:=a.eval v,born:=clock}) hsk hsv
     ·rw[hvm];simp only[Instr.mapUpdate,Sem.run_bind,run_underlying hmap,Result.andThen,MapKept.run_getObj_map hw,MapKept.run_checkKey hu hik,MapKept.run_findKey hu hn,MapKept.run_setObj_map _ hw];rfl
    ·injection hes with hes;subst hes;rw[Nat.zero_add]at *;have hj':ents[j]? =some e:=by simpa using hj
     refine fin (ents.modify j fun e=>{e with key:=a.eval k,val:=a.eval v}) clock ?_ (by rw[hcl];rfl) ?_
     ·rw[Array.toList_modify];exact hE.put hsk hsv j
     ·rw[hvm];simp only[Instr.mapUpdate,Sem.run_bind,run_underlying hmap,Result.andThen,MapKept.run_getObj_map hw,MapKept.run_checkKey hu hik,MapKept.run_findKey hu hn,hj',Option.map_some,Option.getD_some,hkey,MapKept.run_keyThatStays hik,MapKept.run_setObj_map _ hw];rfl
  ·cases hv
 ·cases hv
theorem E1(h:az X ρ σ bx a w)(hlo:X.lo=0){args:Array Operand}{ats:Array TypeId}{bx':ae}(hv:s6 (ak P) ats.toList bx (args.toList.map (ev σ))=some bx'):
 ∃w' ρ',(execOp a.eval ⟨dst,.call {callee:=.builtin .delete,args:=args,argTypes:=ats},ty,pos,af,g⟩).run P w= .ok (.value (.tuple #[])) w'/\az X ρ' σ bx' a w':=by
 obtain⟨ats⟩:=ats;obtain⟨args⟩:=args;unfold s6 at hv;dsimp only at hv;split at hv
 case h_2=>cases hv
 rename_i T tl m' k' hxs
 match args,hxs with
 |[m,k],hxs=>
 simp only[List.map_cons,List.map_nil,List.cons.injEq,and_true]at hxs;obtain⟨rfl,rfl⟩:=hxs;have hm:=h.ev m;have hk:=h.ev k;generalize ev σ m=dm at hv hm;generalize ev σ k=dk at hv hk;unfold Dh at hv;split at hv
 ·rename_i kt et hT;split at hv
  ·rename_i hko;simp only[Option.bind_eq_some_iff,Option.map_eq_some_iff]at hv;obtain⟨r,hr,es',hes,rfl⟩:=hv;obtain⟨p,ents,clock,h3,hp,hvm,hho,hw,hcl,hE⟩:=jo h hr hm;have hsk:d_ dk (a.eval k):=hk.simple (by
    unfold ja at hko;split at hko<;>first|rfl|cases hko)
   obtain⟨hu,hik⟩:=qy hko hsk;have hmap:=sR hT;have hlt:=(Array.getElem?_eq_some_iff.1 hw).1;have fin:∀(ents':Array MapEntry),ej es'.tail ents'.toList->es'= .int .i64 (clock:Int)::es'.tail->(Builtin.delete_ (T::tl).toArray ty #[a.eval m,a.eval k]).run P w= .ok (.tuple #[]) (mR w p.b (.map ents' clock))->
    ∃w' ρ',(execOp a.eval ⟨dst,.call {callee:=.builtin .delete,args:=[m,k].toArray,argTypes:=(T::tl).toArray},ty,pos,af,g⟩).run P w= .ok (.value (.tuple #[])) w'/\az X ρ' σ (V.dW bx r.1 es') a w':=by
    intro ents' hE' he hrun;refine⟨mR w p.b (.map ents' clock),_,?_,h.dW hlo h3 hp hho (es':=es') ?_ (w9 w p.b _) (sD hlt)⟩
    ·simp only[execOp,resolve,invoke,builtin,Sem.run_bind,Sem.run_pure,Result.andThen_ok,hrun,List.map_toArray,List.map_cons,List.map_nil]
    ·rw[he];exact .map hE'
   unfold zC at hes;cases hf:dt (ak P kt).k dk r.2.2 0 with
   |none=>rw[hf]at hes;cases hes
   |some q=>
    rw[hf]at hes;rcases rU hsk hE 0 q hf with⟨rfl,hn⟩|⟨j,v0,e,rfl,hn,_,hj,hkey⟩
    ·injection hes with hes;subst hes;refine fin ents hE (by rw[hcl];rfl) ?_;rw[hvm];simp only[Builtin.delete_,Sem.run_bind,run_underlying hmap,Result.andThen,MapKept.run_getObj_map hw,MapKept.run_checkKey hu hik,MapKept.run_findKey hu hn,MapKept.run_setObj_map _ hw,List.getElem?_toArray,List.getElem?_cons_zero,List.getElem?_cons_succ,Sem.run_pure];rfl
    ·injection hes with hes;subst hes;rw[Nat.zero_add]at *;refine fin (ents.eraseIdxIfInBounds j) ?_ (by rw[hcl];rfl) ?_
     ·have hlt:j<ents.size:=by have:=(List.getElem?_eq_some_iff.1 hj).1;simpa using this
      simp only[Array.eraseIdxIfInBounds,hlt,dite_true,Array.toList_eraseIdx];exact hE.erase j
     ·rw[hvm];simp only[Builtin.delete_,Sem.run_bind,run_underlying hmap,Result.andThen,MapKept.run_getObj_map hw,MapKept.run_checkKey hu hik,MapKept.run_findKey hu hn,MapKept.run_setObj_map _ hw,List.getElem?_toArray,List.getElem?_cons_zero,List.getElem?_cons_succ,Sem.run_pure];rfl
  ·cases hv
 ·cases hv
theorem DD(h:az X ρ σ bx a w){args:Array Operand}{ats:Array TypeId}{d:D}(hk:∃T kt et,ats.toList=[T]/\(ak P T).k= .map kt et)(hv:ug bx (args.toList.map (ev σ))=some d):
 ∃v,(execOp a.eval ⟨dst,.call {callee:=.builtin .len,args:=args,argTypes:=ats},ty,pos,af,g⟩).run P w= .ok (.value v) w/\aE w (ay X ρ bx w) ρ d v:=by
 obtain⟨ats⟩:=ats;obtain⟨args⟩:=args;obtain⟨T,kt,et,rfl,hT⟩:=hk;unfold ug at hv;dsimp only at hv;split at hv
 case h_2=>cases hv
 rename_i m' hxs
 match args,hxs with
 |[m],hxs=>
 simp only[List.map_cons,List.map_nil,List.cons.injEq,and_true]at hxs;subst hxs;simp only[Option.map_eq_some_iff]at hv;obtain⟨r,hr,rfl⟩:=hv;obtain⟨p,ents,clock,h3,hp,hvm,hho,hw,hcl,hE⟩:=jo h hr (h.ev m);refine⟨.int .i64 (ents.size:Int),?_,?_⟩
 ·have hmap:=sR hT;have hrun:(Builtin.len_ [T].toArray ty #[a.eval m]).run P w= .ok (.int .i64 (ents.size:Int)) w:=by
   rw[hvm];simp only[Builtin.len_,Sem.run_bind,MapKept.run_getObj_map hw,run_underlying hmap,Result.andThen,List.getElem?_toArray,List.getElem?_cons_zero];rfl
  simp only[execOp,resolve,invoke,builtin,Sem.run_bind,Sem.run_pure,Result.andThen_ok,hrun,List.map_toArray,List.map_cons,List.map_nil]
 ·rw[hE.len,Array.length_toList];exact .pure (.int _ _)
theorem yz(h:az X ρ σ bx a w)(hlo:X.lo=0){T d s:Nat}(hd:d<X.N):
 ∃v w',(execOp a.eval ⟨some d,.makeMap T none,ty,pos,af,g⟩).run P w= .ok (.value v) w'/\
  ∃ρ',az X ρ' (ao σ d (.omap s ((bx s).ep+1))) (ao bx s ⟨(bx s).ep+1,3,0,T,[.int .i64 0]⟩) (a.put (some d) v) w':=by
 obtain⟨ρ',h',hp⟩:=h.Mr (o:=.map #[] 0) (es:=[.int .i64 0]) hlo s 0 T (.map (clock:=0) .nil);refine⟨.map (some w.heap.size),w.alloc (.map #[] 0),?_,ρ',h'.put (dst:=some d) (fun t ht=>by injection ht with ht;subst ht;exact hd) (.omap hp)⟩;simp[execOp,Instr.makeMap,Result.andThen]
theorem AR(h:az X ρ σ bx a w)(hlo:X.lo=0){T d s:Nat}{x:Operand}(hd:d<X.N){es:List D}(hv:uz (ak P T) bx (ev σ x)=some es):
 ∃v w',(execOp a.eval ⟨some d,.range T x,ty,pos,af,g⟩).run P w= .ok (.value v) w'/\
  ∃ρ',az X ρ' (ao σ d (.loc s ((bx s).ep+1) 0 0)) (ao bx s ⟨(bx s).ep+1,3,0,0,es⟩) (a.put (some d) v) w':=by
 have hx:=h.ev x;generalize ev σ x=dx at hv hx;unfold uz at hv;split at hv
 ·rename_i kt et hT;simp only[Option.map_eq_some_iff]at hv;obtain⟨r,hr,rfl⟩:=hv;obtain⟨p,ents,clock,h3,hp,hvm,hho,hw,hcl,hE⟩:=jo h hr hx;have hdx:∃t e,dx= .omap t e:=by
   unfold fq at hr;split at hr
   ·exact⟨_,_,rfl⟩
   ·cases hr
  obtain⟨t,e,rfl⟩:=hdx;obtain⟨q,k1,k2⟩:=hx.z_;have hq:q.b=p.b:=by rw[hvm]at k2;injection k2 with k2;injection k2 with k2;exact k2.symm
  obtain⟨ρ',h',hp'⟩:=h.Mr (o:=.mapIter (some q.b) clock #[] clock) (es:=[.omap t e,.int .i64 r.2.1,.int .i64 r.2.1]) hlo s 0 0 (by rw[hcl];exact .iter (seen:= #[]) k1);refine⟨.pointer (some ⟨w.heap.size,0,none⟩),w.alloc (.mapIter (some q.b) clock #[] clock),?_,ρ',h'.put (dst:=some d) (fun t ht=>by injection ht with ht;subst ht;exact hd) (.loc hp' sI)⟩;have hmap:=sR hT;have hrun:(Instr.range T (a.eval x)).run P w= .ok (.pointer (some ⟨w.heap.size,0,none⟩)) (w.alloc (.mapIter (some q.b) clock #[] clock)):=by
   rw[hvm,hq];simp[Instr.range,MapKept.run_getObj_map hw,run_underlying hmap,Result.andThen]
  simp only[execOp,Sem.run_bind,hrun,Result.andThen_ok,Sem.run_pure]
 ·cases hv
theorem o8{r:Nat}{m:Option Nat}{s l:Nat}{seen:Array Nat}(hb:w.heap[r]? =some (.mapIter m s seen l)):(getObj r).run P w= .ok (.mapIter m s seen l) w:=by simp[getObj,Sem.run,hb]
theorem Bz(h:az X ρ σ bx a w){it:Operand}{d:D}(hv:nZ bx (ev σ it)=some d):
 ∃v,(execOp a.eval ⟨dst,.entry it,ty,pos,af,g⟩).run P w= .ok (.value v) w/\aE w (ay X ρ bx w) ρ d v:=by
 have hx:=h.ev it;generalize ev σ it=dx at hv hx;simp only[nZ,Option.bind_eq_some_iff]at hv;obtain⟨i,hi,r,hr,hv⟩:=hv;obtain⟨p,pm,since,last,seen,h3,hp,hvx,hho,hw,hrep,_,hs,hl,hse⟩:=vu h hi hx;obtain⟨p2,ents,clock,m3,mp,mv,mho,mw,mcl,mE⟩:=jo h hr hrep;injection mv with mv;injection mv with mv;split at hv
 ·rename_i hcl;rw[mcl,hl]at hcl;have hcl:clock=last:=oM;subst hcl;unfold s7 at hv;rw[hse]at hv;split at hv
  ·rename_i s hgl;rw[List.getLast?_map,Option.map_eq_some_iff]at hgl;obtain⟨n,hn,rfl⟩:=hgl;have hback:seen.back? =some n:=by rw[<-Array.getLast?_toList];exact hn
   split at hv
   ·rename_i k v b hf;injection hv with hv;subst hv;obtain⟨e,k',v',g1,g2,g3,g4⟩:=mE.find n hf;injection g2 with g2;injection g2 with a1 a2;injection a2 with a3 a4;subst a1;subst a3;refine⟨.tuple #[e.key,e.val],?_,?_⟩
    ·have hrun:(Instr.entry (a.eval it)).run P w= .ok (.tuple #[e.key,e.val]) w:=by
      rw[hvx];subst mv;simp only[Instr.entry,Sem.run_bind,o8 hw,MapKept.run_getObj_map mw,Result.andThen,hback,bne_self_eq_false,Bool.false_eq_true,if_false];rw[<-Array.find?_toList,g1];rfl
     simp only[execOp,Sem.run_bind,hrun,Result.andThen_ok,Sem.run_pure]
    ·refine .pure (.tup rfl fun i d v hd hv=>?_)
     match i with
     |0=>simp at hd hv;subst hd;subst hv;exact g3.rep
     |1=>simp at hd hv;subst hd;subst hv;exact g4.rep
     |i+2=>simp at hd
   ·cases hv
  ·cases hv
 ·cases hv
theorem xc(n:Nat)(hn:0<n)(w:World):∃(j:Nat) (w1:World),j<n/\(w1=w\/w1=w.drew)/\(choose (Question.mapNext n)).run P w= .ok j w1:=by
 by_cases hf:n<=1
 ·exact⟨0,w,by omega,Or.inl rfl,by simp[choose,Sem.run,Question.forced,hf]⟩
 ·exact⟨_,w.drew,Nat.mod_lt _ hn,Or.inr rfl,by
   simp only[choose,Sem.run,Question.forced,decide_eq_true_eq,hf,if_false,Question.cut];rfl⟩
theorem rD(seen:Array Nat)(n:Nat):((seen.toList.map fun n:Nat=>D.int .i64 (n:Int)).map intOf).contains (n:Int)=seen.contains n:=by
 rw[Bool.eq_iff_iff];simp only[List.map_map,List.contains_iff_mem,List.mem_map,Function.comp_apply,intOf,Array.contains_iff_mem,<-Array.mem_toList_iff];constructor
 ·rintro⟨m,hm,he⟩;have:m=n:=oM;exact this▸hm
 ·intro hm;exact⟨n,hm,rfl⟩
theorem DP(h:az X ρ σ bx a w)(hlo:X.lo=0){it:Operand}{K:D->ae->Prop}(hn:qC bx (ev σ it) K):
 ∃d bx' ρ' v w',(execOp a.eval ⟨dst,.next it false,ty,pos,af,g⟩).run P w= .ok (.value v) w'/\K d bx'/\az X ρ' σ bx' a w'/\aE w' (ay X ρ' bx' w') ρ' d v:=by
 have hx:=h.ev it;generalize ev σ it=dx at hn hx;unfold qC at hn;cases hi:iterAt bx dx with
 |none=>rw[hi]at hn;exact hn.elim
 |some i=>
 rw[hi]at hn;dsimp only[aI]at hn;cases hr:fq bx i.2.1 with
 |none=>rw[hr]at hn;exact hn.elim
 |some r=>
 rw[hr]at hn;dsimp only at hn;obtain⟨hne,hstep,hover⟩:=hn;obtain⟨p,pm,since,last,seen,h3,hp,hvx,hho,hw,hrep,⟨mt,mk,mq,hm1,hm2,hm3⟩,hs,hl,hse⟩:=vu h hi hx;obtain⟨p2,ents,clock,m3,mp,mv,mho,mw,mcl,mE⟩:=jo h hr hrep;injection mv with mv;injection mv with mv;subst mv;rw[hl,hse]at hne;rw[hs,hse]at hstep hover;have hg:(!seen.isEmpty&& !ents.isEmpty&&ents.all (fun e=>decide (e.born>=last)))=false:=by
  rcases hne with hne|hne|⟨e,he,hb⟩
  ·have:seen= #[]:=by
    rw[List.map_eq_nil_iff]at hne;exact Array.toList_eq_nil_iff.1 hne
   subst this;rfl
  ·have:ents= #[]:=by
    have:=mE.len;rw[hne]at this;simpa using this.symm
   subst this;simp
  ·obtain⟨e',he',k,v,rfl⟩:=mE.Mp e he;have hb:e'.born<last:=by simp only[eH]at hb;omega
   have:ents.all (fun e=>decide (e.born>=last))=false:=by
    rw[Bool.eq_false_iff];intro hall;rw[Array.all_eq_true']at hall;have:=hall e' (Array.mem_toList_iff.1 he');simp only[decide_eq_true_eq]at this;omega
   rw[this,Bool.and_false]
 have hleft:∀e∈ents.toList,seen.contains e.born=false->∃k v,d_ k e.key/\d_ v e.val/\D.tup [k,v,.int .i64 (e.born:Int)]∈fa (seen.toList.map fun n:Nat=>D.int .i64 (n:Int)) r.2.2:=by
  intro e he hse;obtain⟨k,v,g1,g2,g3⟩:=mE.mem e he;refine⟨k,v,g1,g2,?_⟩;unfold fa;rw[List.mem_filter];refine⟨g3,?_⟩;show(!(((seen.toList.map fun n:Nat=>D.int .i64 (n:Int)).map intOf).contains (e.born:Int)))=true;rw[rD,hse];rfl
 have hrun:∃c w1,(w1=w\/w1=w.drew)/\((c=none/\(∀e∈ents.toList,seen.contains e.born=false->since<=e.born)/\(Instr.next (a.eval it) false ty).run P w= .ok (.tuple #[.bool false]) w1)\/
  ∃e∈ents.toList,c=some e/\seen.contains e.born=false/\(Instr.next (a.eval it) false ty).run P w= .ok (.tuple #[.bool true,e.key,e.val]) (mR w1 p.b (.mapIter (some p2.b) since (seen.push e.born) clock))):=by
  rw[hvx];simp only[Instr.next,Sem.run_bind,o8 hw,MapKept.run_getObj_map mw,Result.andThen,hg,Bool.false_eq_true,if_false];generalize hL:(ents.filter fun e=> !seen.contains e.born)=L;have memL:∀e∈L.toList,e∈ents.toList/\seen.contains e.born=false:=by
   intro e he;rw[<-hL]at he;simpa using he
  have memL2:∀e∈ents.toList,seen.contains e.born=false->e∈L.toList:=by
   intro e he hc;rw[<-hL];simpa using⟨Array.mem_toList_iff.1 he,by simpa using hc⟩
  generalize hO:(L.filter fun e=>decide (e.born<since))=O;generalize hN:(L.filter fun e=>decide (e.born>=since))=N';have hsz:0<((if O.isEmpty=true then #[none]else #[])++(O++N').map some:Array (Option MapEntry)).size:=by
   by_cases hoe:O.isEmpty=true
   ·simp only[hoe,if_true,Array.size_append,Array.size_map];simp;omega
   ·have:0<O.size:=by
     rcases Nat.eq_zero_or_pos O.size with h0|h0
     ·exact absurd (by simpa[Array.isEmpty]using h0) hoe
     ·exact h0
    simp only[Array.size_append,Array.size_map];omega
  obtain⟨j,w1,hj,hw1,hch⟩:=xc (P:=P) _ hsz w;simp only[hch];have hget:=Array.getElem?_eq_getElem hj;generalize(((if O.isEmpty=true then #[none]else #[])++(O++N').map some:Array (Option MapEntry))[j])=c at hget;have hmem:c∈((if O.isEmpty=true then #[none]else #[])++(O++N').map some:Array (Option MapEntry)):=Array.mem_of_getElem? hget;rw[hget];refine⟨c,w1,hw1,?_⟩;have hw1h:w1.heap=w.heap:=by rcases hw1 with rfl|rfl<;>rfl
  cases c with
  |none=>
   refine .inl ⟨rfl,fun e he hc=>?_,rfl⟩;have hoe:O.isEmpty=true:=by
    rw[Array.mem_append]at hmem;rcases hmem with hmem|hmem
    ·by_cases hoe:O.isEmpty=true
     ·exact hoe
     ·simp[hoe]at hmem
    ·simp at hmem
   rcases Nat.lt_or_ge e.born since with hlt|hge
   ·exfalso;have:e∈O.toList:=by
     rw[<-hO];simpa using⟨by simpa using memL2 e he hc,hlt⟩
    have h0:O= #[]:=by simpa[Array.isEmpty]using hoe
    rw[h0]at this;simp at this
   ·exact hge
  |some e=>
   have he:e∈L.toList:=by
    rw[Array.mem_append]at hmem;rcases hmem with hmem|hmem
    ·by_cases hoe:O.isEmpty=true<;>simp[hoe]at hmem
    ·rw[<-hO,<-hN]at hmem;simp at hmem;rcases hmem with hmem|hmem
     ·simpa using hmem.1
     ·simpa using hmem.1
   obtain⟨g1,g2⟩:=memL e he;refine .inr ⟨e,g1,rfl,g2,?_⟩;have hset:(setObj p.b (.mapIter (some p2.b) since (seen.push e.born) clock)).run P w1= .ok () (mR w1 p.b (.mapIter (some p2.b) since (seen.push e.born) clock)):=by
    have:w1.heap[p.b]? =some (.mapIter (some p2.b) since seen last):=by rw[hw1h];exact hw
    simp[setObj,Sem.run,this,mR]
   simp only[Sem.run_bind,hset,Result.andThen];rfl
 obtain⟨c,w1,hw1,hrun⟩:=hrun;have hb1:Below w.heap.size w w1:=by
  rcases hw1 with rfl|rfl
  ·exact Below.refl _ _
  ·exact⟨rfl,rfl,rfl,Nat.le_refl _,fun _ _=>rfl⟩
 have h1:=h.ext hb1;rcases hrun with⟨_,hall,hrun⟩|⟨e,he,_,hse',hrun⟩
 ·refine⟨_,_,ρ,_,w1,by simp only[execOp,Sem.run_bind,hrun,Result.andThen_ok,Sem.run_pure];rfl,hover fun d hd=>?_,h1,.pure (.tup rfl fun i d v hd hv=>?_)⟩
  ·unfold fa at hd;rw[List.mem_filter]at hd;obtain⟨hd,hc⟩:=hd;obtain⟨e,he,k,v,rfl⟩:=mE.Mp d hd;have hc2:seen.contains e.born=false:=by
    have:(!(((seen.toList.map fun n:Nat=>D.int .i64 (n:Int)).map intOf).contains (e.born:Int)))=true:=hc;rw[rD]at this;simpa using this
   have:=hall e he hc2;simp only[eH];omega
  ·match i with
   |0=>simp at hd hv;subst hd;subst hv;exact .bool false
   |i+1=>simp at hd
 ·obtain⟨k,v,g1,g2,g3⟩:=hleft e he hse';have hlt:p.b<w1.heap.size:=Nat.lt_of_lt_of_le (Array.getElem?_eq_some_iff.1 hw).1 hb1.size;have hNO:jU ρ (.mapIter (some p2.b) since (seen.push e.born) clock) (i.2.1:: .int .i64 (since:Int):: .int .i64 r.2.1::((seen.toList.map fun n:Nat=>D.int .i64 (n:Int))++[.int .i64 (e.born:Int)])):=by
   rw[hm1,<-hm3,mcl];have:=jU.iter (ρ:=ρ) (p:=mq) (since:=since) (last:=clock) (seen:=seen.push e.born) hm2;simpa using this
  have h2:=h1.dW hlo h3 hp hho hNO (w9 w1 p.b _) (sD hlt);refine⟨_,_,_,_,_,by simp only[execOp,Sem.run_bind,hrun,Result.andThen_ok,Sem.run_pure];rfl,hstep k v e.born g3,h2,.pure (.tup rfl fun i d v hd hv=>?_)⟩
  match i with
  |0=>simp at hd hv;subst hd;subst hv;exact .bool true
  |1=>simp at hd hv;subst hd;subst hv;exact g1.rep
  |2=>simp at hd hv;subst hd;subst hv;exact g2.rep
  |i+3=>simp at hd
end Go.V
namespace Go.V
open Go.RowKit
abbrev Fw(r:Option Nat):Fence:={Fence.wide with round:=r}
variable {P:Program} {C:Calc} {X:Ctx} {ρ:bN} {σ:Env} {bx:ae} {a:Act} {w:World} {r:Option Nat} {n:Nat}
theorem qn{f:FuncId}{args:Array Value}{R:Ending->World->Prop}(h:Calls P f args w R):CallsIn (Fw r) n P f args w R:=callsIn_wide.2 h
section
variable {o:Oper} {next:Act->World->Prop} {Q:Exit->Act->World->Prop}
theorem eb(hd:∀c,o.op≠ .defer c){v:Value}{w':World}(hr:(execOp a.eval o).run P w= .ok (.value v) w')(hn:next (a.put o.dst v) w'):o.wpIn (Fw r) n P a w next Q:=by
 refine⟨fun _ _=>trivial,?_⟩;rw[Oper.semAt_eq _ _ _ hd,hr];exact hn
theorem CW(hd:∀c,o.op≠ .defer c){w':World}(hr:(execOp a.eval o).run P w= .ok .skip w')(hn:next (a.put o.dst undef) w'):o.wpIn (Fw r) n P a w next Q:=by
 refine⟨fun _ _=>trivial,?_⟩;rw[Oper.semAt_eq _ _ _ hd,hr];exact hn
theorem xg{c:Call}(ho:o.op= .call c){f:FuncId}{vs:Array Value}(hr:(execOp a.eval o).run P w=(callFunc f vs).run P w)(hc:kk P f vs w (fun v w'=>next (a.put o.dst v) w') (fun v w'=>Q (.panic [pe v]) a w')):o.wpIn (Fw r) n P a w next Q:=by
 refine⟨fun _ _=>trivial,?_⟩;rw[Oper.semAt_eq _ _ _ (by rw[ho];simp),hr];rcases hc with⟨h1,h2⟩|⟨v,w',h1,h2⟩
 ·rw[h1];refine⟨fun h=>by simp[Fence.wide]at h,qn (Calls.mono h2 ?_)⟩;rintro e w' (⟨v,rfl,hv⟩|⟨v,rfl,hv⟩)
  ·exact hv
  ·exact hv
 ·rw[h1];exact h2
theorem Iy(hd:∀c,o.op≠ .defer c){v:Value}{w':World}(hr:(execOp a.eval o).run P w= .halt (.panic v) w')(hn:Q (.panic [pe v]) a w'):o.wpIn (Fw r) n P a w next Q:=by
 refine⟨fun _ _=>trivial,?_⟩;rw[Oper.semAt_eq _ _ _ hd,hr];exact hn
end
theorem uC(d x:D):jQ d≠ .pan x:=by unfold jQ;split<;>simp
theorem Bb(d x:D):ij d≠ .pan x:=by unfold ij;split<;>simp
theorem az.HX{dst:Option Tmp}(h:az X ρ σ bx a w)(hd:∀t,dst=some t->t<X.N):az X ρ (V.put σ dst .undef) bx a w:=by
 cases dst with
 |none=>exact h
 |some t=>
  have hdf:cB≠t:=by
   intro e;exact absurd (hd t rfl) (by rw[<-e];exact Nat.not_lt.2 h.nle)
  refine {h with marks:= ?_,tmps:=fun x=>?_}
  ·simpa[V.put,ao,hdf]using h.marks
  ·simp only[V.put,ao];by_cases hx:x=t
   ·simp only[hx,if_true];exact aE.pure (ba.undef _)
   ·simp only[hx,if_false];exact h.tmps x
theorem uD(h:az X ρ σ bx a w){o:Oper}{cl:D->Cl}(hdst:∀t,o.dst=some t->t<X.N){K:Cl->Env->ae->Prop}(hs:aI (bR P σ bx o.op) fun v=>K (cl v) (put σ o.dst v) bx)(hcl:∀d x,cl d≠ .pan x)
 {next:Act->World->Prop} {Q:Exit->Act->World->Prop} (hK:∀c σ' bx' a' w' ρ',(∀x,c≠ .pan x)->K c σ' bx'->az X ρ' σ' bx' a' w'->next a' w'):o.wpIn (Fw r) n P a w next Q:=by
 cases hv:bR P σ bx o.op with
 |none=>rw[hv]at hs;exact hs.elim
 |some d=>
  rw[hv]at hs;obtain⟨v,w',hr,hb,hrep⟩:=yo h o hv;refine eb (fun c hc=>by rw[hc]at hv;simp[bR]at hv) hr (hK _ _ _ _ _ _ (hcl d) hs ((h.ext hb).put hdst ?_));exact hrep
theorem Ba(d x:D):rf d≠ .pan x:=by unfold rf;split<;>simp
theorem DK(h:az X ρ σ bx a w)(xlo:X.lo=0){dst:Option Tmp}{op:Op}{ty:TypeId}{pos:String}{af:Array Edge}{g:Option (Nat×Bool)}(hmo:kh P op=true)(hdst:∀t,dst=some t->t<X.N){K:Cl->Env->ae->Prop}(hs:eW P C dst op σ bx K)
 {next:Act->World->Prop} {Q:Exit->Act->World->Prop} (hK:∀c σ' bx' a' w' ρ',(∀x,c≠ .pan x)->K c σ' bx'->az X ρ' σ' bx' a' w'->next a' w'):(Oper.mk dst op ty pos af g).wpIn (Fw r) n P a w next Q:=by
 unfold eW at hs;split at hs
 ·rename_i T;split at hs
  ·rename_i d;obtain⟨v,w',hr,ρ',h'⟩:=yz (T:=T) (s:=C.base+d) (ty:=ty) (pos:=pos) (af:=af) (g:=g) (P:=P) h xlo (hdst d rfl);exact eb sI hr (hK _ _ _ _ _ _ (by intro x;simp) hs h')
  ·exact hs.elim
 ·rename_i T m k v;cases hz:sS (ak P) (ak P T) bx (ev σ m) (ev σ k) (ev σ v)with
  |none=>rw[hz]at hs;exact hs.elim
  |some bx'=>
   rw[hz]at hs;obtain⟨w',ρ',hr,h'⟩:=Gn (dst:=dst) (ty:=ty) (pos:=pos) (af:=af) (g:=g) h xlo hz;exact CW sI hr (hK _ _ _ _ _ _ (by intro x;simp) hs (h'.put hdst (.pure (.raw _))))
 ·rename_i T x;split at hs
  ·rename_i d;cases hz:uz (ak P T) bx (ev σ x)with
   |none=>rw[hz]at hs;exact hs.elim
   |some es=>
    rw[hz]at hs;obtain⟨v,w',hr,ρ',h'⟩:=AR (s:=C.base+d) (ty:=ty) (pos:=pos) (af:=af) (g:=g) h xlo (hdst d rfl) hz;exact eb sI hr (hK _ _ _ _ _ _ (by intro x;simp) hs h')
  ·exact hs.elim
 ·rename_i it;obtain⟨d,bx',ρ',v,w',hr,hk,h',hrep⟩:=DP (dst:=dst) (ty:=ty) (pos:=pos) (af:=af) (g:=g) (P:=P) h xlo hs;exact eb sI hr (hK _ _ _ _ _ _ (by intro x;simp) hk (h'.put hdst hrep))
 ·rename_i it;cases hz:nZ bx (ev σ it)with
  |none=>rw[hz]at hs;exact hs.elim
  |some d=>
   rw[hz]at hs;obtain⟨v,hr,hrep⟩:=Bz (dst:=dst) (ty:=ty) (pos:=pos) (af:=af) (g:=g) (P:=P) h hz;exact eb sI hr (hK _ _ _ _ _ _ (by intro x;simp) hs (h.put hdst hrep))
 ·rename_i b args ats;split at hs
  ·cases hz:s6 (ak P) ats.toList bx (args.toList.map (ev σ))with
   |none=>rw[hz]at hs;exact hs.elim
   |some bx'=>
    rw[hz]at hs;obtain⟨w',ρ',hr,h'⟩:=E1 (dst:=dst) (ty:=ty) (pos:=pos) (af:=af) (g:=g) h xlo hz;exact eb sI hr (hK _ _ _ _ _ _ (by intro x;simp) hs (h'.put hdst (.pure (.raw _))))
  ·cases hz:ug bx (args.toList.map (ev σ))with
   |none=>rw[hz]at hs;exact hs.elim
   |some d=>
    rw[hz]at hs;have hk:∃T kt et,ats.toList=[T]/\(ak P T).k= .map kt et:=by
     simp only[kh]at hmo;split at hmo
     ·rename_i T hT;refine⟨T,?_⟩;cases hk:(ak P T).k<;>rw[hk]at hmo<;>simp[TK.isMap]at hmo;exact⟨_,_,hT,rfl⟩
     ·cases hmo
    obtain⟨v,hr,hrep⟩:=DD (dst:=dst) (ty:=ty) (pos:=pos) (af:=af) (g:=g) h hk hz;exact eb sI hr (hK _ _ _ _ _ _ (by intro x;simp) hs (h.put hdst hrep))
  ·cases hz:rO C.lo (ak P) ats.toList bx (args.toList.map (ev σ))with
   |none=>rw[hz]at hs;exact hs.elim
   |some rr=>
    rw[hz]at hs;obtain⟨args⟩:=args;obtain⟨ats⟩:=ats;dsimp only at hz;unfold rO at hz;split at hz
    case h_2=>cases hz
    rename_i T T' d1 d2 hxs
    match args,hxs with
    |[x,y],hxs=>
    simp only[List.map_cons,List.map_nil,List.cons.injEq,and_true]at hxs;obtain⟨rfl,rfl⟩:=hxs;obtain⟨v,w',hr,h'⟩:=Dg (ty:=ty) (pos:=pos) (af:=af) (g:=g) h hdst (lo:=C.lo) oM hz;exact eb sI hr (hK _ _ _ _ _ _ (by intro x;simp) hs h')
  ·exact hs.elim
 ·exact hs.elim
theorem DL{t:TypeId}{name:String}{f:FuncId}{u:Value}(h:nj P t name=some f)(k:Nat):(method (k+1) t u name).run P w= .ok (f,u) w:=by
 unfold nj at h;split at h
 ·rename_i i d hi hu;have key:∀d,P.underlying t=some d->(∀e,d≠ .pointer e)->(match i.methods.find? (·.name==name)with
   |some m=>if m.path.size=0 then(match m.func with
    |some (f,false)=>some f
    |_=>none)else none
   |none=>none)=some f->(method (k+1) t u name).run P w= .ok (f,u) w:=by
   intro d hu hd h;split at h
   ·rename_i m hm;split at h
    ·rename_i hp;split at h
     ·rename_i f' hf;injection h with h;subst h;have hp2:m.path.toList=[]:=by
       rw[<-Array.length_toList]at hp;exact List.eq_nil_of_length_eq_zero hp
      have hrec:∀nm,(receiverAt t (.val u) false nm).run P w= .ok u w:=by
       intro nm;unfold receiverAt;simp only[Sem.run_bind,run_underlying hu,Result.andThen_ok];cases d<;>first|(exact absurd rfl (hd _))|simp[Place.get]
      unfold method;simp[typeInfo,hi,hm,hp2,follow,hf,hrec,go_sem]
     ·cases h
    ·cases h
   ·cases h
  cases d<;>first|(cases h;done)|exact key _ hu (by intro e;simp) h
 ·cases h
theorem Dy{recv:Operand}{name:String}{args:Array Operand}{ats:Array TypeId}{dst:Option Tmp}{ty:TypeId}{pos:String}{af:Array Edge}{g:Option (Nat×Bool)}{t:TypeId}{u:Value}{f:FuncId}(hr:a.eval recv= .iface t u)(hm:nj P t name=some f):
 (execOp a.eval ⟨dst,.call {callee:=.invoke recv name,args,argTypes:=ats},ty,pos,af,g⟩).run P w=(callFunc f (#[u]++args.map a.eval)).run P w:=by
 obtain⟨k,hk⟩:∃k,P.types.size+Made.depth=k+1:=⟨P.types.size+99,rfl⟩
 have h2:(#[a.eval recv]++args.map a.eval).extract 1 (#[a.eval recv]++args.map a.eval).size=args.map a.eval:=by
  apply Array.toList_inj.1;simp[List.take_of_length_le]
 generalize hA: #[a.eval recv]++args.map a.eval=A at h2;have h1:A[0]? =some (.iface t u):=by rw[<-hA,Array.getElem?_append_left (by decide:0<1)];exact congrArg some hr
 have hmr:=DL (w:=w) (u:=u) hm k;simp only[execOp,resolve,invoke,Sem.run_bind,Sem.run_pure,Result.andThen_ok,hA,h1,h2,callMethod,run_program,hk,hmr]
theorem wq(h:az X ρ σ bx a w)(hG:Good P C X)(hrd:∀l,r=some l->X.md=1){o:Oper}(hdst:∀t,o.dst=some t->t<X.N){K:Cl->Env->ae->Prop}(hs:aZ P C o σ bx K)
 {next:Act->World->Prop} {Q:Exit->Act->World->Prop} (hK:∀c σ' bx' a' w' ρ',(∀x,c≠ .pan x)->K c σ' bx'->az X ρ' σ' bx' a' w'->next a' w')
 (hP:∀d σ' bx' a' w' ρ' v,K (.pan d) σ' bx'->az X ρ' σ' bx' a' w'->aE w' (ay X ρ' bx' w') ρ' d v->Q (.panic [pe v]) a' w'):o.wpIn (Fw r) n P a w next Q:=by
 unfold aZ at hs;obtain⟨dst,op,ty,pos,af,g⟩:=o;dsimp only at hs hdst;split at hs
 ·rename_i T;split at hs
  ·rename_i d;cases hz:rz (fw (ak P T)) (mX (ak P T) (zeroV P T))with
   |none=>rw[hz]at hs;exact hs.elim
   |some z=>
    rw[hz]at hs;obtain⟨v,w',hr,ρ',h'⟩:=Bq (ty:=ty) (pos:=pos) (af:=af) (g:=g) h (hdst d rfl) (Nat.le_trans hG.base (Nat.le_add_right C.base d)) hz;exact eb sI hr (hK _ _ _ _ _ _ (by intro x;simp) hs h')
  ·exact hs.elim
 ·rename_i T x;split at hs
  ·rename_i d;cases hz:rJ (ak P T) (ev σ x)with
   |none=>rw[hz]at hs;exact hs.elim
   |some z=>
    rw[hz]at hs;obtain⟨v,w',hr,ρ',h'⟩:=EH (ty:=ty) (pos:=pos) (af:=af) (g:=g) h (hdst d rfl) (Nat.le_trans hG.base (Nat.le_add_right C.base d)) hz;exact eb sI hr (hK _ _ _ _ _ _ (by intro x;simp) hs h')
  ·exact hs.elim
 ·rename_i T x y;cases hz:pR (ez C.lo (ak P T) bx (ev σ x) (ev σ y)) (mX (ak P T) (zeroV P T)) bx (ev σ x) (ev σ y)with
  |none=>rw[hz]at hs;exact hs.elim
  |some bx'=>
   rw[hz]at hs;obtain⟨w',hr,ρ',h'⟩:=BS (ty:=ty) (pos:=pos) (af:=af) (g:=g) h hdst hG.lo hz;exact CW sI hr (hK _ _ _ _ _ _ (Bb _) hs h')
 ·rename_i T x;exact uD (o:=⟨dst,.load T x,ty,pos,af,g⟩) (cl:=fun _=>jQ (ev σ x)) h hdst hs (fun _=>uC _) hK
 ·rename_i args ats;split at hs
  ·obtain⟨_,hs⟩:=hs;cases hz:C4 C.lo (ak P) ats.toList (gS C.base dst) bx (args.toList.map (ev σ))with
   |none=>rw[hz]at hs;exact hs.elim
   |some rr=>
    rw[hz]at hs;obtain⟨args⟩:=args;obtain⟨ats⟩:=ats;dsimp only at hz;unfold C4 at hz;split at hz
    case h_2=>cases hz
    rename_i T T' d1 d2 hxs
    match args,hxs with
    |[x,y],hxs=>
    simp only[List.map_cons,List.map_nil,List.cons.injEq,and_true]at hxs;obtain⟨rfl,rfl⟩:=hxs;obtain⟨v,w',hr,ρ',h'|h'⟩:=rq (ty:=ty) (pos:=pos) (af:=af) (g:=g) h hdst hG.lo hG.base hz
    ·exact eb sI hr (hK _ _ _ _ _ _ (by intro x;simp) hs.1 h')
    ·exact eb sI hr (hK _ _ _ _ _ _ (by intro x;simp) hs.2 h')
  ·cases hz:yC C.lo (ak P) ats.toList (gS C.base dst) bx (args.toList.map (ev σ))with
   |none=>rw[hz]at hs;exact hs.elim
   |some rr=>
    rw[hz]at hs;obtain⟨args⟩:=args;obtain⟨ats⟩:=ats;dsimp only at hz;unfold yC at hz;split at hz
    case h_2=>cases hz
    rename_i T T' d1 d2 hxs
    match args,hxs with
    |[x,y],hxs=>
    simp only[List.map_cons,List.map_nil,List.cons.injEq,and_true]at hxs;obtain⟨rfl,rfl⟩:=hxs;obtain⟨v,w',hr,ρ',h'⟩:=ze (ty:=ty) (pos:=pos) (af:=af) (g:=g) h hdst hG.lo hG.base hz;exact eb sI hr (hK _ _ _ _ _ _ (by intro x;simp) hs h')
 ·rename_i fo args ats;have hfo:=h.ev fo;generalize ev σ fo=df at hs hfo;unfold iA at hs;split at hs
  ·rename_i f caps;obtain⟨vs,hval,hl,hv⟩:=hfo.pO;refine xg (c:={callee:=.value fo,args:=args,argTypes:=ats}) rfl (f:=f) (vs:=args.map a.eval++vs) (by simp[execOp,resolve,hval,Deferred.ofValue,invoke]) ?_;have hc:=py (vs:=args.map a.eval++vs) h hG (by simp[hl]) (fun i x v hx hv'=>by
    rw[Array.getElem?_append]at hv';rw[List.getElem?_append]at hx;simp only[List.length_map,Array.length_toList,Array.size_map]at hx hv';split at hv'
    ·rename_i hlt;rw[if_pos hlt]at hx;simp only[List.getElem?_map,Array.getElem?_toList,Array.getElem?_map,Option.map_eq_some_iff]at hx hv';obtain⟨o1,h1,rfl⟩:=hx;obtain⟨o2,h2,rfl⟩:=hv';rw[h1]at h2;injection h2 with h2;subst h2;exact h.ev o1
    ·rename_i hlt;rw[if_neg hlt]at hx;exact hv _ _ _ hx hv') hs
   refine hc.mono ?_ ?_
   ·rintro v w' ⟨c,d,bx',ρ',g0,g1,g2,g3⟩;exact hK _ _ _ _ _ _ g0 g1 (g2.put hdst g3)
   ·rintro v w' ⟨d,bx',ρ',g1,g2,g3⟩;exact hP _ _ _ _ _ _ _ g1 (g2.HX hdst) g3
  ·rename_i l;obtain⟨vs,hval,hl,_⟩:=hfo.pO;have hvs:vs= #[]:=by simpa using hl
   subst hvs;unfold lF at hs;split at hs
   ·rename_i items gs l' hyl;obtain⟨⟨rfl,hp,hi⟩,hK2⟩:=hs;obtain⟨f,tm,as,bd,hr,hround⟩:=hG.yok items gs l' hyl ρ σ bx a w (args.map a.eval) (args.toList.map (ev σ)) h hi sI (fun i x v hx hv=>by
     simp only[List.getElem?_map,Array.getElem?_toList,Array.getElem?_map,Option.map_eq_some_iff]at hx hv;obtain⟨o1,h1,rfl⟩:=hx;obtain⟨o2,h2,rfl⟩:=hv;rw[h1]at h2;injection h2 with h2;subst h2;exact(h.ev o1).dK (o6 _ hp i _ (by simp only[List.getElem?_map,Array.getElem?_toList,h1,Option.map_some])))
    refine⟨fun _ _=>trivial,?_⟩;rw[Oper.semAt_eq _ _ _ sI];have hrun:(execOp a.eval ⟨dst,.call {callee:=.value fo,args:=args,argTypes:=ats},ty,pos,af,g⟩).run P w= .ok (.round l' f tm as bd) w:=by
     simp only[execOp,resolve,hval,Deferred.ofValue,invoke,Sem.run_bind,Sem.run_pure,Result.andThen_ok,Array.empty_append];exact hr
    rw[hrun];refine⟨fun h=>by simp[Fence.wide]at h,?_⟩;refine RoundIn.mono (show RoundIn (Fw r) _ P l' f tm as bd w _ from hround _) ?_;rintro e w2 ⟨ρ2,bx1,b,rfl,hS⟩;cases b with
    |true=>exact hK _ _ _ _ _ _ (by intro x;simp) (hK2 bx1).1 (hS.put hdst (.pure (.bool true)))
    |false=>exact hK _ _ _ _ _ _ (by intro x;simp) (hK2 bx1).2 (hS.put hdst (.pure (.bool false)))
   ·exact hs.elim
  ·rename_i f caps;obtain⟨vs,hval,hl,hv⟩:=hfo.Cv;refine xg (c:={callee:=.value fo,args:=args,argTypes:=ats}) rfl (f:=f) (vs:=vs++args.map a.eval) (by simp[execOp,resolve,hval,Deferred.ofValue,invoke]) ?_;have hc:=py (vs:=vs++args.map a.eval) h hG (by simp[hl]) (fun i x v hx hv'=>by
    rw[Array.getElem?_append]at hv';rw[List.getElem?_append]at hx;rw[hl]at hv';split at hv'
    ·rename_i hlt;rw[if_pos hlt]at hx;exact hv _ _ _ hx hv'
    ·rename_i hlt;rw[if_neg hlt]at hx;simp only[List.getElem?_map,Array.getElem?_toList,Array.getElem?_map,Option.map_eq_some_iff]at hx hv';obtain⟨o1,h1,rfl⟩:=hx;obtain⟨o2,h2,rfl⟩:=hv';rw[h1]at h2;injection h2 with h2;subst h2;exact h.ev o1) hs
   refine hc.mono ?_ ?_
   ·rintro v w' ⟨c,d,bx',ρ',g0,g1,g2,g3⟩;exact hK _ _ _ _ _ _ g0 g1 (g2.put hdst g3)
   ·rintro v w' ⟨d,bx',ρ',g1,g2,g3⟩;exact hP _ _ _ _ _ _ _ g1 (g2.HX hdst) g3
  ·exact hs.elim
 ·rename_i x;obtain⟨_,hs⟩:=hs;unfold wY at hs;have hx:=h.ev x;generalize ev σ x=dx at hs hx;split at hs
  ·obtain⟨u,hu,_⟩:=hx.wP;exact Iy (v:=a.eval x) (w':=w) sI (by simp[execOp,hu,Instr.panic,goPanic,Sem.run]) (hP _ _ _ _ _ _ _ hs h hx)
  ·exact hs.elim
 ·rename_i fo args ats;obtain⟨hdf,hs⟩:=hs;have hmd:=hG.df hdf;have hr0:r=none:=by
   cases r with
   |none=>rfl
   |some l=>have:=hrd l rfl;omega
  subst hr0;have hfo:=h.ev fo;split at hs
  ·rename_i f caps hfc;rw[hfc]at hfo;obtain⟨vs,hval,hl,hv⟩:=hfo.pO;refine⟨fun _ _=>trivial,?_⟩;show Oper.uponIn (Fw none) n P _ a next Q ((Oper.semAt none a.eval _).run P w)
   rw[Oper.semAt_none];have hrun:(execOp a.eval ⟨dst,.defer {callee:=.value fo,args:=args,argTypes:=ats},ty,pos,af,g⟩).run P w= .ok (.defer {target:=.fn (.func f) vs,args:=args.map a.eval}) w:=by simp[execOp,resolve,hval,Deferred.ofValue]
   rw[hrun];show next _ w
   refine hK _ _ _ _ _ _ (by intro x;simp) hs (az.put (ρ:=ρ) (a:={a with defers:={target:=.fn (.func f) vs,args:=args.map a.eval}::a.defers}) ?_ hdst (.pure (.raw _)));refine {h with marks:= ?_,tmps:=fun t=>?_}
   ·have hm:=h.marks;rcases hm with hm|hm
    ·omega
    ·refine .inr ?_;refine⟨?_,fun h3=>by omega⟩;obtain⟨hm,_⟩:=hm;rw[if_neg oM]at hm⊢;have e:ly (ao σ cB (vP (σ cB) (.fn (.func f) caps) (args.toList.map (ev σ))) cB)= .tup (.fn (.func f) caps::args.toList.map (ev σ))::ly (σ cB):=by
      rw[cO];cases σ cB<;>rfl
     rw[e];refine .call hl hv sI (fun i d v hd hv'=>?_) hm;simp only[List.getElem?_map,Array.getElem?_toList,Array.getElem?_map,Option.map_eq_some_iff]at hd hv';obtain⟨o1,h1,rfl⟩:=hd;obtain⟨o2,h2,rfl⟩:=hv';rw[h1]at h2;injection h2 with h2;subst h2;exact h.ev o1
   ·simp only[ao];split
    ·unfold vP;split<;>exact .pure (.any _ _)
    ·exact h.tmps t
  ·exact hs.elim
 ·rename_i T l c;split at hs
  ·rename_i d;cases hz:oY (ak P) (ak P T) (ev σ l) (ev σ c)with
   |none=>rw[hz]at hs;exact hs.elim
   |some z=>
    rw[hz]at hs;obtain⟨v,w',hr,ρ',h'⟩:=DN (ty:=ty) (pos:=pos) (af:=af) (g:=g) h (hdst d rfl) (Nat.le_trans hG.base (Nat.le_add_right C.base d)) hz;exact eb sI hr (hK _ _ _ _ _ _ (by intro x;simp) hs h')
  ·exact hs.elim
 ·unfold dN at hs;split at hs
  ·rename_i T m ps _ _ _ _ _ _ _ _ _;split at hs
   ·split at hs
    ·rename_i d _;cases hz:oX (ak P) (ak P T) m (ps.toList.map fun p=>(p.1,ev σ p.2))with
     |none=>rw[hz]at hs;exact hs.elim
     |some z=>
      rw[hz]at hs;obtain⟨v,w',hr,ρ',h'⟩:=DE (ty:=ty) (pos:=pos) (af:=af) (g:=g) h (hdst d rfl) (Nat.le_trans hG.base (Nat.le_add_right C.base d)) hz;exact eb sI hr (hK _ _ _ _ _ _ (by intro x;simp) hs h')
    ·exact hs.elim
   ·exact uD (o:=⟨dst,.buildSlice T m ps,ty,pos,af,g⟩) (cl:=fun _=> .n) h hdst hs (by intro d x;simp) hK
  ·rename_i T m k ok _ _ _ _ _ _ _ _ _;cases hz:ni P (ak P) (ak P T) bx (ev σ m) (ev σ k) ok with
   |none=>rw[hz]at hs;exact hs.elim
   |some d=>
    rw[hz]at hs;obtain⟨v,w',hr,hb,hrep⟩:=DH (dst:=dst) (ty:=ty) (pos:=pos) (af:=af) (g:=g) h hz;exact eb sI hr (hK _ _ _ _ _ _ (Ba _) hs ((h.ext hb).put hdst hrep))
  ·rename_i recv name args ats _ _ _ _ _ _ _ _ _;have hrv:=h.ev recv;generalize ev σ recv=dr at hs hrv;unfold kf at hs;split at hs
   ·rename_i t d0;cases hm:nj P t name with
    |none=>rw[hm]at hs;exact hs.elim
    |some f=>
     rw[hm]at hs;have hs:dV C f (d0::args.toList.map (ev σ)) bx fun c d bx'=>K c (put σ dst d) bx':=hs;obtain⟨u,hu,hrep⟩:=hrv.wP;refine xg (c:={callee:=.invoke recv name,args:=args,argTypes:=ats}) rfl (f:=f) (vs:= #[u]++args.map a.eval) (Dy hu hm) ?_;have hc:=py (vs:= #[u]++args.map a.eval) h hG (by simp;exact Nat.add_comm 1 _) (fun i x v hx hv'=>by
      rcases i with _|i
      ·rw[Array.getElem?_append_left (by decide:0<1)]at hv';injection hx with hx;injection hv' with hv';subst hx;subst hv';exact hrep
      ·rw[Array.getElem?_append_right sI]at hv';simp only[List.getElem?_cons_succ,List.getElem?_map,Array.getElem?_toList,Option.map_eq_some_iff]at hx;simp only[List.size_toArray,List.length_cons,List.length_nil,Nat.zero_add,Nat.add_sub_cancel,Array.getElem?_map,Option.map_eq_some_iff]at hv';obtain⟨o1,h1,rfl⟩:=hx;obtain⟨o2,h2,rfl⟩:=hv';rw[h1]at h2;injection h2 with h2;subst h2;exact h.ev o1) hs
     refine hc.mono ?_ ?_
     ·rintro v w' ⟨c,d,bx',ρ',g0,g1,g2,g3⟩;exact hK _ _ _ _ _ _ g0 g1 (g2.put hdst g3)
     ·rintro v w' ⟨d,bx',ρ',g1,g2,g3⟩;exact hP _ _ _ _ _ _ _ g1 (g2.HX hdst) g3
   ·exact hs.elim
  ·split at hs
   ·rename_i hmo;obtain⟨_,hlo,hs⟩:=hs;exact DK h (by have:=hG.lo;omega) hmo hdst hs hK
   ·exact uD (cl:=fun _=> .n) h hdst hs (by intro d x;simp) hK
end Go.V
namespace Go.V
open Go.RowKit
variable {P:Program} {C:Calc} {σ σ₂:Env} {bx bx₂:ae}
theorem bz{α:Type}{x:Option α}{f g:α->Prop}(h:∀v,f v->g v)(hx:aI x f):aI x g:=by
 cases x with
 |none=>exact hx
 |some v=>exact h v hx
theorem na{f:FuncId}{ds:List D}{K K':Cl->D->ae->Prop}(h:∀c d bx,K c d bx->K' c d bx)(hc:dV C f ds bx K):dV C f ds bx K':=by
 rcases hc with⟨d,h1,h2,h3⟩|⟨ds',d,h1,h2,h3,h4⟩|⟨ds',d,h1,h2,h3,h4⟩|⟨bG,Pan,h1,h2,h3,h4⟩
 ·exact .inl ⟨d,h1,h2,h _ _ _ h3⟩
 ·exact .inr (.inl ⟨ds',d,h1,h2,h3,h _ _ _ h4⟩)
 ·exact .inr (.inr (.inl ⟨ds',d,h1,h2,h3,h _ _ _ h4⟩))
 ·exact .inr (.inr (.inr ⟨bG,Pan,h1,h2,fun d bx' hp=>(h3 d bx' hp).imp (h _ _ _) (fun⟨r,r',g1,g2,g3⟩=>⟨r,r',g1,g2,h _ _ _ g3⟩),fun d bx' hp=>h _ _ _ (h4 d bx' hp)⟩))
theorem BV{l:Nat}{ds:List D}{K K':Cl->D->ae->Prop}(h:∀c d bx,K c d bx->K' c d bx)(hc:lF C l ds bx K):lF C l ds bx K':=by
 unfold lF at hc⊢;split at hc
 ·exact⟨hc.1,fun bx1=>⟨h _ _ _ (hc.2 bx1).1,h _ _ _ (hc.2 bx1).2⟩⟩
 ·exact hc.elim
theorem uW{d:D}{ds:List D}{K K':Cl->D->ae->Prop}(h:∀c d bx,K c d bx->K' c d bx)(hc:iA C d ds bx K):iA C d ds bx K':=by
 unfold iA at hc⊢;split at hc
 ·exact na h hc
 ·exact BV h hc
 ·exact na h hc
 ·exact hc.elim
theorem FT{d:D}{f g:D->Prop}(h:∀d,f d->g d)(hx:wY d f):wY d g:=by cases d<;>first|exact h _ hx|exact hx
theorem DO{x:D}{K K':D->ae->Prop}(h:∀d bx,K d bx->K' d bx)(hs:qC bx x K):qC bx x K':=
 bz (fun _=>bz fun _ hh=>⟨hh.1,fun k v b hm=>h _ _ (hh.2.1 k v b hm),fun ha=>h _ _ (hh.2.2 ha)⟩) hs
theorem xP{dst:Option Tmp}{op:Op}{K K':Cl->Env->ae->Prop}(h:∀c σ bx,K c σ bx->K' c σ bx)(hs:eW P C dst op σ bx K):eW P C dst op σ bx K':=by
 unfold eW at hs⊢;split at hs
 ·split at hs
  ·exact h _ _ _ hs
  ·exact hs.elim
 ·exact bz (fun _=>h _ _ _) hs
 ·split at hs
  ·exact bz (fun _=>h _ _ _) hs
  ·exact hs.elim
 ·exact DO (fun _ _=>h _ _ _) hs
 ·exact bz (fun _=>h _ _ _) hs
 ·split at hs
  ·exact bz (fun _=>h _ _ _) hs
  ·exact bz (fun _=>h _ _ _) hs
  ·exact bz (fun _=>h _ _ _) hs
  ·exact hs.elim
 ·exact hs.elim
theorem Ej{dst:Option Tmp}{op:Op}{K K':Cl->Env->ae->Prop}(h:∀c σ bx,K c σ bx->K' c σ bx)(hs:dN P C dst op σ bx K):dN P C dst op σ bx K':=by
 cases op with
 |buildSlice T n ps=>
  unfold dN at hs⊢;dsimp only at hs⊢;split at hs
  ·rename_i ho;rw[if_pos ho];split at hs
   ·exact bz (fun _=>h _ _ _) hs
   ·exact hs.elim
  ·rename_i ho;rw[if_neg ho];exact bz (fun _=>h _ _ _) hs
 |lookup T m k ok=>
  unfold dN at hs⊢;exact bz (fun _=>bz fun _=>h _ _ _) hs
 |call c=>
  obtain⟨callee,args,ats⟩:=c;cases callee with
  |invoke recv name=>
   have hs:kf P C (ev σ recv) name (args.toList.map (ev σ)) bx fun c d bx'=>K c (put σ dst d) bx':=hs;show kf P C (ev σ recv) name (args.toList.map (ev σ)) bx fun c d bx'=>K' c (put σ dst d) bx';unfold kf at hs⊢;split at hs
   ·exact bz (fun _=>na fun _ _ _=>h _ _ _) hs
   ·exact hs.elim
  |_=>
   unfold dN at hs⊢;dsimp only at hs⊢;split at hs
   ·rename_i hm;rw[if_pos hm];exact⟨hs.1,hs.2.1,xP h hs.2.2⟩
   ·rename_i hm;rw[if_neg hm];exact bz (fun _=>h _ _ _) hs
 |_=>
  unfold dN at hs⊢;dsimp only at hs⊢;split at hs
  ·rename_i hm;rw[if_pos hm];exact⟨hs.1,hs.2.1,xP h hs.2.2⟩
  ·rename_i hm;rw[if_neg hm];exact bz (fun _=>h _ _ _) hs
theorem ny{o:Oper}{K K':Cl->Env->ae->Prop}(h:∀c σ bx,K c σ bx->K' c σ bx)(hs:aZ P C o σ bx K):aZ P C o σ bx K':=by
 unfold aZ at hs⊢;split at hs
 ·split at hs
  ·exact bz (fun _=>bz fun _=>h _ _ _) hs
  ·exact hs.elim
 ·split at hs
  ·exact bz (fun _=>bz fun _=>h _ _ _) hs
  ·exact hs.elim
 ·exact bz (fun _=>bz fun _=>h _ _ _) hs
 ·exact bz (fun _=>bz fun _=>h _ _ _) hs
 ·split at hs
  ·rename_i hin;rw[if_pos hin];exact⟨hs.1,bz (fun _ hh=>⟨h _ _ _ hh.1,h _ _ _ hh.2⟩) hs.2⟩
  ·rename_i hin;rw[if_neg hin];exact bz (fun _=>h _ _ _) hs
 ·exact uW (fun _ _ _=>h _ _ _) hs
 ·exact⟨hs.1,FT (fun _=>h _ _ _) hs.2⟩
 ·refine⟨hs.1,?_⟩;have hs:=hs.2;split at hs
  ·exact h _ _ _ hs
  ·exact hs.elim
 ·split at hs
  ·exact bz (fun _=>h _ _ _) hs
  ·exact hs.elim
 ·exact Ej h hs
theorem jI{c:Cl}{x y x' y':Prop}(hx:x->x')(hy:y->y')(h:fF c x y):fF c x' y':=by cases c<;>first|exact hy h|exact hx h
theorem kM{full:List Oper}:∀ {l:List Oper} {acc:List Cl} {σ:Env} {bx:ae} {K K':List Cl->Env->ae->Prop},(∀acc σ bx,K acc σ bx->K' acc σ bx)->lR P C full l acc σ bx K->lR P C full l acc σ bx K'
 |[],_,_,_,_,_,h,hs=>h _ _ _ hs
 |o::rest,acc,σ,bx,K,K',h,hs=>by
  unfold lR at hs⊢;split at hs
  ·exact ny (fun _ _ _=>jI (h _ _ _) (kM h)) hs
  ·refine bz (fun g hg=>?_) hs;unfold gK at hg⊢;split at hg
   ·rename_i h1;rw[if_pos h1];exact ny (fun _ _ _=>jI (h _ _ _) (kM h)) hg
   ·rename_i h1;rw[if_neg h1];exact kM h hg
theorem mK{full:List Oper}{Pn Pn':D->ae->Prop}{Q Q':Env->ae->Prop}(hp:∀d bx,Pn d bx->Pn' d bx)(hq:∀σ bx,Q σ bx->Q' σ bx):∀(t:mh) {σ:Env} {bx:ae},g_ P C full Pn Q t σ bx->g_ P C full Pn' Q' t σ bx
 | .fin,_,_,h=>hq _ _ h
 | .stop,_,_,_=>trivial
 | .light i n,σ,bx,h=>by
   unfold g_ km at h⊢;split at h
   ·exact bz (fun _=>mK hp hq n) h
   ·exact h.elim
 | .load i s n,σ,bx,h=>by
   unfold g_ km ta at h⊢;split at h
   ·split at h
    ·exact⟨h.1,bz (fun _=>mK hp hq n) h.2⟩
    ·exact h.elim
   ·exact h.elim
 | .both i fy a r,σ,bx,h=>by
   unfold g_ km at h⊢;refine⟨?_,mK hp hq r h.2⟩;have h:=h.1;split at h
   ·exact ny (fun c _ _=>jI (by unfold wX;cases c<;>first|exact hp _ _|exact id) (fun g=>⟨g.1,mK hp hq a g.2⟩)) h
   ·exact h.elim
theorem ve{full:List Oper}{Pn Pn':D->ae->Prop}{Q Q':Env->ae->Prop}(hp:∀d bx,Pn d bx->Pn' d bx)(hq:∀σ bx,Q σ bx->Q' σ bx)(h:vd P C full Pn Q σ bx):vd P C full Pn' Q' σ bx:=
 let ⟨t,h1,h2⟩:=h
 ⟨t,h1,mK hp hq t h2⟩
def eo(c:Cl)(bx' bx₂:ae):ae:=fun s=>if c.wr s then bx' s else bx₂ s
theorem mD(bx' bx₂:ae):eo .wa bx' bx₂=bx':=by funext s;simp[eo,Cl.wr]
theorem oa{t:Nat}{b:Bx}(bx bx₂:ae):eo (.w t) (ao bx t b) bx₂=ao bx₂ t b:=by
 funext s;by_cases h:s=t<;>simp[eo,Cl.wr,ao,h]
theorem fg{c:Cl}(h:∀s,c.wr s=false)(bx' bx₂:ae):eo c bx' bx₂=bx₂:=by funext s;simp[eo,h s]
theorem Hb{x:Operand}(h:∀t,x= .tmp t->σ₂ t=σ t):ev σ₂ x=ev σ x:=by
 cases x with
 |tmp t=>exact h t rfl
 |_=>rfl
def Alike(σ σ₂:Env)(op:Op):Prop:=∀x∈op.operands.toList,ev σ₂ x=ev σ x
theorem lq{l:Option Operand}(h:∀x∈l.toList,ev σ₂ x=ev σ x):dh σ₂ l=dh σ l:=by
 cases l with
 |none=>rfl
 |some x=>simp only[dh,h x sI]
theorem rm{op:Op}(h:Alike σ σ₂ op)(hl:∀T a,op≠ .load T a):bR P σ₂ bx₂ op=bR P σ bx op:=by
 cases op with
 |move x=>simp only[bR,h x (by simp[Op.operands])]
 |assign x=>simp only[bR,h x (by simp[Op.operands])]
 |pick c x y=>simp only[bR,h c (by simp[Op.operands]),h x (by simp[Op.operands]),h y (by simp[Op.operands])]
 |binOp op t x y t'=>simp only[bR,h x (by simp[Op.operands]),h y (by simp[Op.operands])]
 |makeInterface t x=>simp only[bR,h x (by simp[Op.operands])]
 |typeAssert x t t' ok=>simp only[bR,h x (by simp[Op.operands])]
 |unOp op t x=>simp only[bR,h x (by simp[Op.operands])]
 |fieldAddr t x i=>simp only[bR,h x (by simp[Op.operands])]
 |field t x i=>simp only[bR,h x (by simp[Op.operands])]
 |indexAddr t x y=>simp only[bR,h x (by simp[Op.operands]),h y (by simp[Op.operands])]
 |index t x y=>simp only[bR,h x (by simp[Op.operands]),h y (by simp[Op.operands])]
 |load t x=>exact absurd rfl (hl t x)
 |extract x i=>simp only[bR,h x (by simp[Op.operands])]
 |slice t x lo hi mx=>
  cases mx with
  |none=>simp only[bR,h x (by simp[Op.operands]),lq (l:=lo) (fun y hy=>h y (by simp at hy;simp[Op.operands,hy])),lq (l:=hi) (fun y hy=>h y (by simp at hy;simp[Op.operands,hy]))]
  |some m=>simp only[bR,h x (by simp[Op.operands]),h m (by simp[Op.operands]),lq (l:=lo) (fun y hy=>h y (by simp at hy;simp[Op.operands,hy])),lq (l:=hi) (fun y hy=>h y (by simp at hy;simp[Op.operands,hy]))]
 |build t ps=>
  have:(ps.toList.map fun p=>(p.1,ev σ₂ p.2))=ps.toList.map fun p=>(p.1,ev σ p.2):=List.map_congr_left fun p hp=>by rw[h p.2 (by simp only[Op.operands,List.mem_map];exact⟨p,hp,rfl⟩)]
  simp only[bR,this]
 |buildSlice t n ps=>
  have:(ps.toList.map fun p=>(p.1,ev σ₂ p.2))=ps.toList.map fun p=>(p.1,ev σ p.2):=List.map_congr_left fun p hp=>by rw[h p.2 (by simp only[Op.operands,List.mem_map];exact⟨p,hp,rfl⟩)]
  simp only[bR,this]
 |nilCheck x=>simp only[bR,h x (by simp[Op.operands])]
 |makeFunc f first caps=>
  have:caps.toList.map (ev σ₂)=caps.toList.map (ev σ):=List.map_congr_left fun x hx=>h x (by simp[Op.operands];exact .inr (by simpa using hx));have this2:first.toList.map (ev σ₂)=first.toList.map (ev σ):=List.map_congr_left fun x hx=>h x (by simp[Op.operands];exact .inl (by simpa using hx));simp only[bR,this,this2]
 |convert s t x=>simp only[bR,h x (by simp[Op.operands])]
 |call c=>
  obtain⟨callee,args,ats⟩:=c;cases callee with
  |builtin b=>
   have:args.toList.map (ev σ₂)=args.toList.map (ev σ):=List.map_congr_left fun x hx=>h x (by simp[Op.operands,Call.operands];simpa using hx);simp only[bR,this]
  |_=>simp[bR]
 |_=>simp[bR]
theorem tJ{ti:TI}{d:D}(h:∀s,(jQ d).rd s=true->bx₂ s=bx s):fb ti bx₂ d=fb ti bx d:=by
 cases d with
 |loc t e i j=>simp only[fb,h t (by simp[jQ,Cl.rd])]
 |_=>rfl
theorem sN{lo:Nat}{ti:TI}{a v:D}{bx':ae}(hs:ez lo ti bx a v=some bx'):(∀s,(ij a).wr s=false->bx' s=bx s)/\
 ∀bx₂:ae,(∀s,(ij a).rd s=true->bx₂ s=bx s)->ez lo ti bx₂ a v=some (eo (ij a) bx' bx₂):=by
 unfold ez at hs;split at hs
 ·rename_i t e i j;split at hs
  ·rename_i hc;unfold qi at hs;split at hs
   ·rename_i hk;cases hi:(bx t).es[i]? with
    |none=>simp[hi]at hs
    |some d0=>
     simp only[hi,Option.map_eq_some_iff]at hs;obtain⟨d',hd',rfl⟩:=hs;refine⟨fun s hs=>?_,fun bx₂ h2=>?_⟩
     ·have:s≠t:=by simpa[ij,Cl.wr]using hs
      simp[ao,this]
     ·have ht:=h2 t (by simp[ij,Cl.rd]);simp only[ez,hc,and_self,if_true,qi,ht,hk,hi,hd',Option.map_some,ij,oa]
   ·cases hs
  ·cases hs
 ·cases hs
theorem FQ{lo:Nat}{ti:TI}{b:Bool}{a v:D}{bx':ae}(hs:pR (ez lo ti bx a v) b bx a v=some bx'):(∀s,(ij a).wr s=false->bx' s=bx s)/\
 ∀bx₂:ae,(∀s,(ij a).rd s=true->bx₂ s=bx s)->pR (ez lo ti bx₂ a v) b bx₂ a v=some (eo (ij a) bx' bx₂):=by
 cases hq:ez lo ti bx a v with
 |some r=>
  rw[hq]at hs;injection hs with hs;subst hs;obtain⟨h1,h2⟩:=sN hq;exact⟨h1,fun bx₂ h=>by rw[h2 bx₂ h];rfl⟩
 |none=>
  rw[hq]at hs;simp only[pR]at hs;split at hs
  ·rename_i t e i j;split at hs
   ·rename_i hc;injection hs with hs;subst hs;refine⟨fun _ _=>rfl,fun bx₂ h=>?_⟩;have hm:eo (ij (.loc t e i j)) bx bx₂=bx₂:=by
     funext s;unfold eo;split
     ·rename_i hw;exact(h s (by simpa[ij,Cl.rd,Cl.wr]using hw)).symm
     ·rfl
    rw[hm];cases hq2:ez lo ti bx₂ (.loc t e i j) v with
    |some r2=>
     obtain⟨h3,h4⟩:=sN hq2;have:=h4 bx fun s hs=>(h s hs).symm;rw[this]at hq;cases hq
    |none=>simp[pR,hc]
   ·cases hs
  ·cases hs
structure Py(P:Program)(C:Calc)(o:Oper)(σ:Env)(bx:ae)(c:Cl)(v:D)(bx':ae):Prop where
 np:∀x,c≠ .pan x
 same:∀s,c.wr s=false->bx' s=bx s
 le0:cZ o.op=0->c= .n
 le1:cZ o.op≠2->∀s,c.wr s=false
 run:∀σ₂ bx₂,Alike σ σ₂ o.op->(∀s,c.rd s=true->bx₂ s=bx s)->∀K:Cl->Env->ae->Prop,K c (put σ₂ o.dst v) (eo c bx' bx₂)->aZ P C o σ₂ bx₂ K
theorem HI{dst:Option Tmp}{op:Op}{K:Cl->Env->ae->Prop}(hn:gJ op=false)(hs:eW P C dst op σ bx K):
 ∃v bx',K .wa (put σ dst v) bx'/\∀σ₂,Alike σ σ₂ op->∀K':Cl->Env->ae->Prop,K' .wa (put σ₂ dst v) bx'->eW P C dst op σ₂ bx K':=by
 cases op with
 |makeMap T r=>
  cases r with
  |some r=>exact hs.elim
  |none=>
   cases dst with
   |none=>exact hs.elim
   |some d=>exact⟨_,_,hs,fun σ₂ _ K' hK=>hK⟩
 |mapUpdate T m k v=>
  simp only[eW]at hs;cases hz:sS (ak P) (ak P T) bx (ev σ m) (ev σ k) (ev σ v)with
  |none=>rw[hz]at hs;exact hs.elim
  |some b'=>
   rw[hz]at hs;refine⟨_,_,hs,fun σ₂ hal K' hK=>?_⟩;simp only[eW,hal m (by simp[Op.operands]),hal k (by simp[Op.operands]),hal v (by simp[Op.operands]),hz];exact hK
 |range T x=>
  cases dst with
  |none=>exact hs.elim
  |some d=>
   simp only[eW]at hs;cases hz:uz (ak P T) bx (ev σ x)with
   |none=>rw[hz]at hs;exact hs.elim
   |some es=>
    rw[hz]at hs;refine⟨_,_,hs,fun σ₂ hal K' hK=>?_⟩;simp only[eW,hal x (by simp[Op.operands]),hz];exact hK
 |next it s=>cases hn
 |entry it=>
  simp only[eW]at hs;cases hz:nZ bx (ev σ it)with
  |none=>rw[hz]at hs;exact hs.elim
  |some v=>
   rw[hz]at hs;refine⟨_,_,hs,fun σ₂ hal K' hK=>?_⟩;simp only[eW,hal it (by simp[Op.operands]),hz];exact hK
 |call c=>
  obtain⟨callee,args,ats⟩:=c;cases callee with
  |builtin b=>
   cases b with
   |len=>cases hn
   |copy=>
    simp only[eW]at hs;cases hz:rO C.lo (ak P) ats.toList bx (args.toList.map (ev σ))with
    |none=>rw[hz]at hs;exact hs.elim
    |some b'=>
     rw[hz]at hs;refine⟨_,_,hs,fun σ₂ hal K' hK=>?_⟩;have hx:args.toList.map (ev σ₂)=args.toList.map (ev σ):=List.map_congr_left fun x hx=>hal x (by simp[Op.operands,Call.operands];simpa using hx);simp only[eW,hx,hz];exact hK
   |delete=>
    simp only[eW]at hs;cases hz:s6 (ak P) ats.toList bx (args.toList.map (ev σ))with
    |none=>rw[hz]at hs;exact hs.elim
    |some b'=>
     rw[hz]at hs;refine⟨_,_,hs,fun σ₂ hal K' hK=>?_⟩;have hx:args.toList.map (ev σ₂)=args.toList.map (ev σ):=List.map_congr_left fun x hx=>hal x (by simp[Op.operands,Call.operands];simpa using hx);simp only[eW,hx,hz];exact hK
   |_=>exact hs.elim
  |_=>exact hs.elim
 |_=>exact hs.elim
theorem CD{op:Op}(hm:kh P op=true)(hn:gJ op=false):cZ op=2:=by
 cases op with
 |call c=>
  obtain⟨callee,args,ats⟩:=c;cases callee with
  |builtin b=>cases b<;>first|rfl|(cases hn;done)|(cases hm;done)
  |_=>cases hm
 |next=>cases hn
 |_=>first|rfl|(cases hm;done)
theorem EO(hT:∀f b ds bx Q Qp,¬C.o.oF f b ds bx Q Qp){f:FuncId}{ds:List D}{K:Cl->D->ae->Prop}(hs:dV C f ds bx K):
 ∃c d bx',K c d bx'/\(∀x,c≠ .pan x)/\(∀s,c.wr s=false->bx' s=bx s)/\∀bx₂:ae,(∀s,c.rd s=true->bx₂ s=bx s)->∀K':Cl->D->ae->Prop,K' c d (eo c bx' bx₂)->dV C f ds bx₂ K':=by
 rcases hs with⟨d,hp,hto,hK⟩|⟨ds',d,ho,hto,hb,hK⟩|⟨ds',d,hlo,ho,hto,hK⟩|⟨Q,_,_,hto,_⟩
 ·refine⟨_,_,_,hK,(by intro x;simp),fun _ _=>rfl,fun bx₂ hbx K' hK'=>?_⟩;rw[fg (fun _=>rfl)]at hK';exact .inl ⟨d,hp,hto,hK'⟩
 ·refine⟨_,_,_,hK,(by intro x;simp),fun _ _=>rfl,fun bx₂ hbx K' hK'=>?_⟩;have hb':bx₂=bx:=funext fun s=>hbx s (by simp[Cl.rd]);rw[fg (fun _=>rfl)]at hK';rw[hb']at hK'⊢;exact .inr (.inl ⟨ds',d,ho,hto,hb,hK'⟩)
 ·refine⟨_,_,_,hK,(by intro x;simp),fun s hs=>by simp[Cl.wr]at hs,fun bx₂ hbx K' hK'=>?_⟩;have hb':bx₂=bx:=funext fun s=>hbx s (by simp[Cl.rd]);rw[mD]at hK';rw[hb'];exact .inr (.inr (.inl ⟨ds',d,hlo,ho,hto,hK'⟩))
 ·exact absurd hto (hT _ _ _ _ _ _)
theorem sM(hT:∀f b ds bx Q Qp,¬C.o.oF f b ds bx Q Qp)(hyl:C.yl=none)(hpn:C.pn=false)(hdf:C.df=false){o:Oper}{K:Cl->Env->ae->Prop}(hs:aZ P C o σ bx K):∃c v bx',K c (put σ o.dst v) bx'/\Py P C o σ bx c v bx':=by
 obtain⟨dst,op,ty,pos,af,g⟩:=o;unfold aZ at hs;dsimp only at hs;split at hs
 ·rename_i T;split at hs
  ·rename_i d;cases hz:rz (fw (ak P T)) (mX (ak P T) (zeroV P T))with
   |none=>rw[hz]at hs;exact hs.elim
   |some z=>
    rw[hz]at hs;refine⟨_,_,_,hs,⟨(by intro x;simp),fun s hs=>?_,by simp[cZ],by simp[cZ],fun σ₂ bx₂ hal hbx K hK=>?_⟩⟩
    ·have:s≠C.base+d:=by simpa[Cl.wr]using hs
     simp[ao,this]
    ·have hd:=hbx (C.base+d) (by simp[Cl.rd]);rw[oa]at hK;simp only[aZ,hz,aI,hd];exact hK
  ·exact hs.elim
 ·rename_i T x;split at hs
  ·rename_i d;cases hz:rJ (ak P T) (ev σ x)with
   |none=>rw[hz]at hs;exact hs.elim
   |some z=>
    rw[hz]at hs;refine⟨_,_,_,hs,⟨(by intro x;simp),fun s hs=>?_,by simp[cZ],by simp[cZ],fun σ₂ bx₂ hal hbx K hK=>?_⟩⟩
    ·have:s≠C.base+d:=by simpa[Cl.wr]using hs
     simp[ao,this]
    ·have hd:=hbx (C.base+d) (by simp[Cl.rd]);have hx:=hal x (by simp[Op.operands]);rw[oa]at hK;simp only[aZ,hx,hz,aI,hd];exact hK
  ·exact hs.elim
 ·rename_i T x y;cases hz:pR (ez C.lo (ak P T) bx (ev σ x) (ev σ y)) (mX (ak P T) (zeroV P T)) bx (ev σ x) (ev σ y)with
  |none=>rw[hz]at hs;exact hs.elim
  |some bx'=>
   rw[hz]at hs;obtain⟨h1,h2⟩:=FQ hz;refine⟨_,_,_,hs,⟨Bb _,h1,by simp[cZ],by simp[cZ],fun σ₂ bx₂ hal hbx K hK=>?_⟩⟩;have hx:=hal x (by simp[Op.operands]);have hy:=hal y (by simp[Op.operands]);simp only[aZ,hx,hy,h2 bx₂ hbx,aI];exact hK
 ·rename_i T x;cases hz:fb (ak P T) bx (ev σ x)with
  |none=>rw[hz]at hs;exact hs.elim
  |some d=>
   rw[hz]at hs;have hw:∀s,(jQ (ev σ x)).wr s=false:=by intro s;cases ev σ x<;>rfl
   refine⟨_,_,_,hs,⟨uC _,fun s _=>rfl,by simp[cZ],fun _=>hw,fun σ₂ bx₂ hal hbx K hK=>?_⟩⟩;have hx:=hal x (by simp[Op.operands]);rw[fg hw]at hK;simp only[aZ,hx,tJ hbx,hz,aI];exact hK
 ·rename_i args ats;by_cases hin:yB C.tab dst=true
  ·rw[if_pos hin]at hs;rw[hpn]at hs;cases hs.1
  rw[if_neg hin]at hs;cases hz:yC C.lo (ak P) ats.toList (gS C.base dst) bx (args.toList.map (ev σ))with
  |none=>rw[hz]at hs;exact hs.elim
  |some r=>
   rw[hz]at hs;refine⟨_,_,_,hs,⟨(by intro x;simp),fun s hs=>by simp[Cl.wr]at hs,by simp[cZ],by simp[cZ],fun σ₂ bx₂ hal hbx K hK=>?_⟩⟩;have hb:bx₂=bx:=funext fun s=>hbx s (by simp[Cl.rd]);have hx:args.toList.map (ev σ₂)=args.toList.map (ev σ):=List.map_congr_left fun x hx=>hal x (by simp[Op.operands,Call.operands];simpa using hx);rw[mD]at hK;simp only[aZ,hx,hb,if_neg hin,hz,aI];exact hK
 ·rename_i fo args ats;cases hf:ev σ fo with
  |fn f caps=>
   cases f with
   |func f=>
    rw[hf]at hs;have fin:∀σ₂ bx₂,Alike σ σ₂ (.call {callee:=.value fo,args,argTypes:=ats})->∀K:Cl->Env->ae->Prop,dV C f (args.toList.map (ev σ)++caps) bx₂ (fun c d bx'=>K c (put σ₂ dst d) bx')->aZ P C ⟨dst,.call {callee:=.value fo,args,argTypes:=ats},ty,pos,af,g⟩ σ₂ bx₂ K:=by
     intro σ₂ bx₂ hal K hK;have hx:args.toList.map (ev σ₂)=args.toList.map (ev σ):=List.map_congr_left fun x hx=>hal x (by simp[Op.operands,Call.operands];exact .inr (by simpa using hx));have hfo:=hal fo (by simp[Op.operands,Call.operands]);simp only[aZ,hx,hfo,hf,iA];exact hK
    simp only[iA]at hs;rcases hs with⟨d,hp,hto,hK⟩|⟨ds',d,ho,hto,hb,hK⟩|⟨ds',d,hlo,ho,hto,hK⟩|⟨Q,_,_,hto,_⟩
    ·refine⟨_,_,_,hK,⟨(by intro x;simp),fun _ _=>rfl,by simp[cZ],by simp[cZ],fun σ₂ bx₂ hal hbx K hK=>?_⟩⟩;rw[fg (fun _=>rfl)]at hK;exact fin σ₂ bx₂ hal K (.inl ⟨d,hp,hto,hK⟩)
    ·refine⟨_,_,_,hK,⟨(by intro x;simp),fun _ _=>rfl,by simp[cZ],by simp[cZ],fun σ₂ bx₂ hal hbx K' hK'=>?_⟩⟩;have hb':bx₂=bx:=funext fun s=>hbx s (by simp[Cl.rd]);rw[fg (fun _=>rfl)]at hK';rw[hb']at hK'⊢;exact fin σ₂ bx hal K' (.inr (.inl ⟨ds',d,ho,hto,hb,hK'⟩))
    ·refine⟨_,_,_,hK,⟨(by intro x;simp),fun s hs=>by simp[Cl.wr]at hs,by simp[cZ],by simp[cZ],fun σ₂ bx₂ hal hbx K' hK'=>?_⟩⟩;have hb':bx₂=bx:=funext fun s=>hbx s (by simp[Cl.rd]);rw[mD]at hK';rw[hb'];exact fin σ₂ bx hal K' (.inr (.inr (.inl ⟨ds',d,hlo,ho,hto,hK'⟩)))
    ·exact absurd hto (hT _ _ _ _ _ _)
   |yield l=>
    rw[hf]at hs;cases caps with
    |nil=>simp only[iA,lF,hyl]at hs
    |cons _ _=>exact hs.elim
   |_=>rw[hf]at hs;exact hs.elim
  |bfn f caps=>
   rw[hf]at hs;have fin:∀σ₂ bx₂,Alike σ σ₂ (.call {callee:=.value fo,args,argTypes:=ats})->∀K:Cl->Env->ae->Prop,dV C f (caps++args.toList.map (ev σ)) bx₂ (fun c d bx'=>K c (put σ₂ dst d) bx')->aZ P C ⟨dst,.call {callee:=.value fo,args,argTypes:=ats},ty,pos,af,g⟩ σ₂ bx₂ K:=by
    intro σ₂ bx₂ hal K hK;have hx:args.toList.map (ev σ₂)=args.toList.map (ev σ):=List.map_congr_left fun x hx=>hal x (by simp[Op.operands,Call.operands];exact .inr (by simpa using hx));have hfo:=hal fo (by simp[Op.operands,Call.operands]);simp only[aZ,hx,hfo,hf,iA];exact hK
   simp only[iA]at hs;rcases hs with⟨d,hp,hto,hK⟩|⟨ds',d,ho,hto,hb,hK⟩|⟨ds',d,hlo,ho,hto,hK⟩|⟨Q,_,_,hto,_⟩
   ·refine⟨_,_,_,hK,⟨(by intro x;simp),fun _ _=>rfl,by simp[cZ],by simp[cZ],fun σ₂ bx₂ hal hbx K hK=>?_⟩⟩;rw[fg (fun _=>rfl)]at hK;exact fin σ₂ bx₂ hal K (.inl ⟨d,hp,hto,hK⟩)
   ·refine⟨_,_,_,hK,⟨(by intro x;simp),fun _ _=>rfl,by simp[cZ],by simp[cZ],fun σ₂ bx₂ hal hbx K' hK'=>?_⟩⟩;have hb':bx₂=bx:=funext fun s=>hbx s (by simp[Cl.rd]);rw[fg (fun _=>rfl)]at hK';rw[hb']at hK'⊢;exact fin σ₂ bx hal K' (.inr (.inl ⟨ds',d,ho,hto,hb,hK'⟩))
   ·refine⟨_,_,_,hK,⟨(by intro x;simp),fun s hs=>by simp[Cl.wr]at hs,by simp[cZ],by simp[cZ],fun σ₂ bx₂ hal hbx K' hK'=>?_⟩⟩;have hb':bx₂=bx:=funext fun s=>hbx s (by simp[Cl.rd]);rw[mD]at hK';rw[hb'];exact fin σ₂ bx hal K' (.inr (.inr (.inl ⟨ds',d,hlo,ho,hto,hK'⟩)))
   ·exact absurd hto (hT _ _ _ _ _ _)
  |_=>rw[hf]at hs;exact hs.elim
 ·rw[hpn]at hs;exact absurd hs.1 (by decide)
 ·rw[hdf]at hs;exact absurd hs.1 (by decide)
 ·rename_i T l c;split at hs
  ·rename_i d;cases hz:oY (ak P) (ak P T) (ev σ l) (ev σ c)with
   |none=>rw[hz]at hs;exact hs.elim
   |some z=>
    rw[hz]at hs;refine⟨_,_,_,hs,⟨(by intro x;simp),fun s hs=>?_,by simp[cZ],by simp[cZ],fun σ₂ bx₂ hal hbx K hK=>?_⟩⟩
    ·have:s≠C.base+d:=by simpa[Cl.wr]using hs
     simp[ao,this]
    ·have hd:=hbx (C.base+d) (by simp[Cl.rd]);have hx:=hal l (by simp[Op.operands]);have hy:=hal c (by simp[Op.operands]);rw[oa]at hK;simp only[aZ,hx,hy,hz,aI,hd];exact hK
  ·exact hs.elim
 ·rename_i op' h1 h2 h3 h4 h5 h6 h7 h8 h9;have hrun:∀σ₂ bx₂ K,aZ P C ⟨dst,op,ty,pos,af,g⟩ σ₂ bx₂ K=dN P C dst op σ₂ bx₂ K:=by
   intro σ₂ bx₂ K;unfold aZ;dsimp only;split<;>first|rfl|(exact absurd rfl (h1 _))|(exact absurd rfl (h2 _ _))|(exact absurd rfl (h3 _ _ _))|(exact absurd rfl (h4 _ _))|(exact absurd rfl (h5 _ _))|(exact absurd rfl (h6 _ _ _))|(exact absurd rfl (h7 _))|(exact absurd rfl (h8 _ _ _))|(exact absurd rfl (h9 _ _ _))
  have hval:∀d,bR P σ bx op=some d->(∀σ₂ bx₂ (K:Cl->Env->ae->Prop),bR P σ₂ bx₂ op=some d->K .n (put σ₂ dst d) bx₂->dN P C dst op σ₂ bx₂ K)->K .n (put σ dst d) bx->∃c v bx',K c (put σ dst v) bx'/\Py P C ⟨dst,op,ty,pos,af,g⟩ σ bx c v bx':=by
   intro d hz hE hq;by_cases hb:∃T n ps,op= .buildSlice T n ps
   ·obtain⟨T,n,ps,rfl⟩:=hb;refine⟨_,_,_,hq,⟨(by intro x;simp),fun _ _=>rfl,fun _=>rfl,fun _ _=>rfl,fun σ₂ bx₂ hal hbx K hK=>?_⟩⟩;have hv:=rm (P:=P) (bx:=bx) (bx₂:=bx₂) hal (fun T a=>h4 T a);rw[hz]at hv;rw[fg (fun _=>rfl)]at hK;rw[hrun];exact hE _ _ _ hv hK
   ·refine⟨_,_,_,hq,⟨(by intro x;simp),fun _ _=>rfl,fun _=>rfl,fun _ _=>rfl,fun σ₂ bx₂ hal hbx K hK=>?_⟩⟩;have hv:=rm (P:=P) (bx:=bx) (bx₂:=bx₂) hal (fun T a=>h4 T a);rw[hz]at hv;rw[fg (fun _=>rfl)]at hK;rw[hrun];exact hE _ _ _ hv hK
  clear h1 h2 h3 h4 h5 h6 h7 h8 h9;unfold dN at hs;split at hs
  ·rename_i T m ps;have hps:∀σ₂,Alike σ σ₂ (.buildSlice T m ps)->(ps.toList.map fun p=>(p.1,ev σ₂ p.2))=ps.toList.map fun p=>(p.1,ev σ p.2):=fun σ₂ hal=>List.map_congr_left fun p hp=>by rw[hal p.2 (by simp only[Op.operands,List.mem_map];exact⟨p,hp,rfl⟩)]
   split at hs
   ·rename_i ho;split at hs
    ·rename_i d;cases hz:oX (ak P) (ak P T) m (ps.toList.map fun p=>(p.1,ev σ p.2))with
     |none=>rw[hz]at hs;exact hs.elim
     |some z=>
      rw[hz]at hs;refine⟨_,_,_,hs,⟨(by intro x;simp),fun s hs=>?_,by simp[cZ],by simp[cZ],fun σ₂ bx₂ hal hbx K hK=>?_⟩⟩
      ·have:s≠C.base+d:=by simpa[Cl.wr]using hs
       simp[ao,this]
      ·have hd:=hbx (C.base+d) (by simp[Cl.rd]);rw[oa]at hK;rw[hrun];unfold dN;simp only[ho,if_true,hps σ₂ hal,hz,aI,hd];exact hK
    ·exact hs.elim
   ·rename_i ho;cases hz:bR P σ bx (.buildSlice T m ps)with
    |none=>rw[hz]at hs;exact hs.elim
    |some d=>
     rw[hz]at hs;refine hval d hz (fun σ₂ bx₂ K hv hK=>?_) hs;unfold dN;simp only[ho,if_false,hv,aI];exact hK
  ·rename_i T m k ok;cases hz:ni P (ak P) (ak P T) bx (ev σ m) (ev σ k) ok with
   |none=>rw[hz]at hs;exact hs.elim
   |some d=>
    rw[hz]at hs;have hw:∀s,(rf (ev σ m)).wr s=false:=by intro s;cases ev σ m<;>rfl
    refine⟨_,_,_,hs,⟨Ba _,fun s _=>rfl,by simp[cZ],fun _=>hw,fun σ₂ bx₂ hal hbx K hK=>?_⟩⟩;have hx:=hal m (by simp[Op.operands]);have hy:=hal k (by simp[Op.operands]);rw[fg hw]at hK;have hl:fq bx₂ (ev σ m)=fq bx (ev σ m):=by
     cases hm:ev σ m with
     |omap t e=>
      have:=hbx t (by simp[hm,rf,Cl.rd]);simp only[fq,this]
     |_=>rfl
    have hl2:ni P (ak P) (ak P T) bx₂ (ev σ m) (ev σ k) ok=some d:=by
     rw[<-hz];unfold ni;rw[hl]
    rw[hrun];unfold dN;simp only[hx,hy,hl2,aI];exact hK
  ·rename_i recv name args ats;unfold kf at hs;split at hs
   ·rename_i t d0 hrv;cases hm:nj P t name with
    |none=>rw[hm]at hs;exact hs.elim
    |some f=>
     rw[hm]at hs;obtain⟨c,d,bx',hK,hnp,hsame,hrun2⟩:=EO hT (show dV C f (d0::args.toList.map (ev σ)) bx fun c d bx'=>K c (put σ dst d) bx' from hs);refine⟨_,_,_,hK,⟨hnp,hsame,by simp[cZ],by simp[cZ],fun σ₂ bx₂ hal hbx K hK=>?_⟩⟩;have hx:args.toList.map (ev σ₂)=args.toList.map (ev σ):=List.map_congr_left fun x hx=>hal x (by simp[Op.operands,Call.operands];exact .inr (by simpa using hx));have hfo:=hal recv (by simp[Op.operands,Call.operands]);rw[hrun];unfold dN;simp only[hx,hfo,hrv,kf,hm,aI];exact hrun2 bx₂ hbx (fun c d bx'=>K c (put σ₂ dst d) bx') hK
   ·exact hs.elim
  ·rename_i op' hb hb2 hb3;split at hs
   ·rename_i hmo;obtain⟨hgate,hlo,hs⟩:=hs;have hnx:gJ op=false:=by
     cases h:gJ op with
     |false=>rfl
     |true=>have:=hgate h;rw[hpn]at this;cases this
    obtain⟨v,bx',hK,hrun2⟩:=HI hnx hs;refine⟨_,_,_,hK,⟨(by intro x;simp),(fun s hs=>by simp[Cl.wr]at hs),(fun h0=>by rw[CD hmo hnx]at h0;cases h0),fun h2=>absurd (CD hmo hnx) h2,fun σ₂ bx₂ hal hbx K hK=>?_⟩⟩;have hb':bx₂=bx:=funext fun s=>hbx s (by simp[Cl.rd]);rw[mD]at hK;rw[hb',hrun];have:dN P C dst op σ₂ bx K=((gJ op=true->C.pn=true)/\C.lo=0/\eW P C dst op σ₂ bx K):=by
     unfold dN;split
     ·exact absurd rfl (hb _ _ _)
     ·exact absurd rfl (hb2 _ _ _ _)
     ·exact absurd rfl (hb3 _ _ _ _)
     ·exact if_pos hmo
    rw[this];exact⟨hgate,hlo,hrun2 σ₂ hal K hK⟩
   ·rename_i hmo;cases hz:bR P σ bx op with
    |none=>rw[hz]at hs;exact hs.elim
    |some d=>
     rw[hz]at hs;refine hval d hz (fun σ₂ bx₂ K hv hK=>?_) hs;have:dN P C dst op σ₂ bx₂ K=aI (bR P σ₂ bx₂ op) fun v=>K .n (put σ₂ dst v) bx₂:=by
      unfold dN;split
      ·exact absurd rfl (hb _ _ _)
      ·exact absurd rfl (hb2 _ _ _ _)
      ·exact absurd rfl (hb3 _ _ _ _)
      ·exact if_neg hmo
     rw[this,hv];exact hK
theorem wo(hyl:C.yl=none)(hpn:C.pn=false)(hdf:C.df=false){o:Oper}{K:Cl->Env->ae->Prop}(hs:aZ P C o σ bx K):
 ∃R:Cl->D->ae->Prop,(∀c v bx',R c v bx'->K c (put σ o.dst v) bx')/\∀σ₂,Alike σ σ₂ o.op->∀K2:Cl->Env->ae->Prop,(∀c v bx',R c v bx'->K2 c (put σ₂ o.dst v) bx')->aZ P C o σ₂ bx K2:=by
 by_cases hc:∃fo args ats,o.op= .call {callee:=.value fo,args,argTypes:=ats}
 ·obtain⟨fo,args,ats,hop⟩:=hc;obtain⟨dst,op,ty,pos,af,g⟩:=o;dsimp only at hop;subst hop;refine⟨fun c v bx'=>K c (put σ dst v) bx',fun _ _ _ h=>h,fun σ₂ hal K2 hK=>?_⟩;have hx:args.toList.map (ev σ₂)=args.toList.map (ev σ):=List.map_congr_left fun x hx=>hal x (by simp[Op.operands,Call.operands];exact .inr (by simpa using hx));have hfo:=hal fo (by simp[Op.operands,Call.operands]);have hs':iA C (ev σ fo) (args.toList.map (ev σ)) bx fun c d bx'=>K c (put σ dst d) bx':=hs;show iA C (ev σ₂ fo) (args.toList.map (ev σ₂)) bx fun c d bx'=>K2 c (put σ₂ dst d) bx';rw[hx,hfo];exact uW (fun c d bx' h=>hK _ _ _ h) hs'
 ·by_cases hi:∃recv name args ats,o.op= .call {callee:=.invoke recv name,args,argTypes:=ats}
  ·obtain⟨recv,name,args,ats,hop⟩:=hi;obtain⟨dst,op,ty,pos,af,g⟩:=o;dsimp only at hop;subst hop;refine⟨fun c v bx'=>K c (put σ dst v) bx',fun _ _ _ h=>h,fun σ₂ hal K2 hK=>?_⟩;have hx:args.toList.map (ev σ₂)=args.toList.map (ev σ):=List.map_congr_left fun x hx=>hal x (by simp[Op.operands,Call.operands];exact .inr (by simpa using hx));have hfo:=hal recv (by simp[Op.operands,Call.operands]);have hs':kf P C (ev σ recv) name (args.toList.map (ev σ)) bx fun c d bx'=>K c (put σ dst d) bx':=hs;show kf P C (ev σ₂ recv) name (args.toList.map (ev σ₂)) bx fun c d bx'=>K2 c (put σ₂ dst d) bx';rw[hx,hfo];unfold kf at hs'⊢;split at hs'
   ·exact bz (fun _=>na fun c d bx' h=>hK _ _ _ h) hs'
   ·exact hs'.elim
  have hd:∀σ K,aZ P C o σ bx K=aZ P C.tF o σ bx K:=by
   obtain⟨oo,tab,base,nxt,lo,yl,pn,df⟩:=C;dsimp only at hyl hpn hdf;subst hyl;subst hpn;subst hdf;obtain⟨dst,op,ty,pos,af,g⟩:=o;intro σ K;cases op with
   |call c=>
    obtain⟨callee,args,ats⟩:=c;cases callee with
    |builtin b=>cases b<;>rfl
    |value fo=>exact absurd ⟨_,_,_,rfl⟩ hc
    |invoke recv name=>exact absurd ⟨_,_,_,_,rfl⟩ hi
   |defer c=>
    obtain⟨callee,args,ats⟩:=c;cases callee<;>rfl
   |_=>rfl
  rw[hd]at hs;obtain⟨c,v,bx',hK,he⟩:=sM (C:=C.tF) (fun _ _ _ _ _ _ h=>h) rfl rfl rfl hs;refine⟨fun c' v' bx2=>c'=c/\v'=v/\bx2=bx',by rintro _ _ _ ⟨rfl,rfl,rfl⟩;exact hK,fun σ₂ hal K2 hK2=>?_⟩;rw[hd];refine he.run σ₂ bx hal (fun _ _=>rfl) K2 ?_;have hm:eo c bx' bx=bx':=by
   funext s;cases h:c.wr s with
   |true=>simp[eo,h]
   |false=>simp[eo,h,he.same s h]
  rw[hm];exact hK2 _ _ _ ⟨rfl,rfl,rfl⟩
end Go.V
