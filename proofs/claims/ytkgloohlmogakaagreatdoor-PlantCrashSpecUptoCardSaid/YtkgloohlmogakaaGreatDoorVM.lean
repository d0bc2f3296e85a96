/- Plain laws: VM. -/
import Derived.Test.YtkgloohlmogakaaGreatDoorVB
import Derived.MapKept
import Derived.Maps.RangeRun
set_option linter.all false
set_option maxHeartbeats 8000000
namespace Go.V
open Go.RowKit
variable {P:Program} {X:Ctx} {ρ:cQ} {σ:Env} {bx:ae} {a:Act} {w:World}
variable {dst:Option Tmp} {ty:TypeId} {pos:String} {af:Array Edge} {g:Option (Nat×Bool)}
theorem aA.XA{o:Obj}{es:List D}(h:aA X ρ σ bx a w)(bH:X.lo=0)(t sz:Nat)(T:TypeId)(ho:oF ρ o es):
 ∃ρ',aA X ρ' σ (aj bx t ⟨(bx t).ep+1,3,sz,T,es⟩) a (w.alloc o)/\ρ' t ((bx t).ep+1)=some ⟨w.heap.size,0,0,0⟩:=by
 have hx:=h.Ao (o:=o) ho.nv.1;have hρ:∀s e q,ρ s e=some q->(if s=t/\e=(bx t).ep+1 then some (Place.mk w.heap.size 0 0 0)else ρ s e)=some q:=by
  intro s e q hq;rw[if_neg]
  ·exact hq
  ·rintro⟨rfl,rfl⟩;have:=h.ou _ _ _ hq;omega
 have bw:∀s,s≠t->aj bx t ⟨(bx t).ep+1,3,sz,T,es⟩ s=bx s:=fun s hs=>by simp[aj,hs]
 have heq:aj bx t ⟨(bx t).ep+1,3,sz,T,es⟩ t=⟨(bx t).ep+1,3,sz,T,es⟩:=by simp[aj]
 have live:∀s,(lv (aj bx t ⟨(bx t).ep+1,3,sz,T,es⟩ s).k)->s≠t:=by
  intro s hk e;subst e;rw[heq]at hk;exact hk.2 rfl
 have hS:∀b,az X ⟨ρ.at_,fun k=>if k=w.heap.size then some o else ρ.hold k⟩ bx (w.alloc o) b->az X ⟨fun s e=>if s=t/\e=(bx t).ep+1 then some (Place.mk w.heap.size 0 0 0)else ρ s e,fun k=>if k=w.heap.size then some o else ρ.hold k⟩ (aj bx t ⟨(bx t).ep+1,3,sz,T,es⟩) (w.alloc o) b:=by
  intro b hb;refine⟨hb.1,hb.2.1,fun s hs q hq=>?_⟩;have bz:=live s (by rw[hs];decide);rw[bw s bz]at hs hq;simp only[bz,false_and,if_false]at hq;exact hb.2.2 s hs q hq
 refine⟨⟨fun s e=>if s=t/\e=(bx t).ep+1 then some (Place.mk w.heap.size 0 0 0)else ρ s e,fun k=>if k=w.heap.size then some o else ρ.hold k⟩,⟨hx.fr,hx.s0,hx.nb,hx.mb,hx.ec,hx.size,hx.marks.mono (fun _ _=>rfl) hS hρ (fun _ h=>h),hx.qh,hx.rQ,fun s=>(hx.tmps s).mono (fun _ _=>rfl) hS hρ,hx.fK.mono (fun _ _=>rfl) hS hρ,fun s hk=>?_,fun s s' p p' hk cW hn hp bL=>?_,fun s e p hp=>?_,fun s e p hp=>hρ s e p (h.r0 s e p hp),hx.hold,hx.gA,h.yc,h.y0 bH _ _,h.y0,h.kl,⟨fun s hs=>?_,fun s s' p p' hk cW hn hp bL=>?_⟩⟩,by simp⟩
 ·have bz:=live s hk;rw[bw s bz]at hk⊢;obtain⟨p,hp,h2,h3,h4,h5⟩:=hx.box s hk;exact⟨p,hρ _ _ _ hp,h2,h3,h4,h5.mono rfl (fun _ _=>rfl) hS hρ⟩
 ·have h1:=live s (by rw[hk];decide);have h2:=live s' cW;rw[bw s h1]at hk hp;rw[bw s' h2]at cW bL;simp only[h1,false_and,if_false]at hp;simp only[h2,false_and,if_false]at bL;exact h.inj s s' p p' hk cW hn hp bL
 ·by_cases bz:s=t
  ·subst bz;rw[heq];dsimp only at hp⊢;split at hp
   ·rename_i he;omega
   ·have:=h.ou _ _ _ hp;omega
  ·rw[bw s bz];simp only[bz,false_and,if_false]at hp;exact h.ou _ _ _ hp
 ·by_cases bz:s=t
  ·subst bz;rw[heq];refine⟨⟨w.heap.size,0,0,0⟩,o,by simp,by simp,.inr h.fr.size,ho.mono hρ⟩
  ·rw[bw s bz]at hs⊢;obtain⟨p,o1,g1,g2,g3,g4⟩:=hx.maps.has s hs;exact⟨p,o1,hρ _ _ _ g1,g2,g3,g4.mono hρ⟩
 ·have ya:∀s p,s≠t->(aj bx t ⟨(bx t).ep+1,3,sz,T,es⟩ s).k=3->(if s=t/\(aj bx t ⟨(bx t).ep+1,3,sz,T,es⟩ s).ep=(bx t).ep+1 then some (Place.mk w.heap.size 0 0 0)else ρ s (aj bx t ⟨(bx t).ep+1,3,sz,T,es⟩ s).ep)=some p->(bx s).k=3/\ρ s (bx s).ep=some p/\p.b<w.heap.size:=by
   intro s p bz hk hp;rw[bw s bz]at hk hp;simp only[bz,false_and,if_false]at hp;obtain⟨q,o1,g1,g2,_⟩:=h.maps.has s hk;rw[hp]at g1;injection g1 with g1;subst g1;exact⟨hk,hp,(Array.getElem?_eq_some_iff.1 (h.hold _ _ g2).1).1⟩
  have new:∀p,(if t=t/\(aj bx t ⟨(bx t).ep+1,3,sz,T,es⟩ t).ep=(bx t).ep+1 then some (Place.mk w.heap.size 0 0 0)else ρ t (aj bx t ⟨(bx t).ep+1,3,sz,T,es⟩ t).ep)=some p->p.b=w.heap.size:=by
   intro p hp;rw[heq]at hp;simp only[and_self,if_true,sJ]at hp;rw[<-hp]
  by_cases h1:s=t
  ·subst h1;have e1:=new p hp;obtain⟨_,_,e2⟩:=ya s' p' (Ne.symm hn) cW bL;omega
  ·obtain⟨a1,a2,a3⟩:=ya s p h1 hk hp;by_cases h2:s'=t
   ·subst h2;have e2:=new p' bL;omega
   ·obtain⟨b1,b2,b3⟩:=ya s' p' h2 cW bL;exact h.maps.inj s s' p p' a1 b1 hn a2 b2
theorem aA.fR{t:Nat}{p:Place}{o o':Obj}{es':List D}(h:aA X ρ σ bx a w)(bH:X.lo=0)(hk:(bx t).k=3)(hp:ρ t (bx t).ep=some p)(hb:ρ.hold p.b=some o)(ho:oF ρ o' es')
 {w':World} (hw:Fr (fun k=>k=p.b) w w') (kg:w'.heap[p.b]? =some o'):
 aA X ⟨ρ.at_,fun k=>if k=p.b then some o' else ρ.hold k⟩ σ (V.fR bx t es') a w':=by
 obtain⟨q,o1,q1,q2,hE,q4⟩:=h.maps.has t hk;rw[hp]at q1;injection q1 with q1;subst q1;rw[hb]at q2;injection q2 with q2;subst q2;have h0:X.r0.hold p.b=none\/X.E p.b:=by
  rcases hE with hE|hE
  ·exact .inr hE
  ·left;cases hr:X.r0.hold p.b with
   |none=>rfl
   |some o2=>have:=h.kl _ _ hr;omega
 obtain⟨g1,g2⟩:=h.hold p.b o hb;have fP:∀k,mO w w' k:=by
  intro k o1 ea hc;refine(hw.block k (Array.getElem?_eq_some_iff.1 ea).1 (fun e=>?_)).trans ea;subst e;rw[g1]at ea;injection ea with ea;subst ea;rw[g2]at hc;cases hc
 have iV:∀s,(V.fR bx t es' s).k=(bx s).k/\(V.fR bx t es' s).ep=(bx s).ep:=fun s=>by
  unfold V.fR;by_cases hs:s=t
  ·subst hs;simp[aj]
  ·simp[aj,hs]
 have yX:∀s,s≠t->V.fR bx t es' s=bx s:=fun s hs=>by simp[V.fR,aj,hs]
 have wY:∀s,lv (bx s).k->s≠t:=fun s hs e=>by subst e;rw[hk]at hs;exact hs.2 rfl
 have hS:∀k,az X ρ bx w k->az X ⟨ρ.at_,fun k=>if k=p.b then some o' else ρ.hold k⟩ (V.fR bx t es') w' k:=fun k hk=>⟨Nat.lt_of_lt_of_le hk.1 hw.size,hk.2.1,fun s hs q hq=>by
  rw[(iV s).1]at hs;rw[(iV s).2]at hq;exact hk.2.2 s hs q hq⟩
 refine⟨h.fr.step hw (fun n hn hm=>?_),h.s0,h.nb,h.mb,h.ec,h.size,h.marks.fg (fun k _=>fP k) hS (fun _ _ _ h=>h) (fun r _ hr=>?_),h.qh,h.rQ,fun t=>(h.tmps t).fg (fun k _=>fP k) hS (fun _ _ _ h=>h),h.fK.fg (fun k _=>fP k) hS (fun _ _ _ h=>h),fun s hs=>?_,fun s s' q q' hs eb hn hq jH=>?_,fun s e q hq=>?_,h.r0,fun k o1 ea=>?_,fun k o1 ea x8=>?_,h.yc,h.y0 bH _ _,h.y0,h.kl,⟨fun s hs=>?_,fun s s' q q' hs eb hn hq jH=>?_⟩⟩
 ·subst hm;rcases hE with h1|h1
  ·exact .inr h1
  ·omega
 ·show(if r=p.b then some o' else ρ.hold r)=_;rw[if_neg]
  ·exact hr
  ·intro e;subst e;rw[hb]at hr;injection hr with hr;exact q4.nv.2 _ hr
 ·rw[(iV s).1]at hs;rw[yX s (wY s hs)];obtain⟨q,hq,h2,h3,h4,h5⟩:=h.box s hs;exact⟨q,hq,h2,h3,h4,h5.fg (fP _) (fun k _=>fP k) hS (fun _ _ _ h=>h)⟩
 ·rw[(iV s).1]at hs;rw[(iV s').1]at eb;rw[(iV s).2]at hq;rw[(iV s').2]at jH;exact h.inj s s' q q' hs eb hn hq jH
 ·rw[(iV s).2];exact h.ou s e q hq
 ·by_cases e:k=p.b
  ·subst e;simp only[if_true,sJ]at ea;subst ea;exact⟨kg,ho.nv.1⟩
  ·simp only[e,if_false]at ea;obtain⟨k1,k2⟩:=h.hold k o1 ea;exact⟨(hw.block k (Array.getElem?_eq_some_iff.1 k1).1 e).trans k1,k2⟩
 ·show(if k=p.b then some o' else ρ.hold k)=_;by_cases e:k=p.b
  ·subst e;rcases h0 with h1|h1
   ·rw[ea]at h1;cases h1
   ·exact absurd h1 x8
  ·rw[if_neg e];exact h.gA k o1 ea x8
 ·rw[(iV s).1]at hs;rw[(iV s).2];by_cases bz:s=t
  ·subst bz;refine⟨p,o',hp,by simp,hE,?_⟩;have e:(V.fR bx s es' s).es=es':=by simp[V.fR,aj]
   rw[e];exact ho.mono (ρ':=⟨ρ.at_,_⟩) (fun _ _ _ h=>h)
  ·obtain⟨q,o2,k1,k2,k3,k4⟩:=h.maps.has s hs;rw[yX s bz];refine⟨q,o2,k1,?_,k3,k4.mono (ρ':=⟨ρ.at_,_⟩) (fun _ _ _ h=>h)⟩;show(if q.b=p.b then some o' else ρ.hold q.b)=_;rw[if_neg (h.maps.inj s t q p hs hk bz k1 hp)];exact k2
 ·rw[(iV s).1]at hs;rw[(iV s').1]at eb;rw[(iV s).2]at hq;rw[(iV s').2]at jH;exact h.maps.inj s s' q q' hs eb hn hq jH
def sd(w:World)(b:Nat)(o:Obj):World:={w with heap:=w.heap.setIfInBounds b o}
def zE{w:World}{b:Nat}{o:Obj}(h:b<w.heap.size):(sd w b o).heap[b]? =some o:=by simp[sd,h]
def Em(w:World)(b:Nat)(o:Obj):Fr (fun k=>k=b) w (sd w b o):=⟨rfl,rfl,rfl,by simp[sd],fun k _ hk=>by simp[sd,Ne.symm hk]⟩
theorem gj.len{ds:List D}{es:List MapEntry}(h:gj ds es):ds.length=es.length:=by
 induction h with
 |nil=>rfl
 |cons _ _ _ ih=>simp[ih]
theorem gj.snoc{ds:List D}{es:List MapEntry}{k v:D}{e:MapEntry}(h:gj ds es)(hk:fY k e.key)(hv:fY v e.val):gj (ds++[.aI [k,v,.int .i64 (e.born:Int)]]) (es++[e]):=by
 induction h with
 |nil=>exact .cons hk hv .nil
 |cons h1 h2 _ ih=>exact .cons h1 h2 ih
theorem gj.put{ds:List D}{es:List MapEntry}{k v:D}{kv vv:Value}(h:gj ds es)(hk:fY k kv)(hv:fY v vv)(j:Nat):gj (ds.modify j (BN k v)) (es.modify j fun e=>{e with key:=kv,val:=vv}):=by
 induction h generalizing j with
 |nil=>simpa using gj.nil
 |@cons k' v' e' _ _ h1 h2 t ih=>
  cases j with
  |zero=>simpa[BN]using gj.cons (e:={e' with key:=kv,val:=vv}) hk hv t
  |succ j=>simpa using gj.cons h1 h2 (ih j)
theorem gj.erase{ds:List D}{es:List MapEntry}(h:gj ds es)(j:Nat):gj (ds.eraseIdx j) (es.eraseIdx j):=by
 induction h generalizing j with
 |nil=>simpa using gj.nil
 |cons h1 h2 t ih=>
  cases j with
  |zero=>simpa using t
  |succ j=>simpa using gj.cons h1 h2 (ih j)
theorem gj.mem{ds:List D}{es:List MapEntry}(h:gj ds es):∀e∈es,∃k v,fY k e.key/\fY v e.val/\D.aI [k,v,.int .i64 (e.born:Int)]∈ds:=by
 induction h with
 |nil=>intro e he;cases he
 |cons h1 h2 t ih=>
  intro e he;rcases List.mem_cons.1 he with rfl|he
  ·exact⟨_,_,h1,h2,List.mem_cons_self ..⟩
  ·obtain⟨k,v,g1,g2,g3⟩:=ih e he;exact⟨k,v,g1,g2,List.mem_cons_of_mem _ g3⟩
theorem gj.Xy{ds:List D}{es:List MapEntry}(h:gj ds es):∀d∈ds,∃e∈es,∃k v,d= .aI [k,v,.int .i64 (e.born:Int)]:=by
 induction h with
 |nil=>intro e he;cases he
 |cons h1 h2 t ih=>
  intro d hd;rcases List.mem_cons.1 hd with rfl|hd
  ·exact⟨_,List.mem_cons_self ..,_,_,rfl⟩
  ·obtain⟨e,he,k,v,g⟩:=ih d hd;exact⟨e,List.mem_cons_of_mem _ he,k,v,g⟩
theorem gj.find{ds:List D}{es:List MapEntry}(h:gj ds es)(n:Nat){d:D}(hd:ds.find? (fun e=>gQ e==(n:Int))=some d):∃e k v,es.find? (fun e=>e.born==n)=some e/\d= .aI [k,v,.int .i64 (e.born:Int)]/\fY k e.key/\fY v e.val:=by
 induction h with
 |nil=>simp at hd
 |@cons k v e ds es h1 h2 t ih=>
  simp only[List.find?_cons]at hd⊢;have e1:(gQ (.aI [k,v,.int .i64 (e.born:Int)])==(n:Int))=(e.born==n):=by
   show((e.born:Int)==(n:Int))=_;rw[Bool.eq_iff_iff];simp only[beq_iff_eq];omega
  rw[e1]at hd;split at hd
  ·rename_i hb;injection hd with hd;exact⟨e,k,v,rfl,hd.symm,h1,h2⟩
  ·exact ih hd
def descOf:TK->TypeDesc
 | .int k=> .int k
 | .str=> .string
 |_=> .bool
def w9{t:TypeId}{k:D}{kv:Value}(h:mV (an P t).k k=true)(hk:fY k kv):P.underlying t=some (descOf (an P t).k)/\MapKept.IsKey (descOf (an P t).k) kv:=by
 unfold mV at h;split at h
 ·rename_i j k' n hj;simp only[decide_eq_true_eq]at h;subst h;rw[hj];exact⟨uw hj,by cases hk;rfl⟩
 ·rename_i hj;rw[hj];exact⟨qs hj,by cases hk;trivial⟩
 ·rename_i hj;rw[hj];exact⟨KT hj,by cases hk;trivial⟩
 ·cases h
def OY{tk:TK}{k k':D}{u u':Value}{b:Bool}(h:mY tk k k'=some b)(hk:fY k u)(cW:fY k' u'):Instr.sameNow (descOf tk) u u'=some b/\(b=true->u'=u):=by
 unfold mY at h;split at h
 ·split at h
  ·rename_i he;subst he;injection h with h;cases hk;cases cW;refine⟨by simp[descOf,Instr.sameNow,h],fun hb=>?_⟩;rw[hb]at h;rw[eq_of_beq h]
  ·cases h
 ·injection h with h;cases hk;cases cW;rename_i x y;have e:((⟨x.toArray⟩:ByteArray)==⟨y.toArray⟩)=(x==y):=by
   rw[Bool.eq_iff_iff,MapKept.bytes_beq,beq_iff_eq];constructor
   ·intro h;injection h with h;simpa using h
   ·rintro rfl;rfl
  refine⟨by simp only[descOf,Instr.sameNow,e,h],fun hb=>?_⟩;rw[hb]at h;rw[eq_of_beq h]
 ·injection h with h;cases hk;cases cW;refine⟨by simp[descOf,Instr.sameNow,h],fun hb=>?_⟩;rw[hb]at h;rw[eq_of_beq h]
 ·cases h
theorem yH{tk:TK}{k:D}{kv:Value}(hk:fY k kv){ds:List D}{es:List MapEntry}(he:gj ds es):∀(i:Nat) r,ff tk k ds i=some r->
 (r=none/\Instr.findNow (descOf tk) kv es i=some none)\/∃j v e,r=some (i+j,v)/\Instr.findNow (descOf tk) kv es i=some (some (i+j,e.val))/\fY v e.val/\es[j]? =some e/\e.key=kv:=by
 induction he with
 |nil=>intro i r h;injection h with h;exact .inl ⟨h.symm,rfl⟩
 |@cons k' v e ds es h1 h2 t ih=>
  intro i r h;unfold ff at h;cases hs:mY tk k k' with
  |none=>rw[hs]at h;cases h
  |some b=>
   obtain⟨g1,g2⟩:=OY hs hk h1;rw[hs]at h;cases b with
   |true=>
    injection h with h;exact .inr ⟨0,v,e,h.symm,by simp[Instr.findNow,g1],h2,rfl,g2 rfl⟩
   |false=>
    rcases ih (i+1) r h with⟨q1,q2⟩|⟨j,v',e',q1,q2,q3,q4,q5⟩
    ·exact .inl ⟨q1,by simp[Instr.findNow,g1,q2]⟩
    ·exact .inr ⟨j+1,v',e',by rw[q1];simp only[sJ,Prod.mk.injEq,and_true];omega,by simp only[Instr.findNow,g1,q2];simp only[sJ,Prod.mk.injEq,and_true];omega,q3,by simpa using q4,q5⟩
theorem zU{t kt et:Nat}(h:(an P t).k= .map kt et):P.underlying t=some (.map kt et):=by
 simp only[an]at h;cases hu:P.underlying t with
 |none=>simp[hu]at h
 |some d=>cases d<;>simp[hu]at h⊢;exact h
theorem aJ.HD{S:Nat->Prop}{t e:Nat}{v:Value}(h:aJ w S ρ (.omap t e) v):∃p,ρ t e=some p/\v= .map (some p.b):=by
 cases h with
 |pure h=>cases h
 |omap hp=>exact⟨_,hp,rfl⟩
def ny(h:aA X ρ σ bx a w){m:D}{vm:Value}{r:Nat×Int×List D}(hm:iZ bx m=some r)(hv:aJ w (az X ρ bx w) ρ m vm):
 ∃p ew clock,(bx r.1).k=3/\ρ r.1 (bx r.1).ep=some p/\vm= .map (some p.b)/\ρ.hold p.b=some (.map ew clock)/\w.heap[p.b]? =some (.map ew clock)/\r.2.1=(clock:Int)/\gj r.2.2 ew.toList:=by
 unfold iZ at hm;split at hm
 ·rename_i t e;split at hm
  ·rename_i hc;obtain⟨he,hk⟩:=hc;obtain⟨p,o,g1,g2,g3,g4⟩:=h.maps.has t hk;obtain⟨q,k1,rfl⟩:=hv.HD;rw[<-he,g1]at k1;injection k1 with k1;subst k1;have gw:=(h.hold _ _ g2).1;generalize(bx t).es=es at hm g4;unfold C_ at hm;split at hm
   ·injection hm with hm;subst hm;generalize hx:D.int .i64 _::_=l at g4;cases g4 with
    |@map ew clock es hE=>
     injection hx with h1 h2;injection h1 with h1 h3;subst h2;subst h3;exact⟨p,ew,clock,hk,g1,rfl,g2,gw,rfl,hE⟩
    |iter=>injection hx with h1 h2;cases h1
   ·cases hm
  ·cases hm
 ·cases hm
def C4(h:aA X ρ σ bx a w){x:D}{vx:Value}{r:Nat×D×Int×Int×List D}(hm:iterAt bx x=some r)(hv:aJ w (az X ρ bx w) ρ x vx):
 ∃p pm since last seen,(bx r.1).k=3/\ρ r.1 (bx r.1).ep=some p/\vx= .pointer (some ⟨p.b,0,none⟩)/\ρ.hold p.b=some (.mapIter (some pm) since seen last)/\w.heap[p.b]? =some (.mapIter (some pm) since seen last)/\
  aJ w (az X ρ bx w) ρ r.2.1 (.map (some pm))/\(∃m k q,r.2.1= .omap m k/\ρ m k=some q/\q.b=pm)/\r.2.2.1=(since:Int)/\r.2.2.2.1=(last:Int)/\r.2.2.2.2=seen.toList.map fun n:Nat=>D.int .i64 (n:Int):=by
 unfold iterAt at hm;split at hm
 ·rename_i t e;split at hm
  ·rename_i hc;obtain⟨he,hk⟩:=hc;obtain⟨p,o,g1,g2,g3,g4⟩:=h.maps.has t hk;obtain⟨q,k1,rfl⟩:=hv.lP;rw[<-he,g1]at k1;injection k1 with k1;subst k1;have gw:=(h.hold _ _ g2).1;generalize(bx t).es=es at hm g4;unfold y9 at hm;split at hm
   ·injection hm with hm;subst hm;generalize hx:D.omap _ _::_=l at g4;cases g4 with
    |map=>injection hx with h1 h2;cases h1
    |@iter m k pm since last seen hp=>
     injection hx with h1 h2;injection h2 with h3 h4;injection h4 with h5 h6;injection h1 with a1 a2;injection h3 with b1 b2;injection h5 with c1 c2;subst a1;subst a2;subst b2;subst c2;subst h6;exact⟨p,pm.b,since,last,seen,hk,g1,by simp,g2,gw,.omap hp,⟨_,_,pm,rfl,hp,rfl⟩,rfl,rfl,rfl⟩
   ·cases hm
  ·cases hm
 ·cases hm
theorem MM{t:TypeId}{z:D}(hz:zeroV P t=some z)(w:World)(S:Nat->Prop):∃v,(zeroValue t).run P w= .ok v w/\bB w S z v:=by
 unfold zeroV at hz;cases hi:P.info? t with
 |none=>simp[hi]at hz
 |some i=>
  cases h0:i.zero with
  |none=>simp[hi,h0]at hz
  |some v=>
   simp only[hi,h0,Option.bind_some,Option.map_some,sJ]at hz;subst hz;exact⟨v,by simp[zeroValue,typeInfo,hi,h0,go_sem],En v⟩
def LX(h:aA X ρ σ bx a w){T:TypeId}{m k:Operand}{ok:Bool}{d:D}(hv:sV P (an P) (an P T) bx (ev σ m) (ev σ k) ok=some d):Yields P X ρ bx a w ⟨dst,.lookup T m k ok,ty,pos,af,g⟩ d:=by
 have hm:=h.ev m;have hk:=h.ev k;generalize ev σ m=dm at hv hm;generalize ev σ k=dk at hv hk;unfold sV at hv;split at hv
 ·rename_i kt et hT;split at hv
  ·rename_i oO;simp only[Option.bind_eq_some_iff]at hv;obtain⟨r,hr,hv⟩:=hv;obtain⟨p,ew,clock,_,_,v_,_,hw,_,hE⟩:=ny h hr hm;have AX:fY dk (a.eval k):=hk.simple (by
    unfold mV at oO;split at oO<;>first|rfl|cases oO)
   obtain⟨hu,CQ⟩:=w9 oO AX;cases hf:ff (an P kt).k dk r.2.2 0 with
   |none=>rw[hf]at hv;cases hv
   |some q=>
    rw[hf]at hv;have r_:=zU hT;rcases yH AX hE 0 q hf with⟨rfl,hn⟩|⟨j,v,e,rfl,hn,Hx,hj,QG⟩
    ·simp only[sk,mS]at hv;obtain⟨z,hz,rfl⟩:=hv;obtain⟨zv,hzr,hzp⟩:=MM hz w (az X ρ bx w);have bQ:(Instr.lookup T (a.eval m) (a.eval k) ok).run P w= .ok (if ok then .tuple #[zv,.bool false]else zv) w:=by
      rw[v_];simp only[Instr.lookup,Sem.run_bind,run_underlying r_,Result.andThen,MapKept.run_getObj_map hw,Sem.run_pure,MapKept.run_checkKey hu CQ,MapKept.run_findKey hu hn,hzr]
     refine aR (if ok then .tuple #[zv,.bool false]else zv) (by simp only[execOp,Sem.run_bind,bQ,Result.andThen_ok,Sem.run_pure]) ?_;cases ok with
     |false=>exact .pure hzp
     |true=>
      refine .pure (.aI rfl fun i d v hd hv=>?_)
      match i with
      |0=>simp at hd hv;subst hd;subst hv;exact hzp
      |1=>simp at hd hv;subst hd;subst hv;exact .bool false
      |i+2=>simp at hd
    ·simp only[sk,sJ]at hv;subst hv;have bQ:(Instr.lookup T (a.eval m) (a.eval k) ok).run P w= .ok (if ok then .tuple #[e.val,.bool true]else e.val) w:=by
      rw[v_];simp only[Instr.lookup,Sem.run_bind,run_underlying r_,Result.andThen,MapKept.run_getObj_map hw,Sem.run_pure,MapKept.run_checkKey hu CQ,MapKept.run_findKey hu hn]
     refine aR (if ok then .tuple #[e.val,.bool true]else e.val) (by simp only[execOp,Sem.run_bind,bQ,Result.andThen_ok,Sem.run_pure]) ?_;cases ok with
     |false=>exact .pure Hx.rep
     |true=>
      refine .pure (.aI rfl fun i d v hd hv=>?_)
      match i with
      |0=>simp at hd hv;subst hd;subst hv;exact Hx.rep
      |1=>simp at hd hv;subst hd;subst hv;exact .bool true
      |i+2=>simp at hd
  ·cases hv
 ·cases hv
def Pa(h:aA X ρ σ bx a w)(bH:X.lo=0){T:TypeId}{m k v:Operand}{bx':ae}(hv:zV (an P) (an P T) bx (ev σ m) (ev σ k) (ev σ v)=some bx'):
 ∃w' ρ',(execOp a.eval ⟨dst,.mapUpdate T m k v,ty,pos,af,g⟩).run P w= .ok .skip w'/\aA X ρ' σ bx' a w':=by
 have hm:=h.ev m;have hk:=h.ev k;have hvv:=h.ev v;generalize ev σ m=dm at hv hm;generalize ev σ k=dk at hv hk;generalize ev σ v=dv at hv hvv;unfold zV at hv;split at hv
 ·rename_i kt et hT;split at hv
  ·rename_i oO;obtain⟨oO,Hx⟩:=oO;simp only[Option.bind_eq_some_iff,mS]at hv;obtain⟨r,hr,es',ik,rfl⟩:=hv;obtain⟨p,ew,clock,h3,hp,v_,E4,hw,fL,hE⟩:=ny h hr hm;have AX:fY dk (a.eval k):=hk.simple (by
    unfold mV at oO;split at oO<;>first|rfl|cases oO)
   have Hx:=hvv.simple Hx;obtain⟨hu,CQ⟩:=w9 oO AX;have r_:=zU hT;have ar:=(Array.getElem?_eq_some_iff.1 hw).1;have fin:∀(sM:Array MapEntry) (c':Nat),gj es'.tail sM.toList->es'= .int .i64 (c':Int)::es'.tail->(Instr.mapUpdate T (a.eval m) (a.eval k) (a.eval v)).run P w= .ok () (sd w p.b (.map sM c'))->
    ∃w' ρ',(execOp a.eval ⟨dst,.mapUpdate T m k v,ty,pos,af,g⟩).run P w= .ok .skip w'/\aA X ρ' σ (V.fR bx r.1 es') a w':=by
    intro sM c' CI he bQ;refine⟨sd w p.b (.map sM c'),_,by simp only[execOp,Sem.run_bind,bQ,Result.andThen_ok,Sem.run_pure],h.fR bH h3 hp E4 (es':=es') ?_ (Em w p.b _) (zE ar)⟩;rw[he];exact .map CI
   unfold oI at ik;cases hf:ff (an P kt).k dk r.2.2 0 with
   |none=>rw[hf]at ik;cases ik
   |some q=>
    rw[hf]at ik;rcases yH AX hE 0 q hf with⟨rfl,hn⟩|⟨j,v0,e,rfl,hn,_,hj,QG⟩
    ·injection ik with ik;subst ik;refine fin (ew.push {key:=a.eval k,val:=a.eval v,born:=clock}) (clock+1) ?_ (by rw[fL];rfl) ?_
     ·rw[fL,Array.toList_push];exact hE.snoc (e:={key:=a.eval k,val:=a.eval v,born:=clock}) AX Hx
     ·rw[v_];simp only[Instr.mapUpdate,Sem.run_bind,run_underlying r_,Result.andThen,MapKept.run_getObj_map hw,MapKept.run_checkKey hu CQ,MapKept.run_findKey hu hn,MapKept.run_setObj_map _ hw];rfl
    ·injection ik with ik;subst ik;rw[Nat.zero_add]at *;have pE:ew[j]? =some e:=by simpa using hj
     refine fin (ew.modify j fun e=>{e with key:=a.eval k,val:=a.eval v}) clock ?_ (by rw[fL];rfl) ?_
     ·rw[Array.toList_modify];exact hE.put AX Hx j
     ·rw[v_];simp only[Instr.mapUpdate,Sem.run_bind,run_underlying r_,Result.andThen,MapKept.run_getObj_map hw,MapKept.run_checkKey hu CQ,MapKept.run_findKey hu hn,pE,Option.map_some,Option.getD_some,QG,MapKept.run_keyThatStays CQ,MapKept.run_setObj_map _ hw];rfl
  ·cases hv
 ·cases hv
def Nr(h:aA X ρ σ bx a w)(bH:X.lo=0){args:Array Operand}{cA:Array TypeId}{bx':ae}(hv:Af (an P) cA.toList bx (args.toList.map (ev σ))=some bx'):
 ∃w' ρ',(execOp a.eval ⟨dst,.call {callee:=.builtin .delete,args:=args,argTypes:=cA},ty,pos,af,g⟩).run P w= .ok (.value (.tuple #[])) w'/\aA X ρ' σ bx' a w':=by
 obtain⟨cA⟩:=cA;obtain⟨args⟩:=args;unfold Af at hv;dsimp only at hv;split at hv
 case h_2=>cases hv
 rename_i T tl m' k' jJ
 match args,jJ with
 |[m,k],jJ=>
 simp only[mC,List.map_nil,List.cons.injEq,and_true]at jJ;obtain⟨rfl,rfl⟩:=jJ;have hm:=h.ev m;have hk:=h.ev k;generalize ev σ m=dm at hv hm;generalize ev σ k=dk at hv hk;unfold Lh at hv;split at hv
 ·rename_i kt et hT;split at hv
  ·rename_i oO;simp only[Option.bind_eq_some_iff,mS]at hv;obtain⟨r,hr,es',ik,rfl⟩:=hv;obtain⟨p,ew,clock,h3,hp,v_,E4,hw,fL,hE⟩:=ny h hr hm;have AX:fY dk (a.eval k):=hk.simple (by
    unfold mV at oO;split at oO<;>first|rfl|cases oO)
   obtain⟨hu,CQ⟩:=w9 oO AX;have r_:=zU hT;have ar:=(Array.getElem?_eq_some_iff.1 hw).1;have fin:∀(sM:Array MapEntry),gj es'.tail sM.toList->es'= .int .i64 (clock:Int)::es'.tail->(Builtin.delete_ (T::tl).toArray ty #[a.eval m,a.eval k]).run P w= .ok (.tuple #[]) (sd w p.b (.map sM clock))->
    ∃w' ρ',(execOp a.eval ⟨dst,.call {callee:=.builtin .delete,args:=[m,k].toArray,argTypes:=(T::tl).toArray},ty,pos,af,g⟩).run P w= .ok (.value (.tuple #[])) w'/\aA X ρ' σ (V.fR bx r.1 es') a w':=by
    intro sM CI he bQ;refine⟨sd w p.b (.map sM clock),_,?_,h.fR bH h3 hp E4 (es':=es') ?_ (Em w p.b _) (zE ar)⟩
    ·simp only[execOp,resolve,invoke,builtin,Sem.run_bind,Sem.run_pure,Result.andThen_ok,bQ,List.map_toArray,mC,List.map_nil]
    ·rw[he];exact .map CI
   unfold GK at ik;cases hf:ff (an P kt).k dk r.2.2 0 with
   |none=>rw[hf]at ik;cases ik
   |some q=>
    rw[hf]at ik;rcases yH AX hE 0 q hf with⟨rfl,hn⟩|⟨j,v0,e,rfl,hn,_,hj,QG⟩
    ·injection ik with ik;subst ik;refine fin ew hE (by rw[fL];rfl) ?_;rw[v_];simp only[Builtin.delete_,Sem.run_bind,run_underlying r_,Result.andThen,MapKept.run_getObj_map hw,MapKept.run_checkKey hu CQ,MapKept.run_findKey hu hn,MapKept.run_setObj_map _ hw,List.getElem?_toArray,List.getElem?_cons_zero,List.getElem?_cons_succ,Sem.run_pure];rfl
    ·injection ik with ik;subst ik;rw[Nat.zero_add]at *;refine fin (ew.eraseIdxIfInBounds j) ?_ (by rw[fL];rfl) ?_
     ·have ar:j<ew.size:=by have:=(gS.1 hj).1;simpa using this
      simp only[Array.eraseIdxIfInBounds,ar,dite_true,Array.toList_eraseIdx];exact hE.erase j
     ·rw[v_];simp only[Builtin.delete_,Sem.run_bind,run_underlying r_,Result.andThen,MapKept.run_getObj_map hw,MapKept.run_checkKey hu CQ,MapKept.run_findKey hu hn,MapKept.run_setObj_map _ hw,List.getElem?_toArray,List.getElem?_cons_zero,List.getElem?_cons_succ,Sem.run_pure];rfl
  ·cases hv
 ·cases hv
def LS(h:aA X ρ σ bx a w){args:Array Operand}{cA:Array TypeId}{d:D}(hk:∃T kt et,cA.toList=[T]/\(an P T).k= .map kt et)(hv:Bz bx (args.toList.map (ev σ))=some d):
 ∃v,(execOp a.eval ⟨dst,.call {callee:=.builtin .len,args:=args,argTypes:=cA},ty,pos,af,g⟩).run P w= .ok (.value v) w/\aJ w (az X ρ bx w) ρ d v:=by
 obtain⟨cA⟩:=cA;obtain⟨args⟩:=args;obtain⟨T,kt,et,rfl,hT⟩:=hk;unfold Bz at hv;dsimp only at hv;split at hv
 case h_2=>cases hv
 rename_i m' jJ
 match args,jJ with
 |[m],jJ=>
 simp only[mC,List.map_nil,List.cons.injEq,and_true]at jJ;subst jJ;simp only[mS]at hv;obtain⟨r,hr,rfl⟩:=hv;obtain⟨p,ew,clock,h3,hp,v_,E4,hw,fL,hE⟩:=ny h hr (h.ev m);refine⟨.int .i64 (ew.size:Int),?_,?_⟩
 ·have r_:=zU hT;have bQ:(Builtin.len_ [T].toArray ty #[a.eval m]).run P w= .ok (.int .i64 (ew.size:Int)) w:=by
   rw[v_];simp only[Builtin.len_,Sem.run_bind,MapKept.run_getObj_map hw,run_underlying r_,Result.andThen,List.getElem?_toArray,List.getElem?_cons_zero];rfl
  simp only[execOp,resolve,invoke,builtin,Sem.run_bind,Sem.run_pure,Result.andThen_ok,bQ,List.map_toArray,mC,List.map_nil]
 ·rw[hE.len,Array.length_toList];exact .pure (.int _ _)
def FT(h:aA X ρ σ bx a w)(bH:X.lo=0){T d s:Nat}(hd:d<X.N):
 ∃v w',(execOp a.eval ⟨some d,.makeMap T none,ty,pos,af,g⟩).run P w= .ok (.value v) w'/\
  ∃ρ',aA X ρ' (aj σ d (.omap s ((bx s).ep+1))) (aj bx s ⟨(bx s).ep+1,3,0,T,[.int .i64 0]⟩) (a.put (some d) v) w':=by
 obtain⟨ρ',h',hp⟩:=h.XA (o:=.map #[] 0) (es:=[.int .i64 0]) bH s 0 T (.map (clock:=0) .nil);refine⟨.map (some w.heap.size),w.alloc (.map #[] 0),?_,ρ',h'.put (dst:=some d) (fun t ht=>by injection ht with ht;subst ht;exact hd) (.omap hp)⟩;simp[execOp,Instr.makeMap,Result.andThen]
def Iv(h:aA X ρ σ bx a w)(bH:X.lo=0){T d s:Nat}{x:Operand}(hd:d<X.N){es:List D}(hv:BT (an P T) bx (ev σ x)=some es):
 ∃v w',(execOp a.eval ⟨some d,.range T x,ty,pos,af,g⟩).run P w= .ok (.value v) w'/\
  ∃ρ',aA X ρ' (aj σ d (.loc s ((bx s).ep+1) 0 0)) (aj bx s ⟨(bx s).ep+1,3,0,0,es⟩) (a.put (some d) v) w':=by
 have hx:=h.ev x;generalize ev σ x=dx at hv hx;unfold BT at hv;split at hv
 ·rename_i kt et hT;simp only[mS]at hv;obtain⟨r,hr,rfl⟩:=hv;obtain⟨p,ew,clock,h3,hp,v_,E4,hw,fL,hE⟩:=ny h hr hx;have hdx:∃t e,dx= .omap t e:=by
   unfold iZ at hr;split at hr
   ·exact⟨_,_,rfl⟩
   ·cases hr
  obtain⟨t,e,rfl⟩:=hdx;obtain⟨q,k1,k2⟩:=hx.HD;have hq:q.b=p.b:=by rw[v_]at k2;injection k2 with k2;injection k2 with k2;exact k2.symm
  obtain⟨ρ',h',bL⟩:=h.XA (o:=.mapIter (some q.b) clock #[] clock) (es:=[.omap t e,.int .i64 r.2.1,.int .i64 r.2.1]) bH s 0 0 (by rw[fL];exact .iter (seen:= #[]) k1);refine⟨.pointer (some ⟨w.heap.size,0,none⟩),w.alloc (.mapIter (some q.b) clock #[] clock),?_,ρ',h'.put (dst:=some d) (fun t ht=>by injection ht with ht;subst ht;exact hd) (.loc bL sI)⟩;have r_:=zU hT;have bQ:(Instr.range T (a.eval x)).run P w= .ok (.pointer (some ⟨w.heap.size,0,none⟩)) (w.alloc (.mapIter (some q.b) clock #[] clock)):=by
   rw[v_,hq];simp[Instr.range,MapKept.run_getObj_map hw,run_underlying r_,Result.andThen]
  simp only[execOp,Sem.run_bind,bQ,Result.andThen_ok,Sem.run_pure]
 ·cases hv
def vb{r:Nat}{m:Option Nat}{s l:Nat}{seen:Array Nat}(hb:w.heap[r]? =some (.mapIter m s seen l)):(getObj r).run P w= .ok (.mapIter m s seen l) w:=by simp[getObj,Sem.run,hb]
def Jf(h:aA X ρ σ bx a w){it:Operand}{d:D}(hv:tN bx (ev σ it)=some d):
 ∃v,(execOp a.eval ⟨dst,.entry it,ty,pos,af,g⟩).run P w= .ok (.value v) w/\aJ w (az X ρ bx w) ρ d v:=by
 have hx:=h.ev it;generalize ev σ it=dx at hv hx;simp only[tN,Option.bind_eq_some_iff]at hv;obtain⟨i,hi,r,hr,hv⟩:=hv;obtain⟨p,pm,since,last,seen,h3,hp,lz,E4,hw,fw,_,hs,hl,gq⟩:=C4 h hi hx;obtain⟨p2,ew,clock,m3,mp,mv,mho,mw,mcl,mE⟩:=ny h hr fw;injection mv with mv;injection mv with mv;split at hv
 ·rename_i fL;rw[mcl,hl]at fL;have fL:clock=last:=oM;subst fL;unfold Ag at hv;rw[gq]at hv;split at hv
  ·rename_i s AP;rw[List.getLast?_map,mS]at AP;obtain⟨n,hn,rfl⟩:=AP;have sR:seen.back? =some n:=by rw[<-Array.getLast?_toList];exact hn
   split at hv
   ·rename_i k v b hf;injection hv with hv;subst hv;obtain⟨e,k',v',g1,g2,g3,g4⟩:=mE.find n hf;injection g2 with g2;injection g2 with a1 a2;injection a2 with a3 a4;subst a1;subst a3;refine⟨.tuple #[e.key,e.val],?_,?_⟩
    ·have bQ:(Instr.entry (a.eval it)).run P w= .ok (.tuple #[e.key,e.val]) w:=by
      rw[lz];subst mv;simp only[Instr.entry,Sem.run_bind,vb hw,MapKept.run_getObj_map mw,Result.andThen,sR,bne_self_eq_false,Bool.false_eq_true,if_false];rw[<-Array.find?_toList,g1];rfl
     simp only[execOp,Sem.run_bind,bQ,Result.andThen_ok,Sem.run_pure]
    ·refine .pure (.aI rfl fun i d v hd hv=>?_)
     match i with
     |0=>simp at hd hv;subst hd;subst hv;exact g3.rep
     |1=>simp at hd hv;subst hd;subst hv;exact g4.rep
     |i+2=>simp at hd
   ·cases hv
  ·cases hv
 ·cases hv
def Ep(n:Nat)(hn:0<n)(w:World):∃(j:Nat) (w1:World),j<n/\(w1=w\/w1=w.drew)/\(choose (Question.mapNext n)).run P w= .ok j w1:=by
 by_cases hf:n<=1
 ·exact⟨0,w,by omega,Or.inl rfl,by simp[choose,Sem.run,Question.forced,hf]⟩
 ·exact⟨_,w.drew,Nat.mod_lt _ hn,Or.inr rfl,by
   simp only[choose,Sem.run,Question.forced,decide_eq_true_eq,hf,if_false,Question.cut];rfl⟩
def yh(seen:Array Nat)(n:Nat):((seen.toList.map fun n:Nat=>D.int .i64 (n:Int)).map intOf).contains (n:Int)=seen.contains n:=by
 rw[Bool.eq_iff_iff];simp only[List.map_map,List.contains_iff_mem,List.mem_map,Function.comp_apply,intOf,Array.contains_iff_mem,<-Array.mem_toList_iff];constructor
 ·rintro⟨m,hm,he⟩;have:m=n:=oM;exact this▸hm
 ·intro hm;exact⟨n,hm,rfl⟩
def L5(h:aA X ρ σ bx a w)(bH:X.lo=0){it:Operand}{K:D->ae->Prop}(hn:xe bx (ev σ it) K):
 ∃d bx' ρ' v w',(execOp a.eval ⟨dst,.next it false,ty,pos,af,g⟩).run P w= .ok (.value v) w'/\K d bx'/\aA X ρ' σ bx' a w'/\aJ w' (az X ρ' bx' w') ρ' d v:=by
 have hx:=h.ev it;generalize ev σ it=dx at hn hx;unfold xe at hn;cases hi:iterAt bx dx with
 |none=>rw[hi]at hn;exact hn.elim
 |some i=>
 rw[hi]at hn;dsimp only[aM]at hn;cases hr:iZ bx i.2.1 with
 |none=>rw[hr]at hn;exact hn.elim
 |some r=>
 rw[hr]at hn;dsimp only at hn;obtain⟨bw,SE,Sy⟩:=hn;obtain⟨p,pm,since,last,seen,h3,hp,lz,E4,hw,fw,⟨mt,mk,mq,uQ,qb,WG⟩,hs,hl,gq⟩:=C4 h hi hx;obtain⟨p2,ew,clock,m3,mp,mv,mho,mw,mcl,mE⟩:=ny h hr fw;injection mv with mv;injection mv with mv;subst mv;rw[hl,gq]at bw;rw[hs,gq]at SE Sy;have hg:(!seen.isEmpty&& !ew.isEmpty&&ew.all (fun e=>decide (e.born>=last)))=false:=by
  rcases bw with bw|bw|⟨e,he,hb⟩
  ·have:seen= #[]:=by
    rw[List.map_eq_nil_iff]at bw;exact Array.toList_eq_nil_iff.1 bw
   subst this;rfl
  ·have:ew= #[]:=by
    have:=mE.len;rw[bw]at this;simpa using this.symm
   subst this;simp
  ·obtain⟨e',Hh,k,v,rfl⟩:=mE.Xy e he;have hb:e'.born<last:=by simp only[gQ]at hb;omega
   have:ew.all (fun e=>decide (e.born>=last))=false:=by
    rw[Bool.eq_false_iff];intro eH;rw[Array.all_eq_true']at eH;have:=eH e' (Array.mem_toList_iff.1 Hh);simp only[decide_eq_true_eq]at this;omega
   rw[this,Bool.and_false]
 have ZW:∀e∈ew.toList,seen.contains e.born=false->∃k v,fY k e.key/\fY v e.val/\D.aI [k,v,.int .i64 (e.born:Int)]∈iG (seen.toList.map fun n:Nat=>D.int .i64 (n:Int)) r.2.2:=by
  intro e he gq;obtain⟨k,v,g1,g2,g3⟩:=mE.mem e he;refine⟨k,v,g1,g2,?_⟩;unfold iG;rw[List.mem_filter];refine⟨g3,?_⟩;show(!(((seen.toList.map fun n:Nat=>D.int .i64 (n:Int)).map intOf).contains (e.born:Int)))=true;rw[yh,gq];rfl
 have bQ:∃c w1,(w1=w\/w1=w.drew)/\((c=none/\(∀e∈ew.toList,seen.contains e.born=false->since<=e.born)/\(Instr.next (a.eval it) false ty).run P w= .ok (.tuple #[.bool false]) w1)\/
  ∃e∈ew.toList,c=some e/\seen.contains e.born=false/\(Instr.next (a.eval it) false ty).run P w= .ok (.tuple #[.bool true,e.key,e.val]) (sd w1 p.b (.mapIter (some p2.b) since (seen.push e.born) clock))):=by
  rw[lz];simp only[Instr.next,Sem.run_bind,vb hw,MapKept.run_getObj_map mw,Result.andThen,hg,Bool.false_eq_true,if_false];generalize hL:(ew.filter fun e=> !seen.contains e.born)=L;have memL:∀e∈L.toList,e∈ew.toList/\seen.contains e.born=false:=by
   intro e he;rw[<-hL]at he;simpa using he
  have memL2:∀e∈ew.toList,seen.contains e.born=false->e∈L.toList:=by
   intro e he hc;rw[<-hL];simpa using⟨Array.mem_toList_iff.1 he,by simpa using hc⟩
  generalize hO:(L.filter fun e=>decide (e.born<since))=O;generalize hN:(L.filter fun e=>decide (e.born>=since))=N';have bP:0<((if O.isEmpty=true then #[none]else #[])++(O++N').map some:Array (Option MapEntry)).size:=by
   by_cases CU:O.isEmpty=true
   ·simp only[CU,if_true,Array.size_append,Array.size_map];simp;omega
   ·have:0<O.size:=by
     rcases Nat.eq_zero_or_pos O.size with h0|h0
     ·exact absurd (by simpa[Array.isEmpty]using h0) CU
     ·exact h0
    simp only[Array.size_append,Array.size_map];omega
  obtain⟨j,w1,hj,pG,J3⟩:=Ep (P:=P) _ bP w;simp only[J3];have ez:=Array.getElem?_eq_getElem hj;generalize(((if O.isEmpty=true then #[none]else #[])++(O++N').map some:Array (Option MapEntry))[j])=c at ez;have fO:c∈((if O.isEmpty=true then #[none]else #[])++(O++N').map some:Array (Option MapEntry)):=Array.mem_of_getElem? ez;rw[ez];refine⟨c,w1,pG,?_⟩;have ae7:w1.heap=w.heap:=by rcases pG with rfl|rfl<;>rfl
  cases c with
  |none=>
   refine .inl ⟨rfl,fun e he hc=>?_,rfl⟩;have CU:O.isEmpty=true:=by
    rw[Array.mem_append]at fO;rcases fO with fO|fO
    ·by_cases CU:O.isEmpty=true
     ·exact CU
     ·simp[CU]at fO
    ·simp at fO
   rcases Nat.lt_or_ge e.born since with ar|AO
   ·exfalso;have:e∈O.toList:=by
     rw[<-hO];simpa using⟨by simpa using memL2 e he hc,ar⟩
    have h0:O= #[]:=by simpa[Array.isEmpty]using CU
    rw[h0]at this;simp at this
   ·exact AO
  |some e=>
   have he:e∈L.toList:=by
    rw[Array.mem_append]at fO;rcases fO with fO|fO
    ·by_cases CU:O.isEmpty=true<;>simp[CU]at fO
    ·rw[<-hO,<-hN]at fO;simp at fO;rcases fO with fO|fO
     ·simpa using fO.1
     ·simpa using fO.1
   obtain⟨g1,g2⟩:=memL e he;refine .inr ⟨e,g1,rfl,g2,?_⟩;have gI:(setObj p.b (.mapIter (some p2.b) since (seen.push e.born) clock)).run P w1= .ok () (sd w1 p.b (.mapIter (some p2.b) since (seen.push e.born) clock)):=by
    have:w1.heap[p.b]? =some (.mapIter (some p2.b) since seen last):=by rw[ae7];exact hw
    simp[setObj,Sem.run,this,sd]
   simp only[Sem.run_bind,gI,Result.andThen];rfl
 obtain⟨c,w1,pG,bQ⟩:=bQ;have uO:Below w.heap.size w w1:=by
  rcases pG with rfl|rfl
  ·exact Below.refl _ _
  ·exact⟨rfl,rfl,rfl,Nat.le_refl _,fun _ _=>rfl⟩
 have h1:=h.ext uO;rcases bQ with⟨_,eH,bQ⟩|⟨e,he,_,ae1,bQ⟩
 ·refine⟨_,_,ρ,_,w1,by simp only[execOp,Sem.run_bind,bQ,Result.andThen_ok,Sem.run_pure];rfl,Sy fun d hd=>?_,h1,.pure (.aI rfl fun i d v hd hv=>?_)⟩
  ·unfold iG at hd;rw[List.mem_filter]at hd;obtain⟨hd,hc⟩:=hd;obtain⟨e,he,k,v,rfl⟩:=mE.Xy d hd;have ke:seen.contains e.born=false:=by
    have:(!(((seen.toList.map fun n:Nat=>D.int .i64 (n:Int)).map intOf).contains (e.born:Int)))=true:=hc;rw[yh]at this;simpa using this
   have:=eH e he ke;simp only[gQ];omega
  ·match i with
   |0=>simp at hd hv;subst hd;subst hv;exact .bool false
   |i+1=>simp at hd
 ·obtain⟨k,v,g1,g2,g3⟩:=ZW e he ae1;have ar:p.b<w1.heap.size:=Nat.lt_of_lt_of_le (Array.getElem?_eq_some_iff.1 hw).1 uO.size;have hNO:oF ρ (.mapIter (some p2.b) since (seen.push e.born) clock) (i.2.1:: .int .i64 (since:Int):: .int .i64 r.2.1::((seen.toList.map fun n:Nat=>D.int .i64 (n:Int))++[.int .i64 (e.born:Int)])):=by
   rw[uQ,<-WG,mcl];have:=oF.iter (ρ:=ρ) (p:=mq) (since:=since) (last:=clock) (seen:=seen.push e.born) qb;simpa using this
  have h2:=h1.fR bH h3 hp E4 hNO (Em w1 p.b _) (zE ar);refine⟨_,_,_,_,_,by simp only[execOp,Sem.run_bind,bQ,Result.andThen_ok,Sem.run_pure];rfl,SE k v e.born g3,h2,.pure (.aI rfl fun i d v hd hv=>?_)⟩
  match i with
  |0=>simp at hd hv;subst hd;subst hv;exact .bool true
  |1=>simp at hd hv;subst hd;subst hv;exact g1.rep
  |2=>simp at hd hv;subst hd;subst hv;exact g2.rep
  |i+3=>simp at hd
end Go.V
namespace Go.V
open Go.RowKit
abbrev Fw(r:Option Nat):Fence:={Fence.wide with round:=r}
variable {P:Program} {C:Calc} {X:Ctx} {ρ:cQ} {σ:Env} {bx:ae} {a:Act} {w:World} {r:Option Nat} {n:Nat}
def wL{f:FuncId}{args:Array Value}{R:Ending->World->Prop}(h:Calls P f args w R):CallsIn (Fw r) n P f args w R:=callsIn_wide.2 h
section
variable {o:Oper} {next:Act->World->Prop} {Q:Exit->Act->World->Prop}
def f_(hd:∀c,o.op≠ .defer c){v:Value}{w':World}(hr:(execOp a.eval o).run P w= .ok (.value v) w')(hn:next (a.put o.dst v) w'):o.wpIn (Fw r) n P a w next Q:=by
 refine⟨fun _ _=>trivial,?_⟩;rw[Oper.semAt_eq _ _ _ hd,hr];exact hn
def KU(hd:∀c,o.op≠ .defer c){w':World}(hr:(execOp a.eval o).run P w= .ok .skip w')(hn:next (a.put o.dst undef) w'):o.wpIn (Fw r) n P a w next Q:=by
 refine⟨fun _ _=>trivial,?_⟩;rw[Oper.semAt_eq _ _ _ hd,hr];exact hn
def Eu{c:Call}(ho:o.op= .call c){f:FuncId}{vs:Array Value}(hr:(execOp a.eval o).run P w=(callFunc f vs).run P w)(hc:o9 P f vs w (fun v w'=>next (a.put o.dst v) w') (fun v w'=>Q (.panic [pe v]) a w')):o.wpIn (Fw r) n P a w next Q:=by
 refine⟨fun _ _=>trivial,?_⟩;rw[Oper.semAt_eq _ _ _ (by rw[ho];simp),hr];rcases hc with⟨h1,h2⟩|⟨v,w',h1,h2⟩
 ·rw[h1];refine⟨fun h=>by simp[Fence.wide]at h,wL (Calls.mono h2 ?_)⟩;rintro e w' (⟨v,rfl,hv⟩|⟨v,rfl,hv⟩)
  ·exact hv
  ·exact hv
 ·rw[h1];exact h2
def RC(hd:∀c,o.op≠ .defer c){v:Value}{w':World}(hr:(execOp a.eval o).run P w= .halt (.panic v) w')(hn:Q (.panic [pe v]) a w'):o.wpIn (Fw r) n P a w next Q:=by
 refine⟨fun _ _=>trivial,?_⟩;rw[Oper.semAt_eq _ _ _ hd,hr];exact hn
end
def BX(d x:D):oe d≠ .cX x:=by unfold oe;split<;>simp
def IQ(d x:D):lJ d≠ .cX x:=by unfold lJ;split<;>simp
theorem aA.Q7{dst:Option Tmp}(h:aA X ρ σ bx a w)(hd:∀t,dst=some t->t<X.N):aA X ρ (V.put σ dst .undef) bx a w:=by
 cases dst with
 |none=>exact h
 |some t=>
  have nj:en≠t:=by
   intro e;exact absurd (hd t rfl) (by rw[<-e];exact Nat.not_lt.2 h.qh)
  refine {h with marks:= ?_,tmps:=fun x=>?_}
  ·simpa[V.put,aj,nj]using h.marks
  ·simp only[V.put,aj];by_cases hx:x=t
   ·simp only[hx,if_true];exact aJ.pure (bB.undef _)
   ·simp only[hx,if_false];exact h.tmps x
theorem BZ(h:aA X ρ σ bx a w){o:Oper}{cl:D->Cl}(cw:∀t,o.dst=some t->t<X.N){K:Cl->Env->ae->Prop}(hs:aM (cT P σ bx o.op) fun v=>K (cl v) (put σ o.dst v) bx)(fL:∀d x,cl d≠ .cX x)
 {next:Act->World->Prop} {Q:Exit->Act->World->Prop} (hK:∀c σ' bx' a' w' ρ',(∀x,c≠ .cX x)->K c σ' bx'->aA X ρ' σ' bx' a' w'->next a' w'):o.wpIn (Fw r) n P a w next Q:=by
 cases hv:cT P σ bx o.op with
 |none=>rw[hv]at hs;exact hs.elim
 |some d=>
  rw[hv]at hs;obtain⟨v,w',hr,hb,fw⟩:=FN h o hv;refine f_ (fun c hc=>by rw[hc]at hv;simp[cT]at hv) hr (hK _ _ _ _ _ _ (fL d) hs ((h.ext hb).put cw ?_));exact fw
def IP(d x:D):xH d≠ .cX x:=by unfold xH;split<;>simp
def LZ(h:aA X ρ σ bx a w)(mA:X.lo=0){dst:Option Tmp}{op:Op}{ty:TypeId}{pos:String}{af:Array Edge}{g:Option (Nat×Bool)}(vT:o8 P op=true)(cw:∀t,dst=some t->t<X.N){K:Cl->Env->ae->Prop}(hs:iB P C dst op σ bx K)
 {next:Act->World->Prop} {Q:Exit->Act->World->Prop} (hK:∀c σ' bx' a' w' ρ',(∀x,c≠ .cX x)->K c σ' bx'->aA X ρ' σ' bx' a' w'->next a' w'):(Oper.mk dst op ty pos af g).wpIn (Fw r) n P a w next Q:=by
 unfold iB at hs;split at hs
 ·rename_i T;split at hs
  ·rename_i d;obtain⟨v,w',hr,ρ',h'⟩:=FT (T:=T) (s:=C.base+d) (ty:=ty) (pos:=pos) (af:=af) (g:=g) (P:=P) h mA (cw d rfl);exact f_ sI hr (hK _ _ _ _ _ _ (by intro x;simp) hs h')
  ·exact hs.elim
 ·rename_i T m k v;cases hz:zV (an P) (an P T) bx (ev σ m) (ev σ k) (ev σ v)with
  |none=>rw[hz]at hs;exact hs.elim
  |some bx'=>
   rw[hz]at hs;obtain⟨w',ρ',hr,h'⟩:=Pa (dst:=dst) (ty:=ty) (pos:=pos) (af:=af) (g:=g) h mA hz;exact KU sI hr (hK _ _ _ _ _ _ (by intro x;simp) hs (h'.put cw (.pure (.raw _))))
 ·rename_i T x;split at hs
  ·rename_i d;cases hz:BT (an P T) bx (ev σ x)with
   |none=>rw[hz]at hs;exact hs.elim
   |some es=>
    rw[hz]at hs;obtain⟨v,w',hr,ρ',h'⟩:=Iv (s:=C.base+d) (ty:=ty) (pos:=pos) (af:=af) (g:=g) h mA (cw d rfl) hz;exact f_ sI hr (hK _ _ _ _ _ _ (by intro x;simp) hs h')
  ·exact hs.elim
 ·rename_i it;obtain⟨d,bx',ρ',v,w',hr,hk,h',fw⟩:=L5 (dst:=dst) (ty:=ty) (pos:=pos) (af:=af) (g:=g) (P:=P) h mA hs;exact f_ sI hr (hK _ _ _ _ _ _ (by intro x;simp) hk (h'.put cw fw))
 ·rename_i it;cases hz:tN bx (ev σ it)with
  |none=>rw[hz]at hs;exact hs.elim
  |some d=>
   rw[hz]at hs;obtain⟨v,hr,fw⟩:=Jf (dst:=dst) (ty:=ty) (pos:=pos) (af:=af) (g:=g) (P:=P) h hz;exact f_ sI hr (hK _ _ _ _ _ _ (by intro x;simp) hs (h.put cw fw))
 ·rename_i b args cA;split at hs
  ·cases hz:Af (an P) cA.toList bx (args.toList.map (ev σ))with
   |none=>rw[hz]at hs;exact hs.elim
   |some bx'=>
    rw[hz]at hs;obtain⟨w',ρ',hr,h'⟩:=Nr (dst:=dst) (ty:=ty) (pos:=pos) (af:=af) (g:=g) h mA hz;exact f_ sI hr (hK _ _ _ _ _ _ (by intro x;simp) hs (h'.put cw (.pure (.raw _))))
  ·cases hz:Bz bx (args.toList.map (ev σ))with
   |none=>rw[hz]at hs;exact hs.elim
   |some d=>
    rw[hz]at hs;have hk:∃T kt et,cA.toList=[T]/\(an P T).k= .map kt et:=by
     simp only[o8]at vT;split at vT
     ·rename_i T hT;refine⟨T,?_⟩;cases hk:(an P T).k<;>rw[hk]at vT<;>simp[TK.isMap]at vT;exact⟨_,_,hT,rfl⟩
     ·cases vT
    obtain⟨v,hr,fw⟩:=LS (dst:=dst) (ty:=ty) (pos:=pos) (af:=af) (g:=g) h hk hz;exact f_ sI hr (hK _ _ _ _ _ _ (by intro x;simp) hs (h.put cw fw))
  ·cases hz:yx C.lo (an P) cA.toList bx (args.toList.map (ev σ))with
   |none=>rw[hz]at hs;exact hs.elim
   |some rr=>
    rw[hz]at hs;obtain⟨args⟩:=args;obtain⟨cA⟩:=cA;dsimp only at hz;unfold yx at hz;split at hz
    case h_2=>cases hz
    rename_i T T' d1 d2 jJ
    match args,jJ with
    |[x,y],jJ=>
    simp only[mC,List.map_nil,List.cons.injEq,and_true]at jJ;obtain⟨rfl,rfl⟩:=jJ;obtain⟨v,w',hr,h'⟩:=Lg (ty:=ty) (pos:=pos) (af:=af) (g:=g) h cw (lo:=C.lo) oM hz;exact f_ sI hr (hK _ _ _ _ _ _ (by intro x;simp) hs h')
  ·exact hs.elim
 ·exact hs.elim
def L1{t:TypeId}{name:String}{f:FuncId}{u:Value}(h:sW P t name=some f)(k:Nat):(method (k+1) t u name).run P w= .ok (f,u) w:=by
 unfold sW at h;split at h
 ·rename_i i d hi hu;have key:∀d,P.underlying t=some d->(∀e,d≠ .pointer e)->(match i.methods.find? (·.name==name)with
   |some m=>if m.path.size=0 then(match m.func with
    |some (f,false)=>some f
    |_=>none)else none
   |none=>none)=some f->(method (k+1) t u name).run P w= .ok (f,u) w:=by
   intro d hu hd h;split at h
   ·rename_i m hm;split at h
    ·rename_i hp;split at h
     ·rename_i f' hf;injection h with h;subst h;have WQ:m.path.toList=[]:=by
       rw[<-Array.length_toList]at hp;exact List.eq_nil_of_length_eq_zero hp
      have qO:∀nm,(receiverAt t (.val u) false nm).run P w= .ok u w:=by
       intro nm;unfold receiverAt;simp only[Sem.run_bind,run_underlying hu,Result.andThen_ok];cases d<;>first|(exact absurd rfl (hd _))|simp[Place.get]
      unfold method;simp[typeInfo,hi,hm,WQ,follow,hf,qO,go_sem]
     ·cases h
    ·cases h
   ·cases h
  cases d<;>first|(cases h;done)|exact key _ hu (by intro e;simp) h
 ·cases h
def LM{recv:Operand}{name:String}{args:Array Operand}{cA:Array TypeId}{dst:Option Tmp}{ty:TypeId}{pos:String}{af:Array Edge}{g:Option (Nat×Bool)}{t:TypeId}{u:Value}{f:FuncId}(hr:a.eval recv= .iface t u)(hm:sW P t name=some f):
 (execOp a.eval ⟨dst,.call {callee:=.invoke recv name,args,argTypes:=cA},ty,pos,af,g⟩).run P w=(callFunc f (#[u]++args.map a.eval)).run P w:=by
 obtain⟨k,hk⟩:∃k,P.types.size+Made.depth=k+1:=⟨P.types.size+99,rfl⟩
 have h2:(#[a.eval recv]++args.map a.eval).extract 1 (#[a.eval recv]++args.map a.eval).size=args.map a.eval:=by
  apply Array.toList_inj.1;simp[List.take_of_length_le]
 generalize hA: #[a.eval recv]++args.map a.eval=A at h2;have h1:A[0]? =some (.iface t u):=by rw[<-hA,Array.getElem?_append_left (by decide:0<1)];exact congrArg some hr
 have hmr:=L1 (w:=w) (u:=u) hm k;simp only[execOp,resolve,invoke,Sem.run_bind,Sem.run_pure,Result.andThen_ok,hA,h1,h2,callMethod,run_program,hk,hmr]
def DJ(h:aA X ρ σ bx a w)(hG:Good P C X)(nk:∀l,r=some l->X.md=1){o:Oper}(cw:∀t,o.dst=some t->t<X.N){K:Cl->Env->ae->Prop}(hs:bq P C o σ bx K)
 {next:Act->World->Prop} {Q:Exit->Act->World->Prop} (hK:∀c σ' bx' a' w' ρ',(∀x,c≠ .cX x)->K c σ' bx'->aA X ρ' σ' bx' a' w'->next a' w')
 (hP:∀d σ' bx' a' w' ρ' v,K (.cX d) σ' bx'->aA X ρ' σ' bx' a' w'->aJ w' (az X ρ' bx' w') ρ' d v->Q (.panic [pe v]) a' w'):o.wpIn (Fw r) n P a w next Q:=by
 unfold bq at hs;obtain⟨dst,op,ty,pos,af,g⟩:=o;dsimp only at hs cw;split at hs
 ·rename_i T;split at hs
  ·rename_i d;cases hz:yb (jb (an P T)) (sn (an P T) (zeroV P T))with
   |none=>rw[hz]at hs;exact hs.elim
   |some z=>
    rw[hz]at hs;obtain⟨v,w',hr,ρ',h'⟩:=I8 (ty:=ty) (pos:=pos) (af:=af) (g:=g) h (cw d rfl) (Nat.le_trans hG.base (Nat.le_add_right C.base d)) hz;exact f_ sI hr (hK _ _ _ _ _ _ (by intro x;simp) hs h')
  ·exact hs.elim
 ·rename_i T x;split at hs
  ·rename_i d;cases hz:yo (an P T) (ev σ x)with
   |none=>rw[hz]at hs;exact hs.elim
   |some z=>
    rw[hz]at hs;obtain⟨v,w',hr,ρ',h'⟩:=M5 (ty:=ty) (pos:=pos) (af:=af) (g:=g) h (cw d rfl) (Nat.le_trans hG.base (Nat.le_add_right C.base d)) hz;exact f_ sI hr (hK _ _ _ _ _ _ (by intro x;simp) hs h')
  ·exact hs.elim
 ·rename_i T x y;cases hz:wm (gF C.lo (an P T) bx (ev σ x) (ev σ y)) (sn (an P T) (zeroV P T)) bx (ev σ x) (ev σ y)with
  |none=>rw[hz]at hs;exact hs.elim
  |some bx'=>
   rw[hz]at hs;obtain⟨w',hr,ρ',h'⟩:=JB (ty:=ty) (pos:=pos) (af:=af) (g:=g) h cw hG.lo hz;exact KU sI hr (hK _ _ _ _ _ _ (IQ _) hs h')
 ·rename_i T x;exact BZ (o:=⟨dst,.load T x,ty,pos,af,g⟩) (cl:=fun _=>oe (ev σ x)) h cw hs (fun _=>BX _) hK
 ·rename_i args cA;split at hs
  ·obtain⟨_,hs⟩:=hs;cases hz:K4 C.lo (an P) cA.toList (ld C.base dst) bx (args.toList.map (ev σ))with
   |none=>rw[hz]at hs;exact hs.elim
   |some rr=>
    rw[hz]at hs;obtain⟨args⟩:=args;obtain⟨cA⟩:=cA;dsimp only at hz;unfold K4 at hz;split at hz
    case h_2=>cases hz
    rename_i T T' d1 d2 jJ
    match args,jJ with
    |[x,y],jJ=>
    simp only[mC,List.map_nil,List.cons.injEq,and_true]at jJ;obtain⟨rfl,rfl⟩:=jJ;obtain⟨v,w',hr,ρ',h'|h'⟩:=xN (ty:=ty) (pos:=pos) (af:=af) (g:=g) h cw hG.lo hG.base hz
    ·exact f_ sI hr (hK _ _ _ _ _ _ (by intro x;simp) hs.1 h')
    ·exact f_ sI hr (hK _ _ _ _ _ _ (by intro x;simp) hs.2 h')
  ·cases hz:FW C.lo (an P) cA.toList (ld C.base dst) bx (args.toList.map (ev σ))with
   |none=>rw[hz]at hs;exact hs.elim
   |some rr=>
    rw[hz]at hs;obtain⟨args⟩:=args;obtain⟨cA⟩:=cA;dsimp only at hz;unfold FW at hz;split at hz
    case h_2=>cases hz
    rename_i T T' d1 d2 jJ
    match args,jJ with
    |[x,y],jJ=>
    simp only[mC,List.map_nil,List.cons.injEq,and_true]at jJ;obtain⟨rfl,rfl⟩:=jJ;obtain⟨v,w',hr,ρ',h'⟩:=Gs (ty:=ty) (pos:=pos) (af:=af) (g:=g) h cw hG.lo hG.base hz;exact f_ sI hr (hK _ _ _ _ _ _ (by intro x;simp) hs h')
 ·rename_i fo args cA;have kL:=h.ev fo;generalize ev σ fo=df at hs kL;unfold l9 at hs;split at hs
  ·rename_i f caps;obtain⟨vs,mM,hl,hv⟩:=kL.wg;refine Eu (c:={callee:=.value fo,args:=args,argTypes:=cA}) rfl (f:=f) (vs:=args.map a.eval++vs) (by simp[execOp,resolve,mM,Deferred.ofValue,invoke]) ?_;have hc:=vw (vs:=args.map a.eval++vs) h hG (by simp[hl]) (fun i x v hx aX=>by
    rw[Array.getElem?_append]at aX;rw[List.getElem?_append]at hx;simp only[List.length_map,Array.length_toList,Array.size_map]at hx aX;split at aX
    ·rename_i ar;rw[if_pos ar]at hx;simp only[gM,aG,Array.getElem?_map,mS]at hx aX;obtain⟨o1,h1,rfl⟩:=hx;obtain⟨o2,h2,rfl⟩:=aX;rw[h1]at h2;injection h2 with h2;subst h2;exact h.ev o1
    ·rename_i ar;rw[if_neg ar]at hx;exact hv _ _ _ hx aX) hs
   refine hc.mono ?_ ?_
   ·rintro v w' ⟨c,d,bx',ρ',g0,g1,g2,g3⟩;exact hK _ _ _ _ _ _ g0 g1 (g2.put cw g3)
   ·rintro v w' ⟨d,bx',ρ',g1,g2,g3⟩;exact hP _ _ _ _ _ _ _ g1 (g2.Q7 cw) g3
  ·rename_i l;obtain⟨vs,mM,hl,_⟩:=kL.wg;have HB:vs= #[]:=by simpa using hl
   subst HB;unfold qw at hs;split at hs
   ·rename_i items gs l' lB;obtain⟨⟨rfl,hp,hi⟩,R9⟩:=hs;obtain⟨f,tm,as,bd,hr,nr⟩:=hG.yok items gs l' lB ρ σ bx a w (args.map a.eval) (args.toList.map (ev σ)) h hi sI (fun i x v hx hv=>by
     simp only[gM,aG,Array.getElem?_map,mS]at hx hv;obtain⟨o1,h1,rfl⟩:=hx;obtain⟨o2,h2,rfl⟩:=hv;rw[h1]at h2;injection h2 with h2;subst h2;exact(h.ev o1).fC (u9 _ hp i _ (by simp only[gM,aG,h1,Option.map_some])))
    refine⟨fun _ _=>trivial,?_⟩;rw[Oper.semAt_eq _ _ _ sI];have bQ:(execOp a.eval ⟨dst,.call {callee:=.value fo,args:=args,argTypes:=cA},ty,pos,af,g⟩).run P w= .ok (.round l' f tm as bd) w:=by
     simp only[execOp,resolve,mM,Deferred.ofValue,invoke,Sem.run_bind,Sem.run_pure,Result.andThen_ok,Array.empty_append];exact hr
    rw[bQ];refine⟨fun h=>by simp[Fence.wide]at h,?_⟩;refine RoundIn.mono (show RoundIn (Fw r) _ P l' f tm as bd w _ from nr _) ?_;rintro e w2 ⟨ρ2,bx1,b,rfl,hS⟩;cases b with
    |true=>exact hK _ _ _ _ _ _ (by intro x;simp) (R9 bx1).1 (hS.put cw (.pure (.bool true)))
    |false=>exact hK _ _ _ _ _ _ (by intro x;simp) (R9 bx1).2 (hS.put cw (.pure (.bool false)))
   ·exact hs.elim
  ·rename_i f caps;obtain⟨vs,mM,hl,hv⟩:=kL.Kq;refine Eu (c:={callee:=.value fo,args:=args,argTypes:=cA}) rfl (f:=f) (vs:=vs++args.map a.eval) (by simp[execOp,resolve,mM,Deferred.ofValue,invoke]) ?_;have hc:=vw (vs:=vs++args.map a.eval) h hG (by simp[hl]) (fun i x v hx aX=>by
    rw[Array.getElem?_append]at aX;rw[List.getElem?_append]at hx;rw[hl]at aX;split at aX
    ·rename_i ar;rw[if_pos ar]at hx;exact hv _ _ _ hx aX
    ·rename_i ar;rw[if_neg ar]at hx;simp only[gM,aG,Array.getElem?_map,mS]at hx aX;obtain⟨o1,h1,rfl⟩:=hx;obtain⟨o2,h2,rfl⟩:=aX;rw[h1]at h2;injection h2 with h2;subst h2;exact h.ev o1) hs
   refine hc.mono ?_ ?_
   ·rintro v w' ⟨c,d,bx',ρ',g0,g1,g2,g3⟩;exact hK _ _ _ _ _ _ g0 g1 (g2.put cw g3)
   ·rintro v w' ⟨d,bx',ρ',g1,g2,g3⟩;exact hP _ _ _ _ _ _ _ g1 (g2.Q7 cw) g3
  ·exact hs.elim
 ·rename_i x;obtain⟨_,hs⟩:=hs;unfold Ei at hs;have hx:=h.ev x;generalize ev σ x=dx at hs hx;split at hs
  ·obtain⟨u,hu,_⟩:=hx.D_;exact RC (v:=a.eval x) (w':=w) sI (by simp[execOp,hu,Instr.panic,goPanic,Sem.run]) (hP _ _ _ _ _ _ _ hs h hx)
  ·exact hs.elim
 ·rename_i fo args cA;obtain⟨nj,hs⟩:=hs;have mR:=hG.df nj;have oz:r=none:=by
   cases r with
   |none=>rfl
   |some l=>have:=nk l rfl;omega
  subst oz;have kL:=h.ev fo;split at hs
  ·rename_i f caps hfc;rw[hfc]at kL;obtain⟨vs,mM,hl,hv⟩:=kL.wg;refine⟨fun _ _=>trivial,?_⟩;show Oper.uponIn (Fw none) n P _ a next Q ((Oper.semAt none a.eval _).run P w)
   rw[Oper.semAt_none];have bQ:(execOp a.eval ⟨dst,.defer {callee:=.value fo,args:=args,argTypes:=cA},ty,pos,af,g⟩).run P w= .ok (.defer {target:=.fn (.func f) vs,args:=args.map a.eval}) w:=by simp[execOp,resolve,mM,Deferred.ofValue]
   rw[bQ];show next _ w
   refine hK _ _ _ _ _ _ (by intro x;simp) hs (aA.put (ρ:=ρ) (a:={a with defers:={target:=.fn (.func f) vs,args:=args.map a.eval}::a.defers}) ?_ cw (.pure (.raw _)));refine {h with marks:= ?_,tmps:=fun t=>?_}
   ·have hm:=h.marks;rcases hm with hm|hm
    ·omega
    ·refine .inr ?_;refine⟨?_,fun h3=>by omega⟩;obtain⟨hm,_⟩:=hm;rw[if_neg oM]at hm⊢;have e:qn (aj σ en (Dk (σ en) (.fn (.func f) caps) (args.toList.map (ev σ))) en)= .aI (.fn (.func f) caps::args.toList.map (ev σ))::qn (σ en):=by
      rw[dC];cases σ en<;>rfl
     rw[e];refine .call hl hv sI (fun i d v hd aX=>?_) hm;simp only[gM,aG,Array.getElem?_map,mS]at hd aX;obtain⟨o1,h1,rfl⟩:=hd;obtain⟨o2,h2,rfl⟩:=aX;rw[h1]at h2;injection h2 with h2;subst h2;exact h.ev o1
   ·simp only[aj];split
    ·unfold Dk;split<;>exact .pure (.any _ _)
    ·exact h.tmps t
  ·exact hs.elim
 ·rename_i T l c;split at hs
  ·rename_i d;cases hz:u6 (an P) (an P T) (ev σ l) (ev σ c)with
   |none=>rw[hz]at hs;exact hs.elim
   |some z=>
    rw[hz]at hs;obtain⟨v,w',hr,ρ',h'⟩:=L3 (ty:=ty) (pos:=pos) (af:=af) (g:=g) h (cw d rfl) (Nat.le_trans hG.base (Nat.le_add_right C.base d)) hz;exact f_ sI hr (hK _ _ _ _ _ _ (by intro x;simp) hs h')
  ·exact hs.elim
 ·unfold fE at hs;split at hs
  ·rename_i T m ps _ _ _ _ _ _ _ _ _;split at hs
   ·split at hs
    ·rename_i d _;cases hz:uZ (an P) (an P T) m (ps.toList.map fun p=>(p.1,ev σ p.2))with
     |none=>rw[hz]at hs;exact hs.elim
     |some z=>
      rw[hz]at hs;obtain⟨v,w',hr,ρ',h'⟩:=LV (ty:=ty) (pos:=pos) (af:=af) (g:=g) h (cw d rfl) (Nat.le_trans hG.base (Nat.le_add_right C.base d)) hz;exact f_ sI hr (hK _ _ _ _ _ _ (by intro x;simp) hs h')
    ·exact hs.elim
   ·exact BZ (o:=⟨dst,.buildSlice T m ps,ty,pos,af,g⟩) (cl:=fun _=> .n) h cw hs (by intro d x;simp) hK
  ·rename_i T m k ok _ _ _ _ _ _ _ _ _;cases hz:sV P (an P) (an P T) bx (ev σ m) (ev σ k) ok with
   |none=>rw[hz]at hs;exact hs.elim
   |some d=>
    rw[hz]at hs;obtain⟨v,w',hr,hb,fw⟩:=LX (dst:=dst) (ty:=ty) (pos:=pos) (af:=af) (g:=g) h hz;exact f_ sI hr (hK _ _ _ _ _ _ (IP _) hs ((h.ext hb).put cw fw))
  ·rename_i recv name args cA _ _ _ _ _ _ _ _ _;have AW:=h.ev recv;generalize ev σ recv=dr at hs AW;unfold o6 at hs;split at hs
   ·rename_i t d0;cases hm:sW P t name with
    |none=>rw[hm]at hs;exact hs.elim
    |some f=>
     rw[hm]at hs;have hs:fD C f (d0::args.toList.map (ev σ)) bx fun c d bx'=>K c (put σ dst d) bx':=hs;obtain⟨u,hu,fw⟩:=AW.D_;refine Eu (c:={callee:=.invoke recv name,args:=args,argTypes:=cA}) rfl (f:=f) (vs:= #[u]++args.map a.eval) (LM hu hm) ?_;have hc:=vw (vs:= #[u]++args.map a.eval) h hG (by simp;exact Nat.add_comm 1 _) (fun i x v hx aX=>by
      rcases i with _|i
      ·rw[Array.getElem?_append_left (by decide:0<1)]at aX;injection hx with hx;injection aX with aX;subst hx;subst aX;exact fw
      ·rw[Array.getElem?_append_right sI]at aX;simp only[List.getElem?_cons_succ,gM,aG,mS]at hx;simp only[List.size_toArray,List.length_cons,List.length_nil,Nat.zero_add,Nat.add_sub_cancel,Array.getElem?_map,mS]at aX;obtain⟨o1,h1,rfl⟩:=hx;obtain⟨o2,h2,rfl⟩:=aX;rw[h1]at h2;injection h2 with h2;subst h2;exact h.ev o1) hs
     refine hc.mono ?_ ?_
     ·rintro v w' ⟨c,d,bx',ρ',g0,g1,g2,g3⟩;exact hK _ _ _ _ _ _ g0 g1 (g2.put cw g3)
     ·rintro v w' ⟨d,bx',ρ',g1,g2,g3⟩;exact hP _ _ _ _ _ _ _ g1 (g2.Q7 cw) g3
   ·exact hs.elim
  ·split at hs
   ·rename_i vT;obtain⟨_,bH,hs⟩:=hs;exact LZ h (by have:=hG.lo;omega) vT cw hs hK
   ·exact BZ (cl:=fun _=> .n) h cw hs (by intro d x;simp) hK
end Go.V
namespace Go.V
open Go.RowKit
variable {P:Program} {C:Calc} {σ σ₂:Env} {bx bx₂:ae}
theorem ca{α:Type}{x:Option α}{f g:α->Prop}(h:∀v,f v->g v)(hx:aM x f):aM x g:=by
 cases x with
 |none=>exact hx
 |some v=>exact h v hx
def sK{f:FuncId}{ds:List D}{K K':Cl->D->ae->Prop}(h:∀c d bx,K c d bx->K' c d bx)(hc:fD C f ds bx K):fD C f ds bx K':=by
 rcases hc with⟨d,h1,h2,h3⟩|⟨ds',d,h1,h2,h3,h4⟩|⟨ds',d,h1,h2,h3,h4⟩|⟨cI,Pan,h1,h2,h3,h4⟩
 ·exact .inl ⟨d,h1,h2,h _ _ _ h3⟩
 ·exact .inr (.inl ⟨ds',d,h1,h2,h3,h _ _ _ h4⟩)
 ·exact .inr (.inr (.inl ⟨ds',d,h1,h2,h3,h _ _ _ h4⟩))
 ·exact .inr (.inr (.inr ⟨cI,Pan,h1,h2,fun d bx' hp=>(h3 d bx' hp).imp (h _ _ _) (fun⟨r,r',g1,g2,g3⟩=>⟨r,r',g1,g2,h _ _ _ g3⟩),fun d bx' hp=>h _ _ _ (h4 d bx' hp)⟩))
def JE{l:Nat}{ds:List D}{K K':Cl->D->ae->Prop}(h:∀c d bx,K c d bx->K' c d bx)(hc:qw C l ds bx K):qw C l ds bx K':=by
 unfold qw at hc⊢;split at hc
 ·exact⟨hc.1,fun bx1=>⟨h _ _ _ (hc.2 bx1).1,h _ _ _ (hc.2 bx1).2⟩⟩
 ·exact hc.elim
def Co{d:D}{ds:List D}{K K':Cl->D->ae->Prop}(h:∀c d bx,K c d bx->K' c d bx)(hc:l9 C d ds bx K):l9 C d ds bx K':=by
 unfold l9 at hc⊢;split at hc
 ·exact sK h hc
 ·exact JE h hc
 ·exact sK h hc
 ·exact hc.elim
def OH{d:D}{f g:D->Prop}(h:∀d,f d->g d)(hx:Ei d f):Ei d g:=by cases d<;>first|exact h _ hx|exact hx
def L4{x:D}{K K':D->ae->Prop}(h:∀d bx,K d bx->K' d bx)(hs:xe bx x K):xe bx x K':=
 ca (fun _=>ca fun _ hh=>⟨hh.1,fun k v b hm=>h _ _ (hh.2.1 k v b hm),fun ha=>h _ _ (hh.2.2 ha)⟩) hs
def Fp{dst:Option Tmp}{op:Op}{K K':Cl->Env->ae->Prop}(h:∀c σ bx,K c σ bx->K' c σ bx)(hs:iB P C dst op σ bx K):iB P C dst op σ bx K':=by
 unfold iB at hs⊢;split at hs
 ·split at hs
  ·exact h _ _ _ hs
  ·exact hs.elim
 ·exact ca (fun _=>h _ _ _) hs
 ·split at hs
  ·exact ca (fun _=>h _ _ _) hs
  ·exact hs.elim
 ·exact L4 (fun _ _=>h _ _ _) hs
 ·exact ca (fun _=>h _ _ _) hs
 ·split at hs
  ·exact ca (fun _=>h _ _ _) hs
  ·exact ca (fun _=>h _ _ _) hs
  ·exact ca (fun _=>h _ _ _) hs
  ·exact hs.elim
 ·exact hs.elim
theorem MC{dst:Option Tmp}{op:Op}{K K':Cl->Env->ae->Prop}(h:∀c σ bx,K c σ bx->K' c σ bx)(hs:fE P C dst op σ bx K):fE P C dst op σ bx K':=by
 cases op with
 |buildSlice T n ps=>
  unfold fE at hs⊢;dsimp only at hs⊢;split at hs
  ·rename_i ho;rw[if_pos ho];split at hs
   ·exact ca (fun _=>h _ _ _) hs
   ·exact hs.elim
  ·rename_i ho;rw[if_neg ho];exact ca (fun _=>h _ _ _) hs
 |lookup T m k ok=>
  unfold fE at hs⊢;exact ca (fun _=>ca fun _=>h _ _ _) hs
 |call c=>
  obtain⟨callee,args,cA⟩:=c;cases callee with
  |invoke recv name=>
   have hs:o6 P C (ev σ recv) name (args.toList.map (ev σ)) bx fun c d bx'=>K c (put σ dst d) bx':=hs;show o6 P C (ev σ recv) name (args.toList.map (ev σ)) bx fun c d bx'=>K' c (put σ dst d) bx';unfold o6 at hs⊢;split at hs
   ·exact ca (fun _=>sK fun _ _ _=>h _ _ _) hs
   ·exact hs.elim
  |_=>
   unfold fE at hs⊢;dsimp only at hs⊢;split at hs
   ·rename_i hm;rw[if_pos hm];exact⟨hs.1,hs.2.1,Fp h hs.2.2⟩
   ·rename_i hm;rw[if_neg hm];exact ca (fun _=>h _ _ _) hs
 |_=>
  unfold fE at hs⊢;dsimp only at hs⊢;split at hs
  ·rename_i hm;rw[if_pos hm];exact⟨hs.1,hs.2.1,Fp h hs.2.2⟩
  ·rename_i hm;rw[if_neg hm];exact ca (fun _=>h _ _ _) hs
def tc{o:Oper}{K K':Cl->Env->ae->Prop}(h:∀c σ bx,K c σ bx->K' c σ bx)(hs:bq P C o σ bx K):bq P C o σ bx K':=by
 unfold bq at hs⊢;split at hs
 ·split at hs
  ·exact ca (fun _=>ca fun _=>h _ _ _) hs
  ·exact hs.elim
 ·split at hs
  ·exact ca (fun _=>ca fun _=>h _ _ _) hs
  ·exact hs.elim
 ·exact ca (fun _=>ca fun _=>h _ _ _) hs
 ·exact ca (fun _=>ca fun _=>h _ _ _) hs
 ·split at hs
  ·rename_i kM;rw[if_pos kM];exact⟨hs.1,ca (fun _ hh=>⟨h _ _ _ hh.1,h _ _ _ hh.2⟩) hs.2⟩
  ·rename_i kM;rw[if_neg kM];exact ca (fun _=>h _ _ _) hs
 ·exact Co (fun _ _ _=>h _ _ _) hs
 ·exact⟨hs.1,OH (fun _=>h _ _ _) hs.2⟩
 ·refine⟨hs.1,?_⟩;have hs:=hs.2;split at hs
  ·exact h _ _ _ hs
  ·exact hs.elim
 ·split at hs
  ·exact ca (fun _=>h _ _ _) hs
  ·exact hs.elim
 ·exact MC h hs
def nW{c:Cl}{x y x' y':Prop}(hx:x->x')(hy:y->y')(h:jt c x y):jt c x' y':=by cases c<;>first|exact hy h|exact hx h
theorem pL{full:List Oper}:∀ {l:List Oper} {acc:List Cl} {σ:Env} {bx:ae} {K K':List Cl->Env->ae->Prop},(∀acc σ bx,K acc σ bx->K' acc σ bx)->qV P C full l acc σ bx K->qV P C full l acc σ bx K'
 |[],_,_,_,_,_,h,hs=>h _ _ _ hs
 |o::rest,acc,σ,bx,K,K',h,hs=>by
  unfold qV at hs⊢;split at hs
  ·exact tc (fun _ _ _=>nW (h _ _ _) (pL h)) hs
  ·refine ca (fun g hg=>?_) hs;unfold gK at hg⊢;split at hg
   ·rename_i h1;rw[if_pos h1];exact tc (fun _ _ _=>nW (h _ _ _) (pL h)) hg
   ·rename_i h1;rw[if_neg h1];exact pL h hg
theorem rX{full:List Oper}{Pn MP:D->ae->Prop}{Q Q':Env->ae->Prop}(hp:∀d bx,Pn d bx->MP d bx)(hq:∀σ bx,Q σ bx->Q' σ bx):∀(t:ru) {σ:Env} {bx:ae},lq P C full Pn Q t σ bx->lq P C full MP Q' t σ bx
 | .fin,_,_,h=>hq _ _ h
 | .stop,_,_,_=>trivial
 | .aY i n,σ,bx,h=>by
   unfold lq pj at h⊢;split at h
   ·exact ca (fun _=>rX hp hq n) h
   ·exact h.elim
 | .load i s n,σ,bx,h=>by
   unfold lq pj An at h⊢;split at h
   ·split at h
    ·exact⟨h.1,ca (fun _=>rX hp hq n) h.2⟩
    ·exact h.elim
   ·exact h.elim
 | .both i je a r,σ,bx,h=>by
   unfold lq pj at h⊢;refine⟨?_,rX hp hq r h.2⟩;have h:=h.1;split at h
   ·exact tc (fun c _ _=>nW (by unfold Eh;cases c<;>first|exact hp _ _|exact id) (fun g=>⟨g.1,rX hp hq a g.2⟩)) h
   ·exact h.elim
def wQ{full:List Oper}{Pn MP:D->ae->Prop}{Q Q':Env->ae->Prop}(hp:∀d bx,Pn d bx->MP d bx)(hq:∀σ bx,Q σ bx->Q' σ bx)(h:wP P C full Pn Q σ bx):wP P C full MP Q' σ bx:=
 let ⟨t,h1,h2⟩:=h
 ⟨t,h1,rX hp hq t h2⟩
def gn(c:Cl)(bx' bx₂:ae):ae:=fun s=>if c.wr s then bx' s else bx₂ s
def rO(bx' bx₂:ae):gn .wa bx' bx₂=bx':=by funext s;simp[gn,Cl.wr]
def ub{t:Nat}{b:Bx}(bx bx₂:ae):gn (.w t) (aj bx t b) bx₂=aj bx₂ t b:=by
 funext s;by_cases h:s=t<;>simp[gn,Cl.wr,aj,h]
def iN{c:Cl}(h:∀s,c.wr s=false)(bx' bx₂:ae):gn c bx' bx₂=bx₂:=by funext s;simp[gn,h s]
theorem P6{x:Operand}(h:∀t,x= .tmp t->σ₂ t=σ t):ev σ₂ x=ev σ x:=by
 cases x with
 |tmp t=>exact h t rfl
 |_=>rfl
def Alike(σ σ₂:Env)(op:Op):Prop:=∀x∈op.operands.toList,ev σ₂ x=ev σ x
theorem qj{l:Option Operand}(h:∀x∈l.toList,ev σ₂ x=ev σ x):eY σ₂ l=eY σ l:=by
 cases l with
 |none=>rfl
 |some x=>simp only[eY,h x sI]
theorem xK{op:Op}(h:Alike σ σ₂ op)(hl:∀T a,op≠ .load T a):cT P σ₂ bx₂ op=cT P σ bx op:=by
 cases op with
 |move x=>simp only[cT,h x (by simp[Op.operands])]
 |assign x=>simp only[cT,h x (by simp[Op.operands])]
 |pick c x y=>simp only[cT,h c (by simp[Op.operands]),h x (by simp[Op.operands]),h y (by simp[Op.operands])]
 |binOp op t x y t'=>simp only[cT,h x (by simp[Op.operands]),h y (by simp[Op.operands])]
 |makeInterface t x=>simp only[cT,h x (by simp[Op.operands])]
 |typeAssert x t t' ok=>simp only[cT,h x (by simp[Op.operands])]
 |unOp op t x=>simp only[cT,h x (by simp[Op.operands])]
 |fieldAddr t x i=>simp only[cT,h x (by simp[Op.operands])]
 |field t x i=>simp only[cT,h x (by simp[Op.operands])]
 |indexAddr t x y=>simp only[cT,h x (by simp[Op.operands]),h y (by simp[Op.operands])]
 |index t x y=>simp only[cT,h x (by simp[Op.operands]),h y (by simp[Op.operands])]
 |load t x=>exact absurd rfl (hl t x)
 |extract x i=>simp only[cT,h x (by simp[Op.operands])]
 |slice t x lo hi mx=>
  cases mx with
  |none=>simp only[cT,h x (by simp[Op.operands]),qj (l:=lo) (fun y hy=>h y (by simp at hy;simp[Op.operands,hy])),qj (l:=hi) (fun y hy=>h y (by simp at hy;simp[Op.operands,hy]))]
  |some m=>simp only[cT,h x (by simp[Op.operands]),h m (by simp[Op.operands]),qj (l:=lo) (fun y hy=>h y (by simp at hy;simp[Op.operands,hy])),qj (l:=hi) (fun y hy=>h y (by simp at hy;simp[Op.operands,hy]))]
 |build t ps=>
  have:(ps.toList.map fun p=>(p.1,ev σ₂ p.2))=ps.toList.map fun p=>(p.1,ev σ p.2):=List.map_congr_left fun p hp=>by rw[h p.2 (by simp only[Op.operands,List.mem_map];exact⟨p,hp,rfl⟩)]
  simp only[cT,this]
 |buildSlice t n ps=>
  have:(ps.toList.map fun p=>(p.1,ev σ₂ p.2))=ps.toList.map fun p=>(p.1,ev σ p.2):=List.map_congr_left fun p hp=>by rw[h p.2 (by simp only[Op.operands,List.mem_map];exact⟨p,hp,rfl⟩)]
  simp only[cT,this]
 |nilCheck x=>simp only[cT,h x (by simp[Op.operands])]
 |makeFunc f first caps=>
  have:caps.toList.map (ev σ₂)=caps.toList.map (ev σ):=List.map_congr_left fun x hx=>h x (by simp[Op.operands];exact .inr (by simpa using hx));have aaU:first.toList.map (ev σ₂)=first.toList.map (ev σ):=List.map_congr_left fun x hx=>h x (by simp[Op.operands];exact .inl (by simpa using hx));simp only[cT,this,aaU]
 |convert s t x=>simp only[cT,h x (by simp[Op.operands])]
 |call c=>
  obtain⟨callee,args,cA⟩:=c;cases callee with
  |builtin b=>
   have:args.toList.map (ev σ₂)=args.toList.map (ev σ):=List.map_congr_left fun x hx=>h x (by simp[Op.operands,Call.operands];simpa using hx);simp only[cT,this]
  |_=>simp[cT]
 |_=>simp[cT]
theorem A2{ti:TI}{d:D}(h:∀s,(oe d).rd s=true->bx₂ s=bx s):iH ti bx₂ d=iH ti bx d:=by
 cases d with
 |loc t e i j=>simp only[iH,h t (by simp[oe,Cl.rd])]
 |_=>rfl
def zP{lo:Nat}{ti:TI}{a v:D}{bx':ae}(hs:gF lo ti bx a v=some bx'):(∀s,(lJ a).wr s=false->bx' s=bx s)/\
 ∀bx₂:ae,(∀s,(lJ a).rd s=true->bx₂ s=bx s)->gF lo ti bx₂ a v=some (gn (lJ a) bx' bx₂):=by
 unfold gF at hs;split at hs
 ·rename_i t e i j;split at hs
  ·rename_i hc;unfold wI at hs;split at hs
   ·rename_i hk;cases hi:(bx t).es[i]? with
    |none=>simp[hi]at hs
    |some d0=>
     simp only[hi,mS]at hs;obtain⟨d',ox,rfl⟩:=hs;refine⟨fun s hs=>?_,fun bx₂ h2=>?_⟩
     ·have:s≠t:=by simpa[lJ,Cl.wr]using hs
      simp[aj,this]
     ·have ht:=h2 t (by simp[lJ,Cl.rd]);simp only[gF,hc,and_self,if_true,wI,ht,hk,hi,ox,Option.map_some,lJ,ub]
   ·cases hs
  ·cases hs
 ·cases hs
theorem OD{lo:Nat}{ti:TI}{b:Bool}{a v:D}{bx':ae}(hs:wm (gF lo ti bx a v) b bx a v=some bx'):(∀s,(lJ a).wr s=false->bx' s=bx s)/\
 ∀bx₂:ae,(∀s,(lJ a).rd s=true->bx₂ s=bx s)->wm (gF lo ti bx₂ a v) b bx₂ a v=some (gn (lJ a) bx' bx₂):=by
 cases hq:gF lo ti bx a v with
 |some r=>
  rw[hq]at hs;injection hs with hs;subst hs;obtain⟨h1,h2⟩:=zP hq;exact⟨h1,fun bx₂ h=>by rw[h2 bx₂ h];rfl⟩
 |none=>
  rw[hq]at hs;simp only[wm]at hs;split at hs
  ·rename_i t e i j;split at hs
   ·rename_i hc;injection hs with hs;subst hs;refine⟨fun _ _=>rfl,fun bx₂ h=>?_⟩;have hm:gn (lJ (.loc t e i j)) bx bx₂=bx₂:=by
     funext s;unfold gn;split
     ·rename_i hw;exact(h s (by simpa[lJ,Cl.rd,Cl.wr]using hw)).symm
     ·rfl
    rw[hm];cases iM:gF lo ti bx₂ (.loc t e i j) v with
    |some r2=>
     obtain⟨h3,h4⟩:=zP iM;have:=h4 bx fun s hs=>(h s hs).symm;rw[this]at hq;cases hq
    |none=>simp[wm,hc]
   ·cases hs
  ·cases hs
structure Eff(P:Program)(C:Calc)(o:Oper)(σ:Env)(bx:ae)(c:Cl)(v:D)(bx':ae):Prop where
 np:∀x,c≠ .cX x
 same:∀s,c.wr s=false->bx' s=bx s
 SP:eU o.op=0->c= .n
 SQ:eU o.op≠2->∀s,c.wr s=false
 run:∀σ₂ bx₂,Alike σ σ₂ o.op->(∀s,c.rd s=true->bx₂ s=bx s)->∀K:Cl->Env->ae->Prop,K c (put σ₂ o.dst v) (gn c bx' bx₂)->bq P C o σ₂ bx₂ K
theorem QW{dst:Option Tmp}{op:Op}{K:Cl->Env->ae->Prop}(hn:kS op=false)(hs:iB P C dst op σ bx K):
 ∃v bx',K .wa (put σ dst v) bx'/\∀σ₂,Alike σ σ₂ op->∀K':Cl->Env->ae->Prop,K' .wa (put σ₂ dst v) bx'->iB P C dst op σ₂ bx K':=by
 cases op with
 |makeMap T r=>
  cases r with
  |some r=>exact hs.elim
  |none=>
   cases dst with
   |none=>exact hs.elim
   |some d=>exact⟨_,_,hs,fun σ₂ _ K' hK=>hK⟩
 |mapUpdate T m k v=>
  simp only[iB]at hs;cases hz:zV (an P) (an P T) bx (ev σ m) (ev σ k) (ev σ v)with
  |none=>rw[hz]at hs;exact hs.elim
  |some b'=>
   rw[hz]at hs;refine⟨_,_,hs,fun σ₂ dF K' hK=>?_⟩;simp only[iB,dF m (by simp[Op.operands]),dF k (by simp[Op.operands]),dF v (by simp[Op.operands]),hz];exact hK
 |range T x=>
  cases dst with
  |none=>exact hs.elim
  |some d=>
   simp only[iB]at hs;cases hz:BT (an P T) bx (ev σ x)with
   |none=>rw[hz]at hs;exact hs.elim
   |some es=>
    rw[hz]at hs;refine⟨_,_,hs,fun σ₂ dF K' hK=>?_⟩;simp only[iB,dF x (by simp[Op.operands]),hz];exact hK
 |next it s=>cases hn
 |entry it=>
  simp only[iB]at hs;cases hz:tN bx (ev σ it)with
  |none=>rw[hz]at hs;exact hs.elim
  |some v=>
   rw[hz]at hs;refine⟨_,_,hs,fun σ₂ dF K' hK=>?_⟩;simp only[iB,dF it (by simp[Op.operands]),hz];exact hK
 |call c=>
  obtain⟨callee,args,cA⟩:=c;cases callee with
  |builtin b=>
   cases b with
   |len=>cases hn
   |copy=>
    simp only[iB]at hs;cases hz:yx C.lo (an P) cA.toList bx (args.toList.map (ev σ))with
    |none=>rw[hz]at hs;exact hs.elim
    |some b'=>
     rw[hz]at hs;refine⟨_,_,hs,fun σ₂ dF K' hK=>?_⟩;have hx:args.toList.map (ev σ₂)=args.toList.map (ev σ):=List.map_congr_left fun x hx=>dF x (by simp[Op.operands,Call.operands];simpa using hx);simp only[iB,hx,hz];exact hK
   |delete=>
    simp only[iB]at hs;cases hz:Af (an P) cA.toList bx (args.toList.map (ev σ))with
    |none=>rw[hz]at hs;exact hs.elim
    |some b'=>
     rw[hz]at hs;refine⟨_,_,hs,fun σ₂ dF K' hK=>?_⟩;have hx:args.toList.map (ev σ₂)=args.toList.map (ev σ):=List.map_congr_left fun x hx=>dF x (by simp[Op.operands,Call.operands];simpa using hx);simp only[iB,hx,hz];exact hK
   |_=>exact hs.elim
  |_=>exact hs.elim
 |_=>exact hs.elim
theorem Ky{op:Op}(hm:o8 P op=true)(hn:kS op=false):eU op=2:=by
 cases op with
 |call c=>
  obtain⟨callee,args,cA⟩:=c;cases callee with
  |builtin b=>cases b<;>first|rfl|(cases hn;done)|(cases hm;done)
  |_=>cases hm
 |next=>cases hn
 |_=>first|rfl|(cases hm;done)
def Nc(hT:∀f b ds bx Q Qp,¬C.o.ux f b ds bx Q Qp){f:FuncId}{ds:List D}{K:Cl->D->ae->Prop}(hs:fD C f ds bx K):
 ∃c d bx',K c d bx'/\(∀x,c≠ .cX x)/\(∀s,c.wr s=false->bx' s=bx s)/\∀bx₂:ae,(∀s,c.rd s=true->bx₂ s=bx s)->∀K':Cl->D->ae->Prop,K' c d (gn c bx' bx₂)->fD C f ds bx₂ K':=by
 rcases hs with⟨d,hp,jP,hK⟩|⟨ds',d,ho,jP,hb,hK⟩|⟨ds',d,bH,ho,jP,hK⟩|⟨Q,_,_,jP,_⟩
 ·refine⟨_,_,_,hK,(by intro x;simp),fun _ _=>rfl,fun bx₂ gL K' nh=>?_⟩;rw[iN (fun _=>rfl)]at nh;exact .inl ⟨d,hp,jP,nh⟩
 ·refine⟨_,_,_,hK,(by intro x;simp),fun _ _=>rfl,fun bx₂ gL K' nh=>?_⟩;have eo:bx₂=bx:=funext fun s=>gL s (by simp[Cl.rd]);rw[iN (fun _=>rfl)]at nh;rw[eo]at nh⊢;exact .inr (.inl ⟨ds',d,ho,jP,hb,nh⟩)
 ·refine⟨_,_,_,hK,(by intro x;simp),fun s hs=>by simp[Cl.wr]at hs,fun bx₂ gL K' nh=>?_⟩;have eo:bx₂=bx:=funext fun s=>gL s (by simp[Cl.rd]);rw[rO]at nh;rw[eo];exact .inr (.inr (.inl ⟨ds',d,bH,ho,jP,nh⟩))
 ·exact absurd jP (hT _ _ _ _ _ _)
def zO(hT:∀f b ds bx Q Qp,¬C.o.ux f b ds bx Q Qp)(lB:C.yl=none)(rM:C.pn=false)(nj:C.df=false){o:Oper}{K:Cl->Env->ae->Prop}(hs:bq P C o σ bx K):∃c v bx',K c (put σ o.dst v) bx'/\Eff P C o σ bx c v bx':=by
 obtain⟨dst,op,ty,pos,af,g⟩:=o;unfold bq at hs;dsimp only at hs;split at hs
 ·rename_i T;split at hs
  ·rename_i d;cases hz:yb (jb (an P T)) (sn (an P T) (zeroV P T))with
   |none=>rw[hz]at hs;exact hs.elim
   |some z=>
    rw[hz]at hs;refine⟨_,_,_,hs,⟨(by intro x;simp),fun s hs=>?_,by simp[eU],by simp[eU],fun σ₂ bx₂ dF gL K hK=>?_⟩⟩
    ·have:s≠C.base+d:=by simpa[Cl.wr]using hs
     simp[aj,this]
    ·have hd:=gL (C.base+d) (by simp[Cl.rd]);rw[ub]at hK;simp only[bq,hz,aM,hd];exact hK
  ·exact hs.elim
 ·rename_i T x;split at hs
  ·rename_i d;cases hz:yo (an P T) (ev σ x)with
   |none=>rw[hz]at hs;exact hs.elim
   |some z=>
    rw[hz]at hs;refine⟨_,_,_,hs,⟨(by intro x;simp),fun s hs=>?_,by simp[eU],by simp[eU],fun σ₂ bx₂ dF gL K hK=>?_⟩⟩
    ·have:s≠C.base+d:=by simpa[Cl.wr]using hs
     simp[aj,this]
    ·have hd:=gL (C.base+d) (by simp[Cl.rd]);have hx:=dF x (by simp[Op.operands]);rw[ub]at hK;simp only[bq,hx,hz,aM,hd];exact hK
  ·exact hs.elim
 ·rename_i T x y;cases hz:wm (gF C.lo (an P T) bx (ev σ x) (ev σ y)) (sn (an P T) (zeroV P T)) bx (ev σ x) (ev σ y)with
  |none=>rw[hz]at hs;exact hs.elim
  |some bx'=>
   rw[hz]at hs;obtain⟨h1,h2⟩:=OD hz;refine⟨_,_,_,hs,⟨IQ _,h1,by simp[eU],by simp[eU],fun σ₂ bx₂ dF gL K hK=>?_⟩⟩;have hx:=dF x (by simp[Op.operands]);have hy:=dF y (by simp[Op.operands]);simp only[bq,hx,hy,h2 bx₂ gL,aM];exact hK
 ·rename_i T x;cases hz:iH (an P T) bx (ev σ x)with
  |none=>rw[hz]at hs;exact hs.elim
  |some d=>
   rw[hz]at hs;have hw:∀s,(oe (ev σ x)).wr s=false:=by intro s;cases ev σ x<;>rfl
   refine⟨_,_,_,hs,⟨BX _,fun s _=>rfl,by simp[eU],fun _=>hw,fun σ₂ bx₂ dF gL K hK=>?_⟩⟩;have hx:=dF x (by simp[Op.operands]);rw[iN hw]at hK;simp only[bq,hx,A2 gL,hz,aM];exact hK
 ·rename_i args cA;by_cases kM:FV C.tab dst=true
  ·rw[if_pos kM]at hs;rw[rM]at hs;cases hs.1
  rw[if_neg kM]at hs;cases hz:FW C.lo (an P) cA.toList (ld C.base dst) bx (args.toList.map (ev σ))with
  |none=>rw[hz]at hs;exact hs.elim
  |some r=>
   rw[hz]at hs;refine⟨_,_,_,hs,⟨(by intro x;simp),fun s hs=>by simp[Cl.wr]at hs,by simp[eU],by simp[eU],fun σ₂ bx₂ dF gL K hK=>?_⟩⟩;have hb:bx₂=bx:=funext fun s=>gL s (by simp[Cl.rd]);have hx:args.toList.map (ev σ₂)=args.toList.map (ev σ):=List.map_congr_left fun x hx=>dF x (by simp[Op.operands,Call.operands];simpa using hx);rw[rO]at hK;simp only[bq,hx,hb,if_neg kM,hz,aM];exact hK
 ·rename_i fo args cA;cases hf:ev σ fo with
  |fn f caps=>
   cases f with
   |func f=>
    rw[hf]at hs;have fin:∀σ₂ bx₂,Alike σ σ₂ (.call {callee:=.value fo,args,argTypes:=cA})->∀K:Cl->Env->ae->Prop,fD C f (args.toList.map (ev σ)++caps) bx₂ (fun c d bx'=>K c (put σ₂ dst d) bx')->bq P C ⟨dst,.call {callee:=.value fo,args,argTypes:=cA},ty,pos,af,g⟩ σ₂ bx₂ K:=by
     intro σ₂ bx₂ dF K hK;have hx:args.toList.map (ev σ₂)=args.toList.map (ev σ):=List.map_congr_left fun x hx=>dF x (by simp[Op.operands,Call.operands];exact .inr (by simpa using hx));have kL:=dF fo (by simp[Op.operands,Call.operands]);simp only[bq,hx,kL,hf,l9];exact hK
    simp only[l9]at hs;rcases hs with⟨d,hp,jP,hK⟩|⟨ds',d,ho,jP,hb,hK⟩|⟨ds',d,bH,ho,jP,hK⟩|⟨Q,_,_,jP,_⟩
    ·refine⟨_,_,_,hK,⟨(by intro x;simp),fun _ _=>rfl,by simp[eU],by simp[eU],fun σ₂ bx₂ dF gL K hK=>?_⟩⟩;rw[iN (fun _=>rfl)]at hK;exact fin σ₂ bx₂ dF K (.inl ⟨d,hp,jP,hK⟩)
    ·refine⟨_,_,_,hK,⟨(by intro x;simp),fun _ _=>rfl,by simp[eU],by simp[eU],fun σ₂ bx₂ dF gL K' nh=>?_⟩⟩;have eo:bx₂=bx:=funext fun s=>gL s (by simp[Cl.rd]);rw[iN (fun _=>rfl)]at nh;rw[eo]at nh⊢;exact fin σ₂ bx dF K' (.inr (.inl ⟨ds',d,ho,jP,hb,nh⟩))
    ·refine⟨_,_,_,hK,⟨(by intro x;simp),fun s hs=>by simp[Cl.wr]at hs,by simp[eU],by simp[eU],fun σ₂ bx₂ dF gL K' nh=>?_⟩⟩;have eo:bx₂=bx:=funext fun s=>gL s (by simp[Cl.rd]);rw[rO]at nh;rw[eo];exact fin σ₂ bx dF K' (.inr (.inr (.inl ⟨ds',d,bH,ho,jP,nh⟩)))
    ·exact absurd jP (hT _ _ _ _ _ _)
   |yield l=>
    rw[hf]at hs;cases caps with
    |nil=>simp only[l9,qw,lB]at hs
    |cons _ _=>exact hs.elim
   |_=>rw[hf]at hs;exact hs.elim
  |iC f caps=>
   rw[hf]at hs;have fin:∀σ₂ bx₂,Alike σ σ₂ (.call {callee:=.value fo,args,argTypes:=cA})->∀K:Cl->Env->ae->Prop,fD C f (caps++args.toList.map (ev σ)) bx₂ (fun c d bx'=>K c (put σ₂ dst d) bx')->bq P C ⟨dst,.call {callee:=.value fo,args,argTypes:=cA},ty,pos,af,g⟩ σ₂ bx₂ K:=by
    intro σ₂ bx₂ dF K hK;have hx:args.toList.map (ev σ₂)=args.toList.map (ev σ):=List.map_congr_left fun x hx=>dF x (by simp[Op.operands,Call.operands];exact .inr (by simpa using hx));have kL:=dF fo (by simp[Op.operands,Call.operands]);simp only[bq,hx,kL,hf,l9];exact hK
   simp only[l9]at hs;rcases hs with⟨d,hp,jP,hK⟩|⟨ds',d,ho,jP,hb,hK⟩|⟨ds',d,bH,ho,jP,hK⟩|⟨Q,_,_,jP,_⟩
   ·refine⟨_,_,_,hK,⟨(by intro x;simp),fun _ _=>rfl,by simp[eU],by simp[eU],fun σ₂ bx₂ dF gL K hK=>?_⟩⟩;rw[iN (fun _=>rfl)]at hK;exact fin σ₂ bx₂ dF K (.inl ⟨d,hp,jP,hK⟩)
   ·refine⟨_,_,_,hK,⟨(by intro x;simp),fun _ _=>rfl,by simp[eU],by simp[eU],fun σ₂ bx₂ dF gL K' nh=>?_⟩⟩;have eo:bx₂=bx:=funext fun s=>gL s (by simp[Cl.rd]);rw[iN (fun _=>rfl)]at nh;rw[eo]at nh⊢;exact fin σ₂ bx dF K' (.inr (.inl ⟨ds',d,ho,jP,hb,nh⟩))
   ·refine⟨_,_,_,hK,⟨(by intro x;simp),fun s hs=>by simp[Cl.wr]at hs,by simp[eU],by simp[eU],fun σ₂ bx₂ dF gL K' nh=>?_⟩⟩;have eo:bx₂=bx:=funext fun s=>gL s (by simp[Cl.rd]);rw[rO]at nh;rw[eo];exact fin σ₂ bx dF K' (.inr (.inr (.inl ⟨ds',d,bH,ho,jP,nh⟩)))
   ·exact absurd jP (hT _ _ _ _ _ _)
  |_=>rw[hf]at hs;exact hs.elim
 ·rw[rM]at hs;exact absurd hs.1 (by decide)
 ·rw[nj]at hs;exact absurd hs.1 (by decide)
 ·rename_i T l c;split at hs
  ·rename_i d;cases hz:u6 (an P) (an P T) (ev σ l) (ev σ c)with
   |none=>rw[hz]at hs;exact hs.elim
   |some z=>
    rw[hz]at hs;refine⟨_,_,_,hs,⟨(by intro x;simp),fun s hs=>?_,by simp[eU],by simp[eU],fun σ₂ bx₂ dF gL K hK=>?_⟩⟩
    ·have:s≠C.base+d:=by simpa[Cl.wr]using hs
     simp[aj,this]
    ·have hd:=gL (C.base+d) (by simp[Cl.rd]);have hx:=dF l (by simp[Op.operands]);have hy:=dF c (by simp[Op.operands]);rw[ub]at hK;simp only[bq,hx,hy,hz,aM,hd];exact hK
  ·exact hs.elim
 ·rename_i op' h1 h2 h3 h4 h5 h6 h7 h8 h9;have bQ:∀σ₂ bx₂ K,bq P C ⟨dst,op,ty,pos,af,g⟩ σ₂ bx₂ K=fE P C dst op σ₂ bx₂ K:=by
   intro σ₂ bx₂ K;unfold bq;dsimp only;split<;>first|rfl|(exact absurd rfl (h1 _))|(exact absurd rfl (h2 _ _))|(exact absurd rfl (h3 _ _ _))|(exact absurd rfl (h4 _ _))|(exact absurd rfl (h5 _ _))|(exact absurd rfl (h6 _ _ _))|(exact absurd rfl (h7 _))|(exact absurd rfl (h8 _ _ _))|(exact absurd rfl (h9 _ _ _))
  have mM:∀d,cT P σ bx op=some d->(∀σ₂ bx₂ (K:Cl->Env->ae->Prop),cT P σ₂ bx₂ op=some d->K .n (put σ₂ dst d) bx₂->fE P C dst op σ₂ bx₂ K)->K .n (put σ dst d) bx->∃c v bx',K c (put σ dst v) bx'/\Eff P C ⟨dst,op,ty,pos,af,g⟩ σ bx c v bx':=by
   intro d hz hE hq;by_cases hb:∃T n ps,op= .buildSlice T n ps
   ·obtain⟨T,n,ps,rfl⟩:=hb;refine⟨_,_,_,hq,⟨(by intro x;simp),fun _ _=>rfl,fun _=>rfl,fun _ _=>rfl,fun σ₂ bx₂ dF gL K hK=>?_⟩⟩;have hv:=xK (P:=P) (bx:=bx) (bx₂:=bx₂) dF (fun T a=>h4 T a);rw[hz]at hv;rw[iN (fun _=>rfl)]at hK;rw[bQ];exact hE _ _ _ hv hK
   ·refine⟨_,_,_,hq,⟨(by intro x;simp),fun _ _=>rfl,fun _=>rfl,fun _ _=>rfl,fun σ₂ bx₂ dF gL K hK=>?_⟩⟩;have hv:=xK (P:=P) (bx:=bx) (bx₂:=bx₂) dF (fun T a=>h4 T a);rw[hz]at hv;rw[iN (fun _=>rfl)]at hK;rw[bQ];exact hE _ _ _ hv hK
  clear h1 h2 h3 h4 h5 h6 h7 h8 h9;unfold fE at hs;split at hs
  ·rename_i T m ps;have CW:∀σ₂,Alike σ σ₂ (.buildSlice T m ps)->(ps.toList.map fun p=>(p.1,ev σ₂ p.2))=ps.toList.map fun p=>(p.1,ev σ p.2):=fun σ₂ dF=>List.map_congr_left fun p hp=>by rw[dF p.2 (by simp only[Op.operands,List.mem_map];exact⟨p,hp,rfl⟩)]
   split at hs
   ·rename_i ho;split at hs
    ·rename_i d;cases hz:uZ (an P) (an P T) m (ps.toList.map fun p=>(p.1,ev σ p.2))with
     |none=>rw[hz]at hs;exact hs.elim
     |some z=>
      rw[hz]at hs;refine⟨_,_,_,hs,⟨(by intro x;simp),fun s hs=>?_,by simp[eU],by simp[eU],fun σ₂ bx₂ dF gL K hK=>?_⟩⟩
      ·have:s≠C.base+d:=by simpa[Cl.wr]using hs
       simp[aj,this]
      ·have hd:=gL (C.base+d) (by simp[Cl.rd]);rw[ub]at hK;rw[bQ];unfold fE;simp only[ho,if_true,CW σ₂ dF,hz,aM,hd];exact hK
    ·exact hs.elim
   ·rename_i ho;cases hz:cT P σ bx (.buildSlice T m ps)with
    |none=>rw[hz]at hs;exact hs.elim
    |some d=>
     rw[hz]at hs;refine mM d hz (fun σ₂ bx₂ K hv hK=>?_) hs;unfold fE;simp only[ho,if_false,hv,aM];exact hK
  ·rename_i T m k ok;cases hz:sV P (an P) (an P T) bx (ev σ m) (ev σ k) ok with
   |none=>rw[hz]at hs;exact hs.elim
   |some d=>
    rw[hz]at hs;have hw:∀s,(xH (ev σ m)).wr s=false:=by intro s;cases ev σ m<;>rfl
    refine⟨_,_,_,hs,⟨IP _,fun s _=>rfl,by simp[eU],fun _=>hw,fun σ₂ bx₂ dF gL K hK=>?_⟩⟩;have hx:=dF m (by simp[Op.operands]);have hy:=dF k (by simp[Op.operands]);rw[iN hw]at hK;have hl:iZ bx₂ (ev σ m)=iZ bx (ev σ m):=by
     cases hm:ev σ m with
     |omap t e=>
      have:=gL t (by simp[hm,xH,Cl.rd]);simp only[iZ,this]
     |_=>rfl
    have kO:sV P (an P) (an P T) bx₂ (ev σ m) (ev σ k) ok=some d:=by
     rw[<-hz];unfold sV;rw[hl]
    rw[bQ];unfold fE;simp only[hx,hy,kO,aM];exact hK
  ·rename_i recv name args cA;unfold o6 at hs;split at hs
   ·rename_i t d0 AW;cases hm:sW P t name with
    |none=>rw[hm]at hs;exact hs.elim
    |some f=>
     rw[hm]at hs;obtain⟨c,d,bx',hK,WJ,fP,mU⟩:=Nc hT (show fD C f (d0::args.toList.map (ev σ)) bx fun c d bx'=>K c (put σ dst d) bx' from hs);refine⟨_,_,_,hK,⟨WJ,fP,by simp[eU],by simp[eU],fun σ₂ bx₂ dF gL K hK=>?_⟩⟩;have hx:args.toList.map (ev σ₂)=args.toList.map (ev σ):=List.map_congr_left fun x hx=>dF x (by simp[Op.operands,Call.operands];exact .inr (by simpa using hx));have kL:=dF recv (by simp[Op.operands,Call.operands]);rw[bQ];unfold fE;simp only[hx,kL,AW,o6,hm,aM];exact mU bx₂ gL (fun c d bx'=>K c (put σ₂ dst d) bx') hK
   ·exact hs.elim
  ·rename_i op' hb qC E2;split at hs
   ·rename_i vT;obtain⟨hgate,bH,hs⟩:=hs;have WK:kS op=false:=by
     cases h:kS op with
     |false=>rfl
     |true=>have:=hgate h;rw[rM]at this;cases this
    obtain⟨v,bx',hK,mU⟩:=QW WK hs;refine⟨_,_,_,hK,⟨(by intro x;simp),(fun s hs=>by simp[Cl.wr]at hs),(fun h0=>by rw[Ky vT WK]at h0;cases h0),fun h2=>absurd (Ky vT WK) h2,fun σ₂ bx₂ dF gL K hK=>?_⟩⟩;have eo:bx₂=bx:=funext fun s=>gL s (by simp[Cl.rd]);rw[rO]at hK;rw[eo,bQ];have:fE P C dst op σ₂ bx K=((kS op=true->C.pn=true)/\C.lo=0/\iB P C dst op σ₂ bx K):=by
     unfold fE;split
     ·exact absurd rfl (hb _ _ _)
     ·exact absurd rfl (qC _ _ _ _)
     ·exact absurd rfl (E2 _ _ _ _)
     ·exact if_pos vT
    rw[this];exact⟨hgate,bH,mU σ₂ dF K hK⟩
   ·rename_i vT;cases hz:cT P σ bx op with
    |none=>rw[hz]at hs;exact hs.elim
    |some d=>
     rw[hz]at hs;refine mM d hz (fun σ₂ bx₂ K hv hK=>?_) hs;have:fE P C dst op σ₂ bx₂ K=aM (cT P σ₂ bx₂ op) fun v=>K .n (put σ₂ dst v) bx₂:=by
      unfold fE;split
      ·exact absurd rfl (hb _ _ _)
      ·exact absurd rfl (qC _ _ _ _)
      ·exact absurd rfl (E2 _ _ _ _)
      ·exact if_neg vT
     rw[this,hv];exact hK
def DI(lB:C.yl=none)(rM:C.pn=false)(nj:C.df=false){o:Oper}{K:Cl->Env->ae->Prop}(hs:bq P C o σ bx K):
 ∃R:Cl->D->ae->Prop,(∀c v bx',R c v bx'->K c (put σ o.dst v) bx')/\∀σ₂,Alike σ σ₂ o.op->∀K2:Cl->Env->ae->Prop,(∀c v bx',R c v bx'->K2 c (put σ₂ o.dst v) bx')->bq P C o σ₂ bx K2:=by
 by_cases hc:∃fo args cA,o.op= .call {callee:=.value fo,args,argTypes:=cA}
 ·obtain⟨fo,args,cA,pF⟩:=hc;obtain⟨dst,op,ty,pos,af,g⟩:=o;dsimp only at pF;subst pF;refine⟨fun c v bx'=>K c (put σ dst v) bx',fun _ _ _ h=>h,fun σ₂ dF K2 hK=>?_⟩;have hx:args.toList.map (ev σ₂)=args.toList.map (ev σ):=List.map_congr_left fun x hx=>dF x (by simp[Op.operands,Call.operands];exact .inr (by simpa using hx));have kL:=dF fo (by simp[Op.operands,Call.operands]);have eb:l9 C (ev σ fo) (args.toList.map (ev σ)) bx fun c d bx'=>K c (put σ dst d) bx':=hs;show l9 C (ev σ₂ fo) (args.toList.map (ev σ₂)) bx fun c d bx'=>K2 c (put σ₂ dst d) bx';rw[hx,kL];exact Co (fun c d bx' h=>hK _ _ _ h) eb
 ·by_cases hi:∃recv name args cA,o.op= .call {callee:=.invoke recv name,args,argTypes:=cA}
  ·obtain⟨recv,name,args,cA,pF⟩:=hi;obtain⟨dst,op,ty,pos,af,g⟩:=o;dsimp only at pF;subst pF;refine⟨fun c v bx'=>K c (put σ dst v) bx',fun _ _ _ h=>h,fun σ₂ dF K2 hK=>?_⟩;have hx:args.toList.map (ev σ₂)=args.toList.map (ev σ):=List.map_congr_left fun x hx=>dF x (by simp[Op.operands,Call.operands];exact .inr (by simpa using hx));have kL:=dF recv (by simp[Op.operands,Call.operands]);have eb:o6 P C (ev σ recv) name (args.toList.map (ev σ)) bx fun c d bx'=>K c (put σ dst d) bx':=hs;show o6 P C (ev σ₂ recv) name (args.toList.map (ev σ₂)) bx fun c d bx'=>K2 c (put σ₂ dst d) bx';rw[hx,kL];unfold o6 at eb⊢;split at eb
   ·exact ca (fun _=>sK fun c d bx' h=>hK _ _ _ h) eb
   ·exact eb.elim
  have hd:∀σ K,bq P C o σ bx K=bq P C.AJ o σ bx K:=by
   obtain⟨oo,tab,base,bk,lo,yl,pn,df⟩:=C;dsimp only at lB rM nj;subst lB;subst rM;subst nj;obtain⟨dst,op,ty,pos,af,g⟩:=o;intro σ K;cases op with
   |call c=>
    obtain⟨callee,args,cA⟩:=c;cases callee with
    |builtin b=>cases b<;>rfl
    |value fo=>exact absurd ⟨_,_,_,rfl⟩ hc
    |invoke recv name=>exact absurd ⟨_,_,_,_,rfl⟩ hi
   |defer c=>
    obtain⟨callee,args,cA⟩:=c;cases callee<;>rfl
   |_=>rfl
  rw[hd]at hs;obtain⟨c,v,bx',hK,he⟩:=zO (C:=C.AJ) (fun _ _ _ _ _ _ h=>h) rfl rfl rfl hs;refine⟨fun c' v' bK=>c'=c/\v'=v/\bK=bx',by rintro _ _ _ ⟨rfl,rfl,rfl⟩;exact hK,fun σ₂ dF K2 R9=>?_⟩;rw[hd];refine he.run σ₂ bx dF (fun _ _=>rfl) K2 ?_;have hm:gn c bx' bx=bx':=by
   funext s;cases h:c.wr s with
   |true=>simp[gn,h]
   |false=>simp[gn,h,he.same s h]
  rw[hm];exact R9 _ _ _ ⟨rfl,rfl,rfl⟩
end Go.V
