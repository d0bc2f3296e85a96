/- Lemmas on plain data and programs: part VM. -/
import Derived.Test.YtkknfajchefgaaaGreatDoorVB
import Derived.MapKept
import Derived.Maps.RangeRun
set_option linter.all false
set_option maxHeartbeats 8000000
namespace Go.V
open Go.RowKit
variable {P:Program} {X:Ctx} {ρ:bX} {σ:Env} {bx:ab} {a:Act} {w:World}
variable {dst:Option Tmp} {ty:TypeId} {pos:String} {af:Array Edge} {g:Option (Nat×Bool)}
theorem aw.afQ{o:Obj}{es:List D}(h:aw X ρ σ bx a w)(bC:X.lo=0)(t sz:Nat)(T:TypeId)(ho:pW ρ o es):
 ∃ρ',aw X ρ' σ (ah bx t ⟨(bx t).ep+1,3,sz,T,es⟩) a (w.alloc o)/\ρ' t ((bx t).ep+1)=some ⟨w.heap.size,0,0,0⟩:=by
 have hx:=h.D0 (o:=o) ho.oQ.1;have hρ:∀s e q,ρ s e=some q->(if s=t/\e=(bx t).ep+1 then some (Place.mk w.heap.size 0 0 0)else ρ s e)=some q:=by
  intro s e q hq;rw[aaw]
  ·exact hq
  ·rintro⟨rfl,rfl⟩;have:=h.oD _ _ _ hq;exact awO
 have bh:∀s,s≠t->ah bx t ⟨(bx t).ep+1,3,sz,T,es⟩ s=bx s:=fun s hs=>by simp[ah,hs]
 have heq:ah bx t ⟨(bx t).ep+1,3,sz,T,es⟩ t=⟨(bx t).ep+1,3,sz,T,es⟩:=awx
 have live:∀s,(lv (ah bx t ⟨(bx t).ep+1,3,sz,T,es⟩ s).k)->s≠t:=by
  intro s hk e;subst e;rw[heq]at hk;exact hk.2 rfl
 have hS:∀b,ay X ⟨ρ.at_,fun k=>if k=w.heap.size then some o else ρ.hold k⟩ bx (w.alloc o) b->ay X ⟨fun s e=>if s=t/\e=(bx t).ep+1 then some (Place.mk w.heap.size 0 0 0)else ρ s e,fun k=>if k=w.heap.size then some o else ρ.hold k⟩ (ah bx t ⟨(bx t).ep+1,3,sz,T,es⟩) (w.alloc o) b:=by
  intro b hb;refine⟨hb.1,hb.2.1,fun s hs q hq=>?_⟩;have bI:=live s av0;rw[bh s bI]at hs hq;simp only[bI,aga,aa_]at hq;exact hb.2.2 s hs q hq
 refine⟨⟨fun s e=>if s=t/\e=(bx t).ep+1 then some (Place.mk w.heap.size 0 0 0)else ρ s e,fun k=>if k=w.heap.size then some o else ρ.hold k⟩,⟨hx.fr,hx.s0,hx.nb,hx.mb,hx.ec,hx.size,hx.marks.mono (fun _ _=>rfl) hS hρ (fun _ h=>h),hx.qA,hx.sP,fun s=>(hx.tmps s).mono (fun _ _=>rfl) hS hρ,hx.fN.mono (fun _ _=>rfl) hS hρ,fun s hk=>?_,fun s s' p p' hk dZ hn hp bu=>?_,fun s e p hp=>?_,fun s e p hp=>hρ s e p (h.r0 s e p hp),hx.hold,hx.gB,h.yc,h.y0 bC _ _,h.y0,h.lU,⟨fun s hs=>?_,fun s s' p p' hk dZ hn hp bu=>?_⟩⟩,awP⟩
 ·have bI:=live s hk;rw[bh s bI]at hk⊢;obtain⟨p,hp,h2,h3,h4,h5⟩:=hx.box s hk;exact⟨p,hρ _ _ _ hp,h2,h3,h4,h5.mono rfl (fun _ _=>rfl) hS hρ⟩
 ·have h1:=live s avV;have h2:=live s' dZ;rw[bh s h1]at hk hp;rw[bh s' h2]at dZ bu;simp only[h1,aga,aa_]at hp;simp only[h2,aga,aa_]at bu;exact h.inj s s' p p' hk dZ hn hp bu
 ·by_cases bI:s=t
  ·subst bI;rw[heq];dsimp only at hp⊢;split at hp
   ·exact awN
   ·have:=h.oD _ _ _ hp;exact awO
  ·rw[bh s bI];simp only[bI,aga,aa_]at hp;exact h.oD _ _ _ hp
 ·by_cases bI:s=t
  ·subst bI;rw[heq];refine⟨⟨w.heap.size,0,0,0⟩,o,awP,awP,.inr h.fr.size,ho.mono hρ⟩
  ·rw[bh s bI]at hs⊢;obtain⟨p,o1,g1,g2,g3,g4⟩:=hx.maps.has s hs;exact⟨p,o1,hρ _ _ _ g1,g2,g3,g4.mono hρ⟩
 ·have x_:∀s p,s≠t->(ah bx t ⟨(bx t).ep+1,3,sz,T,es⟩ s).k=3->(if s=t/\(ah bx t ⟨(bx t).ep+1,3,sz,T,es⟩ s).ep=(bx t).ep+1 then some (Place.mk w.heap.size 0 0 0)else ρ s (ah bx t ⟨(bx t).ep+1,3,sz,T,es⟩ s).ep)=some p->(bx s).k=3/\ρ s (bx s).ep=some p/\p.b<w.heap.size:=by
   intro s p bI hk hp;rw[bh s bI]at hk hp;simp only[bI,aga,aa_]at hp;obtain⟨q,o1,g1,g2,_⟩:=h.maps.has s hk;rw[hp]at g1;injection g1 with g1;subst g1;exact⟨hk,hp,(aaW.1 (h.hold _ _ g2).1).1⟩
  have new:∀p,(if t=t/\(ah bx t ⟨(bx t).ep+1,3,sz,T,es⟩ t).ep=(bx t).ep+1 then some (Place.mk w.heap.size 0 0 0)else ρ t (ah bx t ⟨(bx t).ep+1,3,sz,T,es⟩ t).ep)=some p->p.b=w.heap.size:=awN
  by_cases h1:s=t
  ·exact awN
  ·obtain⟨a1,a2,a3⟩:=x_ s p h1 hk hp;by_cases h2:s'=t
   ·exact awN
   ·obtain⟨b1,b2,b3⟩:=x_ s' p' h2 dZ bu;exact h.maps.inj s s' p p' a1 b1 hn a2 b2
theorem aw.ff{t:Nat}{p:Place}{o o':Obj}{es':List D}(h:aw X ρ σ bx a w)(bC:X.lo=0)(hk:(bx t).k=3)(hp:ρ t (bx t).ep=some p)(hb:ρ.hold p.b=some o)(ho:pW ρ o' es')
 {w':World} (hw:Fr (fun k=>k=p.b) w w') (eL:w'.heap[p.b]? =some o'):
 aw X ⟨ρ.at_,fun k=>if k=p.b then some o' else ρ.hold k⟩ σ (V.ff bx t es') a w':=by
 obtain⟨q,o1,q1,q2,hE,q4⟩:=h.maps.has t hk;rw[hp]at q1;injection q1 with q1;subst q1;rw[hb]at q2;injection q2 with q2;subst q2;have h0:X.r0.hold p.b=none\/X.E p.b:=by
  rcases hE with hE|hE
  ·exact awN
  ·left;cases hr:X.r0.hold p.b with
   |none=>rfl
   |some o2=>have:=h.lU _ _ hr;exact awO
 obtain⟨g1,g2⟩:=h.hold p.b o hb;have fS:∀k,oa w w' k:=by
  intro k o1 gW hc;refine(hw.block k (aaW.1 gW).1 (fun e=>?_)).trans gW
  exact awN
 have oI:∀s,(V.ff bx t es' s).k=(bx s).k/\(V.ff bx t es' s).ep=(bx s).ep:=fun s=>by
  unfold V.ff
  exact awg
 have Kf:∀s,s≠t->V.ff bx t es' s=bx s:=fun s hs=>by simp[V.ff,ah,hs]
 have SR:∀s,lv (bx s).k->s≠t:=fun s hs e=>by subst e;rw[hk]at hs;exact hs.2 rfl
 have hS:∀k,ay X ρ bx w k->ay X ⟨ρ.at_,fun k=>if k=p.b then some o' else ρ.hold k⟩ (V.ff bx t es') w' k:=fun k hk=>⟨aeD hk.1 hw.size,hk.2.1,fun s hs q hq=>by
  rw[(oI s).1]at hs;rw[(oI s).2]at hq;exact hk.2.2 s hs q hq⟩
 refine⟨h.fr.step hw (fun n hn hm=>?_),h.s0,h.nb,h.mb,h.ec,h.size,h.marks.fh (fun k _=>fS k) hS (fun _ _ _ h=>h) (fun r _ hr=>?_),h.qA,h.sP,fun t=>(h.tmps t).fh (fun k _=>fS k) hS (fun _ _ _ h=>h),h.fN.fh (fun k _=>fS k) hS (fun _ _ _ h=>h),fun s hs=>?_,fun s s' q q' hs dq hn hq jv=>?_,fun s e q hq=>?_,h.r0,fun k o1 gW=>?_,fun k o1 gW GN=>?_,h.yc,h.y0 bC _ _,h.y0,h.lU,⟨fun s hs=>?_,fun s s' q q' hs dq hn hq jv=>?_⟩⟩
 ·exact awN
 ·show(if r=p.b then some o' else ρ.hold r)=_;rw[aaw]
  ·exact hr
  ·intro e;subst e;rw[hb]at hr;injection hr with hr;exact q4.oQ.2 _ hr
 ·rw[(oI s).1]at hs;rw[Kf s (SR s hs)];obtain⟨q,hq,h2,h3,h4,h5⟩:=h.box s hs;exact⟨q,hq,h2,h3,h4,h5.fh (fS _) (fun k _=>fS k) hS (fun _ _ _ h=>h)⟩
 ·rw[(oI s).1]at hs;rw[(oI s').1]at dq;rw[(oI s).2]at hq;rw[(oI s').2]at jv;exact h.inj s s' q q' hs dq hn hq jv
 ·rw[(oI s).2];exact h.oD s e q hq
 ·by_cases e:k=p.b
  ·subst e;simp only[abo,aaM]at gW;subst gW;exact⟨eL,ho.oQ.1⟩
  ·exact aqB
 ·show(if k=p.b then some o' else ρ.hold k)=_;by_cases e:k=p.b
  ·exact awN
  ·rw[aaw e];exact h.gB k o1 gW GN
 ·rw[(oI s).1]at hs;rw[(oI s).2];by_cases bI:s=t
  ·subst bI;refine⟨p,o',hp,awP,hE,?_⟩;have e:(V.ff bx s es' s).es=es':=by simp[V.ff,ah]
   rw[e];exact ho.mono (ρ':=⟨ρ.at_,_⟩) (fun _ _ _ h=>h)
  ·obtain⟨q,o2,k1,k2,k3,k4⟩:=h.maps.has s hs;rw[Kf s bI];refine⟨q,o2,k1,?_,k3,k4.mono (ρ':=⟨ρ.at_,_⟩) (fun _ _ _ h=>h)⟩;show(if q.b=p.b then some o' else ρ.hold q.b)=_;rw[aaw (h.maps.inj s t q p hs hk bI k1 hp)];exact k2
 ·rw[(oI s).1]at hs;rw[(oI s').1]at dq;rw[(oI s).2]at hq;rw[(oI s').2]at jv;exact h.maps.inj s s' q q' hs dq hn hq jv
def xx(w:World)(b:Nat)(o:Obj):World:={w with heap:=w.heap.setIfInBounds b o}
def Dc{w:World}{b:Nat}{o:Obj}(h:b<w.heap.size):(xx w b o).heap[b]? =some o:=by simp[xx,h]
def I7(w:World)(b:Nat)(o:Obj):Fr (fun k=>k=b) w (xx w b o):=⟨rfl,rfl,rfl,by simp[xx],fun k _ hk=>by simp[xx,Ne.symm hk]⟩
theorem gy.len{ds:List D}{es:List MapEntry}(h:gy ds es):ds.length=es.length:=by induction h<;>grind
theorem gy.snoc{ds:List D}{es:List MapEntry}{k v:D}{e:MapEntry}(h:gy ds es)(hk:fZ k e.key)(hv:fZ v e.val):gy (ds++[.aL [k,v,.int .i64 (e.born:Int)]]) (es++[e]):=by
 induction h with
 |nil=>exact .cons hk hv .nil
 |cons h1 h2 _ ih=>exact .cons h1 h2 ih
theorem gy.put{ds:List D}{es:List MapEntry}{k v:D}{kv vv:Value}(h:gy ds es)(hk:fZ k kv)(hv:fZ v vv)(j:Nat):gy (ds.modify j (Ft k v)) (es.modify j fun e=>{e with key:=kv,val:=vv}):=by
 induction h generalizing j with
 |nil=>simpa using gy.nil
 |@cons k' v' e' _ _ h1 h2 t ih=>
  cases j with
  |zero=>simpa[Ft]using gy.cons (e:={e' with key:=kv,val:=vv}) hk hv t
  |succ j=>simpa using gy.cons h1 h2 (ih j)
theorem gy.erase{ds:List D}{es:List MapEntry}(h:gy ds es)(j:Nat):gy (ds.eraseIdx j) (es.eraseIdx j):=by
 induction h generalizing j with
 |nil=>simpa using gy.nil
 |cons h1 h2 t ih=>
  cases j with
  |zero=>grind
  |succ j=>simpa using gy.cons h1 h2 (ih j)
theorem gy.mem{ds:List D}{es:List MapEntry}(h:gy ds es):∀e∈es,∃k v,fZ k e.key/\fZ v e.val/\D.aL [k,v,.int .i64 (e.born:Int)]∈ds:=by induction h<;>grind
theorem gy.afO{ds:List D}{es:List MapEntry}(h:gy ds es):∀d∈ds,∃e∈es,∃k v,d= .aL [k,v,.int .i64 (e.born:Int)]:=by induction h<;>grind
theorem gy.find{ds:List D}{es:List MapEntry}(h:gy ds es)(n:Nat){d:D}(hd:ds.find? (fun e=>iQ e==(n:Int))=some d):∃e k v,es.find? (fun e=>e.born==n)=some e/\d= .aL [k,v,.int .i64 (e.born:Int)]/\fZ k e.key/\fZ v e.val:=by
 induction h with
 |nil=>simp at hd
 |@cons k v e ds es h1 h2 t ih=>
  have e1:(iQ (.aL [k,v,.int .i64 (e.born:Int)])==(n:Int))=(e.born==n):=by
   show((e.born:Int)==(n:Int))=_
   exact awN
  exact awN
def descOf:TK->TypeDesc
 | .int k=> .int k
 | .str=> .string
 |_=> .bool
def AD{t:TypeId}{k:D}{kv:Value}(h:oh (aj P t).k k=true)(hk:fZ k kv):P.underlying t=some (descOf (aj P t).k)/\MapKept.IsKey (descOf (aj P t).k) kv:=by
 unfold oh at h;split at h
 ·rename_i j k' n hj;simp[aaH]at h;subst h;rw[hj];exact⟨xD hj,by cases hk;rfl⟩
 ·rename_i hj;rw[hj];exact⟨ta hj,by cases hk;trivial⟩
 ·rename_i hj;rw[hj];exact⟨RH hj,by cases hk;trivial⟩
 ·exact awI
def W7{tk:TK}{k k':D}{u u':Value}{b:Bool}(h:oq tk k k'=some b)(hk:fZ k u)(dZ:fZ k' u'):Instr.sameNow (descOf tk) u u'=some b/\(b=true->u'=u):=by
 unfold oq at h;split at h
 ·split at h
  ·rename_i he;subst he;cases hk;cases dZ;refine⟨by simp[descOf,Instr.sameNow,h],fun hb=>?_⟩
   exact awN
  ·exact awI
 ·cases hk;cases dZ;rename_i x y;have e:((⟨x.toArray⟩:ByteArray)==⟨y.toArray⟩)=(x==y):=by
   rw[abu,MapKept.bytes_beq]
   exact awN
  refine⟨by grind [descOf,Instr.sameNow],fun hb=>?_⟩
  exact awN
 ·cases hk;cases dZ;refine⟨by simp[descOf,Instr.sameNow,h],fun hb=>?_⟩
  exact awN
 ·exact awI
theorem Ch{tk:TK}{k:D}{kv:Value}(hk:fZ k kv){ds:List D}{es:List MapEntry}(he:gy ds es):∀(i:Nat) r,dX tk k ds i=some r->
 (r=none/\Instr.findNow (descOf tk) kv es i=some none)\/∃j v e,r=some (i+j,v)/\Instr.findNow (descOf tk) kv es i=some (some (i+j,e.val))/\fZ v e.val/\es[j]? =some e/\e.key=kv:=by
 induction he with
 |nil=>intro i r h;injection h with h;exact .inl ⟨h.symm,rfl⟩
 |@cons k' v e ds es h1 h2 t ih=>
  intro i r h;unfold dX at h;cases hs:oq tk k k' with
  |none=>grind
  |some b=>
   obtain⟨g1,g2⟩:=W7 hs hk h1;rw[hs]at h;cases b with
   |true=>
    injection h with h;exact .inr ⟨0,v,e,h.symm,by simp[Instr.findNow,g1],h2,rfl,g2 rfl⟩
   |false=>
    rcases ih _ r h with⟨q1,q2⟩|⟨j,v',e',q1,q2,q3,q4,q5⟩
    ·grind [Instr.findNow]
    ·exact .inr ⟨j+1,v',e',awN,by simp[Instr.findNow,g1,q2];grind,q3,awN,q5⟩
def Du{t kt et:Nat}(h:(aj P t).k= .map kt et):P.underlying t=some (.map kt et):=awt
theorem aG.NM{S:Nat->Prop}{t e:Nat}{v:Value}(h:aG w S ρ (.omap t e) v):∃p,ρ t e=some p/\v= .map (some p.b):=by
 cases h with
 |pure h=>cases h
 |omap hp=>grind
def oT(h:aw X ρ σ bx a w){m:D}{vm:Value}{r:Nat×Int×List D}(hm:jI bx m=some r)(hv:aG w (ay X ρ bx w) ρ m vm):
 ∃p dw clock,(bx r.1).k=3/\ρ r.1 (bx r.1).ep=some p/\vm= .map (some p.b)/\ρ.hold p.b=some (.map dw clock)/\w.heap[p.b]? =some (.map dw clock)/\r.2.1=(clock:Int)/\gy r.2.2 dw.toList:=by
 unfold jI at hm;split at hm
 ·rename_i t e;split at hm
  ·rename_i hc;obtain⟨he,hk⟩:=hc;obtain⟨p,o,g1,g2,g3,g4⟩:=h.maps.has t hk;obtain⟨q,k1,rfl⟩:=hv.NM;have gw:=(h.hold _ _ g2).1;generalize(bx t).es=es at hm g4;unfold He at hm;split at hm
   ·cases g4<;>grind
   ·cases hm
  ·cases hm
 ·cases hm
def G1(h:aw X ρ σ bx a w){x:D}{vx:Value}{r:Nat×D×Int×Int×List D}(hm:zB bx x=some r)(hv:aG w (ay X ρ bx w) ρ x vx):
 ∃p pm since last seen,(bx r.1).k=3/\ρ r.1 (bx r.1).ep=some p/\vx= .pointer (some ⟨p.b,0,none⟩)/\ρ.hold p.b=some (.mapIter (some pm) since seen last)/\w.heap[p.b]? =some (.mapIter (some pm) since seen last)/\
  aG w (ay X ρ bx w) ρ r.2.1 (.map (some pm))/\(∃m k q,r.2.1= .omap m k/\ρ m k=some q/\q.b=pm)/\r.2.2.1=(since:Int)/\r.2.2.2.1=(last:Int)/\r.2.2.2.2=seen.toList.map fun n:Nat=>D.int .i64 (n:Int):=by
 unfold zB at hm;split at hm
 ·rename_i t e;split at hm
  ·rename_i hc;obtain⟨he,hk⟩:=hc;obtain⟨p,o,g1,g2,g3,g4⟩:=h.maps.has t hk;obtain⟨q,k1,rfl⟩:=hv.mH;rw[<-he,g1]at k1;injection k1 with k1;subst k1;have gw:=(h.hold _ _ g2).1;generalize(bx t).es=es at hm g4;unfold CL at hm;split at hm
   ·injection hm with hm;subst hm;generalize hx:D.omap _ _::_=l at g4;cases g4 with
    |map=>grind
    |@iter m k pm since last seen hp=>
     injection hx with h1 h2;injection h2 with h3 h4;injection h4 with h5 h6;injection h1 with a1 a2;injection h3 with b1 b2;injection h5 with c1 c2;subst a1;subst a2;subst b2;subst c2;subst h6;exact⟨p,pm.b,since,last,seen,hk,g1,awP,g2,gw,.omap hp,⟨_,_,pm,rfl,hp,rfl⟩,rfl,rfl,rfl⟩
   ·cases hm
  ·cases hm
 ·cases hm
theorem T8{t:TypeId}{z:D}(hz:zeroV P t=some z)(w:World)(S:Nat->Prop):∃v,(zeroValue t).run P w= .ok v w/\bc w S z v:=by
 unfold zeroV at hz;cases hi:P.info? t with
 |none=>grind
 |some i=>
  cases h0:i.zero with
  |none=>grind
  |some v=>
   simp[hi,h0,akz,aec,aaM]at hz;subst hz;simp_all[zeroValue,typeInfo,I8]
def S9(h:aw X ρ σ bx a w){T:TypeId}{m k:Operand}{ok:Bool}{d:D}(hv:x7 P (aj P) (aj P T) bx (ev σ m) (ev σ k) ok=some d):Yields P X ρ bx a w ⟨dst,.lookup T m k ok,ty,pos,af,g⟩ d:=by
 have hm:=h.ev m;have hk:=h.ev k;generalize ev σ m=dm at hv hm;generalize ev σ k=dk at hv hk;unfold x7 at hv;split at hv
 ·rename_i kt et hT;split at hv
  ·rename_i sF;simp only[aeP]at hv;obtain⟨r,hr,hv⟩:=hv;obtain⟨p,dw,clock,_,_,BJ,_,hw,_,hE⟩:=oT h hr hm;have Ev:fZ dk (a.eval k):=hk.simple (by
    unfold oh at sF;split at sF<;>first|rfl|cases sF)
   obtain⟨hu,Eu⟩:=AD sF Ev;cases hf:dX (aj P kt).k dk r.2.2 0 with
   |none=>rw[hf]at hv;cases hv
   |some q=>
    rw[hf]at hv;have sJ:=Du hT;rcases Ch Ev hE 0 q hf with⟨rfl,hn⟩|⟨j,v,e,rfl,hn,NC,hj,Y0⟩
    ·simp only[vJ,aav]at hv;obtain⟨z,hz,rfl⟩:=hv;obtain⟨zv,hzr,hzp⟩:=T8 hz w (ay X ρ bx w);have bZ:(Instr.lookup T (a.eval m) (a.eval k) ok).run P w= .ok (if ok then .tuple #[zv,.bool false]else zv) w:=by
      rw[BJ];simp only[Instr.lookup,aa9,aaD sJ,Result.andThen,ae0 hw,adB,agd hu Eu,age hu hn,hzr]
     refine aK (if ok then .tuple #[zv,.bool false]else zv) ard ?_;cases ok with
     |false=>exact .pure hzp
     |true=>
      refine .pure (.aL rfl fun i d v hd hv=>?_)
      match i with
      |0=>grind
      |1=>simp at hd hv;subst hd;subst hv;exact .bool false
      |i+2=>simp at hd
    ·simp only[vJ,aaM]at hv;subst hv;have bZ:(Instr.lookup T (a.eval m) (a.eval k) ok).run P w= .ok (if ok then .tuple #[e.val,.bool true]else e.val) w:=by
      rw[BJ];simp only[Instr.lookup,aa9,aaD sJ,Result.andThen,ae0 hw,adB,agd hu Eu,age hu hn]
     refine aK (if ok then .tuple #[e.val,.bool true]else e.val) ard ?_;cases ok with
     |false=>exact .pure NC.rep
     |true=>
      refine .pure (.aL rfl fun i d v hd hv=>?_)
      match i with
      |0=>simp at hd hv;subst hd;subst hv;exact NC.rep
      |1=>simp at hd hv;subst hd;subst hv;exact .bool true
      |i+2=>simp at hd
  ·cases hv
 ·cases hv
def Lh(h:aw X ρ σ bx a w)(bC:X.lo=0){T:TypeId}{m k v:Operand}{bx':ab}(hv:vH (aj P) (aj P T) bx (ev σ m) (ev σ k) (ev σ v)=some bx'):
 ∃w' ρ',(execOp a.eval ⟨dst,.mapUpdate T m k v,ty,pos,af,g⟩).run P w= .ok .skip w'/\aw X ρ' σ bx' a w':=by
 have hm:=h.ev m;have hk:=h.ev k;have hvv:=h.ev v;generalize ev σ m=dm at hv hm;generalize ev σ k=dk at hv hk;generalize ev σ v=dv at hv hvv;unfold vH at hv;split at hv
 ·rename_i kt et hT;split at hv
  ·rename_i sF;obtain⟨sF,NC⟩:=sF;simp only[aeP,aav]at hv;obtain⟨r,hr,es',jG,rfl⟩:=hv;obtain⟨p,dw,clock,h3,hp,BJ,Kb,hw,bS,hE⟩:=oT h hr hm;have Ev:fZ dk (a.eval k):=hk.simple (by
    unfold oh at sF;split at sF<;>first|rfl|cases sF)
   have NC:=hvv.simple NC;obtain⟨hu,Eu⟩:=AD sF Ev;have sJ:=Du hT;have au:=(aaW.1 hw).1;have fin:∀(vX:Array MapEntry) (c':Nat),gy es'.tail vX.toList->es'= .int .i64 (c':Int)::es'.tail->(Instr.mapUpdate T (a.eval m) (a.eval k) (a.eval v)).run P w= .ok () (xx w p.b (.map vX c'))->
    ∃w' ρ',(execOp a.eval ⟨dst,.mapUpdate T m k v,ty,pos,af,g⟩).run P w= .ok .skip w'/\aw X ρ' σ (V.ff bx r.1 es') a w':=by
    intro vX c' Cp he bZ;refine⟨xx w p.b (.map vX c'),_,ard,h.ff bC h3 hp Kb (es':=es') ?_ (I7 w p.b _) (Dc au)⟩;rw[he];exact .map Cp
   unfold nj at jG;cases hf:dX (aj P kt).k dk r.2.2 0 with
   |none=>grind
   |some q=>
    rw[hf]at jG;rcases Ch Ev hE 0 q hf with⟨rfl,hn⟩|⟨j,v0,e,rfl,hn,_,hj,Y0⟩
    ·injection jG with jG;subst jG;refine fin (dw.push {key:=a.eval k,val:=a.eval v,born:=clock}) (clock+1) ?_ awN ?_
     ·rw[bS,Array.toList_push];exact hE.snoc (e:={key:=a.eval k,val:=a.eval v,born:=clock}) Ev NC
     ·rw[BJ];simp only[Instr.mapUpdate,aa9,aaD sJ,Result.andThen,ae0 hw,agd hu Eu,age hu hn,ajQ _ hw];rfl
    ·injection jG with jG;subst jG;rw[aeC]at *;have vP:dw[j]? =some e:=awN
     refine fin (dw.modify j fun e=>{e with key:=a.eval k,val:=a.eval v}) clock ?_ awN ?_
     ·rw[Array.toList_modify];exact hE.put Ev NC j
     ·rw[BJ];simp only[Instr.mapUpdate,aa9,aaD sJ,Result.andThen,ae0 hw,agd hu Eu,age hu hn,vP,aec,ajC,Y0,MapKept.run_keyThatStays Eu,ajQ _ hw];rfl
  ·cases hv
 ·cases hv
def UQ(h:aw X ρ σ bx a w)(bC:X.lo=0){args:Array Operand}{b_:Array TypeId}{bx':ab}(hv:DI (aj P) b_.toList bx (args.toList.map (ev σ))=some bx'):
 ∃w' ρ',(execOp a.eval ⟨dst,.call {callee:=.builtin .delete,args:=args,argTypes:=b_},ty,pos,af,g⟩).run P w= .ok (.value (.tuple #[])) w'/\aw X ρ' σ bx' a w':=by
 obtain⟨b_⟩:=b_;obtain⟨args⟩:=args;unfold DI at hv;dsimp only at hv;split at hv
 case h_2=>cases hv
 rename_i T tl m' k' iS
 match args,iS with
 |[m,k],iS=>
 simp only[abk,aex,afc,akQ]at iS;obtain⟨rfl,rfl⟩:=iS;have hm:=h.ev m;have hk:=h.ev k;generalize ev σ m=dm at hv hm;generalize ev σ k=dk at hv hk;unfold Sr at hv;split at hv
 ·rename_i kt et hT;split at hv
  ·rename_i sF;simp only[aeP,aav]at hv;obtain⟨r,hr,es',jG,rfl⟩:=hv;obtain⟨p,dw,clock,h3,hp,BJ,Kb,hw,bS,hE⟩:=oT h hr hm;have Ev:fZ dk (a.eval k):=hk.simple (by
    unfold oh at sF;split at sF<;>first|rfl|cases sF)
   obtain⟨hu,Eu⟩:=AD sF Ev;have sJ:=Du hT;have au:=(aaW.1 hw).1;have fin:∀(vX:Array MapEntry),gy es'.tail vX.toList->es'= .int .i64 (clock:Int)::es'.tail->(Builtin.delete_ (T::tl).toArray ty #[a.eval m,a.eval k]).run P w= .ok (.tuple #[]) (xx w p.b (.map vX clock))->
    ∃w' ρ',(execOp a.eval ⟨dst,.call {callee:=.builtin .delete,args:=[m,k].toArray,argTypes:=(T::tl).toArray},ty,pos,af,g⟩).run P w= .ok (.value (.tuple #[])) w'/\aw X ρ' σ (V.ff bx r.1 es') a w':=by
    intro vX Cp he bZ;refine⟨xx w p.b (.map vX clock),_,?_,h.ff bC h3 hp Kb (es':=es') ?_ (I7 w p.b _) (Dc au)⟩
    ·exact aqM
    ·rw[he];exact .map Cp
   unfold MI at jG;cases hf:dX (aj P kt).k dk r.2.2 0 with
   |none=>grind
   |some q=>
    rw[hf]at jG;rcases Ch Ev hE 0 q hf with⟨rfl,hn⟩|⟨j,v0,e,rfl,hn,_,hj,Y0⟩
    ·injection jG with jG;subst jG;refine fin dw hE awN ?_;exact aqs
    ·injection jG with jG;subst jG;rw[aeC]at *;refine fin (dw.eraseIdxIfInBounds j) ?_ awN ?_
     ·have au:j<dw.size:=awN
      simp only[Array.eraseIdxIfInBounds,au,dite_true,Array.toList_eraseIdx];exact hE.erase j
     ·exact aqs
  ·cases hv
 ·cases hv
def S5(h:aw X ρ σ bx a w){args:Array Operand}{b_:Array TypeId}{d:D}(hk:∃T kt et,b_.toList=[T]/\(aj P T).k= .map kt et)(hv:Fa bx (args.toList.map (ev σ))=some d):
 ∃v,(execOp a.eval ⟨dst,.call {callee:=.builtin .len,args:=args,argTypes:=b_},ty,pos,af,g⟩).run P w= .ok (.value v) w/\aG w (ay X ρ bx w) ρ d v:=by
 obtain⟨b_⟩:=b_;obtain⟨args⟩:=args;obtain⟨T,kt,et,rfl,hT⟩:=hk;unfold Fa at hv;split at hv
 case h_2=>cases hv
 rename_i m' iS
 match args,iS with
 |[m],iS=>
 simp[abk,aex,afc,akQ]at iS;subst iS;simp only[aav]at hv;obtain⟨r,hr,rfl⟩:=hv;obtain⟨p,dw,clock,h3,hp,BJ,Kb,hw,bS,hE⟩:=oT h hr (h.ev m);refine⟨.int .i64 (dw.size:Int),?_,?_⟩
 ·have sJ:=Du hT;have bZ:(Builtin.len_ [T].toArray ty #[a.eval m]).run P w= .ok (.int .i64 (dw.size:Int)) w:=by
   rw[BJ];simp[Builtin.len_,aa9,ae0 hw,aaD sJ,Result.andThen,afl,aet];rfl
  exact aqM
 ·rw[hE.len];exact .pure (.int _ _)
def Lq(h:aw X ρ σ bx a w)(bC:X.lo=0){T d s:Nat}(hd:d<X.N):
 ∃v w',(execOp a.eval ⟨some d,.makeMap T none,ty,pos,af,g⟩).run P w= .ok (.value v) w'/\
  ∃ρ',aw X ρ' (ah σ d (.omap s ((bx s).ep+1))) (ah bx s ⟨(bx s).ep+1,3,0,T,[.int .i64 0]⟩) (a.put (some d) v) w':=by
 obtain⟨ρ',h',hp⟩:=h.afQ bC s 0 T (.map .nil);refine⟨.map _,w.alloc _,?_,ρ',h'.put (dst:=some d) (fun t ht=>awN) (.omap hp)⟩;simp_all[execOp,Instr.makeMap]
def Ox(h:aw X ρ σ bx a w)(bC:X.lo=0){T d s:Nat}{x:Operand}(hd:d<X.N){es:List D}(hv:Fy (aj P T) bx (ev σ x)=some es):
 ∃v w',(execOp a.eval ⟨some d,.range T x,ty,pos,af,g⟩).run P w= .ok (.value v) w'/\
  ∃ρ',aw X ρ' (ah σ d (.loc s ((bx s).ep+1) 0 0)) (ah bx s ⟨(bx s).ep+1,3,0,0,es⟩) (a.put (some d) v) w':=by
 have hx:=h.ev x;generalize ev σ x=dx at hv hx;unfold Fy at hv;split at hv
 ·rename_i kt et hT;simp only[aav]at hv;obtain⟨r,hr,rfl⟩:=hv;obtain⟨p,dw,clock,h3,hp,BJ,Kb,hw,bS,hE⟩:=oT h hr hx;have hdx:∃t e,dx= .omap t e:=by
   unfold jI at hr
   exact awN
  obtain⟨t,e,rfl⟩:=hdx;obtain⟨q,k1,k2⟩:=hx.NM;have hq:q.b=p.b:=awN
  obtain⟨ρ',h',bu⟩:=h.afQ (o:=.mapIter (some q.b) clock #[] clock) (es:=[.omap t e,.int .i64 r.2.1,.int .i64 r.2.1]) bC s 0 0 (by rw[bS];exact .iter (seen:= #[]) k1);refine⟨.pointer (some ⟨w.heap.size,0,none⟩),w.alloc _,?_,ρ',h'.put (dst:=some d) (fun t ht=>awN) (.loc bu sI)⟩;have sJ:=Du hT;have bZ:(Instr.range T (a.eval x)).run P w= .ok (.pointer (some ⟨w.heap.size,0,none⟩)) (w.alloc (.mapIter (some q.b) clock #[] clock)):=by
   rw[BJ,hq];simp[Instr.range,ae0 hw,aaD sJ,Result.andThen]
  exact ard
 ·cases hv
def yg{r:Nat}{m:Option Nat}{s l:Nat}{seen:Array Nat}(hb:w.heap[r]? =some (.mapIter m s seen l)):(getObj r).run P w= .ok (.mapIter m s seen l) w:=by simp[getObj,Sem.run,hb]
def Pt(h:aw X ρ σ bx a w){it:Operand}{d:D}(hv:wP bx (ev σ it)=some d):
 ∃v,(execOp a.eval ⟨dst,.entry it,ty,pos,af,g⟩).run P w= .ok (.value v) w/\aG w (ay X ρ bx w) ρ d v:=by
 have hx:=h.ev it;generalize ev σ it=dx at hv hx;simp only[wP,aeP]at hv;obtain⟨i,hi,r,hr,hv⟩:=hv;obtain⟨p,pm,since,last,seen,h3,hp,pS,Kb,hw,gR,_,hs,hl,kd⟩:=G1 h hi hx;obtain⟨p2,dw,clock,m3,mp,mv,mho,mw,mcl,mE⟩:=oT h hr gR;injection mv with mv;injection mv with mv;split at hv
 ·rename_i bS;rw[mcl,hl]at bS;have bS:clock=last:=oM;subst bS;unfold DJ at hv;rw[kd]at hv;split at hv
  ·rename_i s xS;rw[List.getLast?_map,aav]at xS;obtain⟨n,hn,rfl⟩:=xS;have wg:seen.back? =some n:=awN
   split at hv
   ·rename_i k v b hf;injection hv with hv;subst hv;obtain⟨e,k',v',g1,g2,g3,g4⟩:=mE.find n hf;injection g2 with g2;injection g2 with a1 a2;injection a2 with a3 a4;subst a1;subst a3;refine⟨.tuple #[e.key,e.val],?_,?_⟩
    ·have bZ:(Instr.entry (a.eval it)).run P w= .ok (.tuple #[e.key,e.val]) w:=by
      rw[pS];subst mv;simp only[Instr.entry,aa9,yg hw,ae0 mw,Result.andThen,wg,bne_self_eq_false,aew,aa_];exact awy
     exact ard
    ·refine .pure (.aL rfl fun i d v hd hv=>?_)
     match i with
     |0=>simp at hd hv;subst hd;subst hv;exact g3.rep
     |1=>simp at hd hv;subst hd;subst hv;exact g4.rep
     |i+2=>simp at hd
   ·cases hv
  ·cases hv
 ·cases hv
def I_(n:Nat)(hn:0<n)(w:World):∃(j:Nat) (w1:World),j<n/\(w1=w\/w1=w.drew)/\(choose (Question.mapNext n)).run P w= .ok j w1:=by
 by_cases hf:n<=1
 ·exact⟨0,w,awO,Or.inl rfl,by simp_all[Question.forced]⟩
 ·exact⟨_,w.drew,ak4 _ hn,Or.inr rfl,by
   simp[choose,Sem.run,Question.forced,aaH,hf,aa_,Question.cut];rfl⟩
theorem BO(seen:Array Nat)(n:Nat):((seen.toList.map fun n:Nat=>D.int .i64 (n:Int)).map intOf).contains (n:Int)=seen.contains n:=by
 simp[agw,agB,aa1,Function.comp_apply,intOf,Array.contains_iff_mem,<-Array.mem_toList_iff]
 exact awN
def Te(h:aw X ρ σ bx a w)(bC:X.lo=0){it:Operand}{K:D->ab->Prop}(hn:AM bx (ev σ it) K):
 ∃d bx' ρ' v w',(execOp a.eval ⟨dst,.next it false,ty,pos,af,g⟩).run P w= .ok (.value v) w'/\K d bx'/\aw X ρ' σ bx' a w'/\aG w' (ay X ρ' bx' w') ρ' d v:=by
 have hx:=h.ev it;generalize ev σ it=dx at hn hx;unfold AM at hn;cases hi:zB bx dx with
 |none=>rw[hi]at hn;exact hn.elim
 |some i=>
 rw[hi]at hn;dsimp only[aJ]at hn;cases hr:jI bx i.2.1 with
 |none=>grind
 |some r=>
 rw[hr]at hn;dsimp only at hn;obtain⟨bh,aa6,aa3⟩:=hn;obtain⟨p,pm,since,last,seen,h3,hp,pS,Kb,hw,gR,⟨mt,mk,mq,hm1,xT,hm3⟩,hs,hl,kd⟩:=G1 h hi hx;obtain⟨p2,dw,clock,m3,mp,mv,mho,mw,mcl,mE⟩:=oT h hr gR;injection mv with mv;injection mv with mv;subst mv;rw[hl,kd]at bh;rw[hs,kd]at aa6 aa3;have hg:(!seen.isEmpty&& !dw.isEmpty&&dw.all (fun e=>decide (e.born>=last)))=false:=by
  rcases bh with bh|bh|⟨e,he,hb⟩
  ·exact awy
  ·have:dw= #[]:=by
    have:=mE.len
    exact awN
   exact awN
  ·obtain⟨e',Ep,k,v,rfl⟩:=mE.afO e he;have hb:e'.born<last:=by grind [iQ]
   have:dw.all (fun e=>decide (e.born>=last))=false:=by
    rw[ajR];intro eB;rw[Array.all_eq_true']at eB
    exact awN
   exact awN
 have aip:∀e∈dw.toList,seen.contains e.born=false->∃k v,fZ k e.key/\fZ v e.val/\D.aL [k,v,.int .i64 (e.born:Int)]∈jf (seen.toList.map fun n:Nat=>D.int .i64 (n:Int)) r.2.2:=by
  intro e he kd;obtain⟨k,v,g1,g2,g3⟩:=mE.mem e he;refine⟨k,v,g1,g2,?_⟩;unfold jf;rw[akt];refine⟨g3,?_⟩;show(!(((seen.toList.map fun n:Nat=>D.int .i64 (n:Int)).map intOf).contains (e.born:Int)))=true
  grind [BO]
 have bZ:∃c w1,(w1=w\/w1=w.drew)/\((c=none/\(∀e∈dw.toList,seen.contains e.born=false->since<=e.born)/\(Instr.next (a.eval it) false ty).run P w= .ok (.tuple #[.bool false]) w1)\/
  ∃e∈dw.toList,c=some e/\seen.contains e.born=false/\(Instr.next (a.eval it) false ty).run P w= .ok (.tuple #[.bool true,e.key,e.val]) (xx w1 p.b (.mapIter (some p2.b) since (seen.push e.born) clock))):=by
  rw[pS];simp only[Instr.next,aa9,yg hw,ae0 mw,Result.andThen,hg,aew,aa_];generalize hL:(dw.filter fun e=> !seen.contains e.born)=L;have memL:∀e∈L.toList,e∈dw.toList/\seen.contains e.born=false:=awN
  have memL2:∀e∈dw.toList,seen.contains e.born=false->e∈L.toList:=awN
  generalize hO:(L.filter fun e=>decide (e.born<since))=O;generalize hN:(L.filter fun e=>decide (e.born>=since))=N';have bz:0<((if O.isEmpty=true then #[none]else #[])++(O++N').map some:Array (Option MapEntry)).size:=by
   by_cases hoe:O.isEmpty=true
   ·exact awN
   grind [Array.isEmpty]
  obtain⟨j,w1,hj,CG,QL⟩:=I_ (P:=P) _ bz w;simp only[QL];have eC:=abd hj;generalize(((if O.isEmpty=true then #[none]else #[])++(O++N').map some:Array (Option MapEntry))[j])=c at eC;have SS:c∈((if O.isEmpty=true then #[none]else #[])++(O++N').map some:Array (Option MapEntry)):=Array.mem_of_getElem? eC;rw[eC];refine⟨c,w1,CG,?_⟩;have hw1h:w1.heap=w.heap:=by rcases CG with rfl|rfl<;>rfl
  cases c with
  |none=>
   exact awy
  |some e=>
   have he:e∈L.toList:=by
    rw[Array.mem_append]at SS
    exact awN
   obtain⟨g1,g2⟩:=memL e he;refine .inr ⟨e,g1,rfl,g2,?_⟩;simp_all[setObj,xx,Sem.run]
 obtain⟨c,w1,CG,bZ⟩:=bZ;have gN:Below w.heap.size w w1:=by
  rcases CG with rfl|rfl
  ·exact afY _ _
  ·exact⟨rfl,rfl,rfl,aaN _,fun _ _=>rfl⟩
 have h1:=h.ext gN;rcases bZ with⟨_,eB,bZ⟩|⟨e,he,_,ant,bZ⟩
 ·refine⟨_,_,ρ,_,w1,asm,aa3 fun d hd=>?_,h1,.pure (.aL rfl fun i d v hd hv=>?_)⟩
  ·unfold jf at hd;rw[akt]at hd;obtain⟨hd,hc⟩:=hd;obtain⟨e,he,k,v,rfl⟩:=mE.afO d hd
   grind [BO,iQ]
  ·match i with
   |0=>simp at hd hv;subst hd;subst hv;exact .bool false
   |i+1=>simp at hd
 ·obtain⟨k,v,g1,g2,g3⟩:=aip e he ant;have au:p.b<w1.heap.size:=aeD (aaW.1 hw).1 gN.size;have hNO:pW ρ (.mapIter (some p2.b) since (seen.push e.born) clock) (i.2.1:: .int .i64 (since:Int):: .int .i64 r.2.1::((seen.toList.map fun n:Nat=>D.int .i64 (n:Int))++[.int .i64 (e.born:Int)])):=by
   rw[hm1,<-hm3,mcl];have:=pW.iter (ρ:=ρ) (p:=mq) (since:=since) (last:=clock) (seen:=seen.push e.born) xT
   exact awN
  have h2:=h1.ff bC h3 hp Kb hNO (I7 w1 p.b _) (Dc au);refine⟨_,_,_,_,_,asm,aa6 k v e.born g3,h2,.pure (.aL rfl fun i d v hd hv=>?_)⟩
  match i with
  |0=>simp at hd hv;subst hd;subst hv;exact .bool true
  |1=>simp at hd hv;subst hd;subst hv;exact g1.rep
  |2=>simp at hd hv;subst hd;subst hv;exact g2.rep
  |i+3=>simp at hd
end Go.V
namespace Go.V
open Go.RowKit
abbrev Fw(r:Option Nat):Fence:={Fence.wide with round:=r}
variable {P:Program} {C:Calc} {X:Ctx} {ρ:bX} {σ:Env} {bx:ab} {a:Act} {w:World} {r:Option Nat} {n:Nat}
def Al{f:FuncId}{args:Array Value}{R:Ending->World->Prop}(h:Calls P f args w R):CallsIn (Fw r) n P f args w R:=akG.2 h
section
variable {o:Oper} {next:Act->World->Prop} {Q:Exit->Act->World->Prop}
theorem gi(hd:∀c,o.op≠ .defer c){v:Value}{w':World}(hr:(execOp a.eval o).run P w= .ok (.value v) w')(hn:next (a.put o.dst v) w'):o.wpIn (Fw r) n P a w next Q:=by
 refine⟨fun _ _=>trivial,?_⟩;rw[aky _ _ _ hd,hr];exact hn
def Jm(hd:∀c,o.op≠ .defer c){w':World}(hr:(execOp a.eval o).run P w= .ok .skip w')(hn:next (a.put o.dst undef) w'):o.wpIn (Fw r) n P a w next Q:=by
 refine⟨fun _ _=>trivial,?_⟩;rw[aky _ _ _ hd,hr];exact hn
def Jk{c:Call}(ho:o.op= .call c){f:FuncId}{vs:Array Value}(hr:(execOp a.eval o).run P w=(callFunc f vs).run P w)(hc:qR P f vs w (fun v w'=>next (a.put o.dst v) w') (fun v w'=>Q (.panic [pe v]) a w')):o.wpIn (Fw r) n P a w next Q:=by
 refine⟨fun _ _=>trivial,?_⟩;rw[aky _ _ _ awN,hr];rcases hc with⟨h1,h2⟩|⟨v,w',h1,h2⟩
 ·rw[h1];refine⟨fun h=>au7,Al (Calls.mono h2 ?_)⟩
  exact awN
 ·rw[h1];exact h2
def aak(hd:∀c,o.op≠ .defer c){v:Value}{w':World}(hr:(execOp a.eval o).run P w= .halt (.panic v) w')(hn:Q (.panic [pe v]) a w'):o.wpIn (Fw r) n P a w next Q:=by
 refine⟨fun _ _=>trivial,?_⟩;rw[aky _ _ _ hd,hr];exact hn
end
def FF(d x:D):pE d≠ .cd x:=by unfold pE;grind
def OQ(d x:D):ot d≠ .cd x:=by unfold ot;grind
theorem aw.ZQ{dst:Option Tmp}(h:aw X ρ σ bx a w)(hd:∀t,dst=some t->t<X.N):aw X ρ (V.put σ dst .undef) bx a w:=by
 cases dst with
 |none=>exact h
 |some t=>
  have pN:eI≠t:=by
   exact aq2
  refine {h with marks:= ?_,tmps:=fun x=>?_}
  ·simpa[V.put,ah,pN]using h.marks
  ·simp only[V.put,ah];by_cases hx:x=t
   ·simp[hx,abo];exact aG.pure (bc.undef _)
   ·simp only[hx,aa_];exact h.tmps x
theorem FH(h:aw X ρ σ bx a w){o:Oper}{cl:D->Cl}(bV:∀t,o.dst=some t->t<X.N){K:Cl->Env->ab->Prop}(hs:aJ (cv P σ bx o.op) fun v=>K (cl v) (put σ o.dst v) bx)(bS:∀d x,cl d≠ .cd x)
 {next:Act->World->Prop} {Q:Exit->Act->World->Prop} (hK:∀c σ' bx' a' w' ρ',(∀x,c≠ .cd x)->K c σ' bx'->aw X ρ' σ' bx' a' w'->next a' w'):o.wpIn (Fw r) n P a w next Q:=by
 cases hv:cv P σ bx _ with
 |none=>rw[hv]at hs;exact hs.elim
 |some d=>
  rw[hv]at hs;obtain⟨v,w',hr,hb,gR⟩:=Li h o hv;refine gi (fun c hc=>by grind [cv]) hr (hK _ _ _ _ _ _ (bS d) hs ((h.ext hb).put bV ?_));exact gR
def OP(d x:D):Bh d≠ .cd x:=by unfold Bh;grind
def Ta(h:aw X ρ σ bx a w)(vt:X.lo=0){dst:Option Tmp}{op:Op}{ty:TypeId}{pos:String}{af:Array Edge}{g:Option (Nat×Bool)}(og:qQ P op=true)(bV:∀t,dst=some t->t<X.N){K:Cl->Env->ab->Prop}(hs:iL P C dst op σ bx K)
 {next:Act->World->Prop} {Q:Exit->Act->World->Prop} (hK:∀c σ' bx' a' w' ρ',(∀x,c≠ .cd x)->K c σ' bx'->aw X ρ' σ' bx' a' w'->next a' w'):(Oper.mk dst op ty pos af g).wpIn (Fw r) n P a w next Q:=by
 unfold iL at hs;split at hs
 ·rename_i T;split at hs
  ·rename_i d;obtain⟨v,w',hr,ρ',h'⟩:=Lq (T:=T) (s:=C.base+d) (ty:=ty) (pos:=pos) (af:=af) (g:=g) (P:=P) h vt (bV d rfl)
   grind [gi]
  exact awN
 ·rename_i T m k v;cases hz:vH (aj P) (aj P T) bx (ev σ m) (ev σ k) (ev σ v)with
  |none=>rw[hz]at hs;exact hs.elim
  |some bx'=>
   rw[hz]at hs;obtain⟨w',ρ',hr,h'⟩:=Lh (dst:=dst) (ty:=ty) (pos:=pos) (af:=af) (g:=g) h vt hz;exact Jm sI hr (hK _ _ _ _ _ _ awN hs (h'.put bV (.pure (.raw _))))
 ·rename_i T m k v;cases hz:vH (aj P) (aj P T) bx (ev σ m) (ev σ k) (ev σ v)with
  |none=>rw[hz]at hs;exact hs.elim
  |some bx'=>
   rw[hz]at hs;obtain⟨w',ρ',hr,h'⟩:=Lh (dst:=dst) (ty:=ty) (pos:=pos) (af:=af) (g:=g) h vt hz;exact Jm sI (show(execOp a.eval ⟨dst,.insert T m k v,ty,pos,af,g⟩).run P w=_ from hr) (hK _ _ _ _ _ _ awN hs (h'.put bV (.pure (.raw _))))
 ·rename_i T x;split at hs
  ·rename_i d;cases hz:Fy (aj P T) bx (ev σ x)with
   |none=>rw[hz]at hs;exact hs.elim
   |some es=>
    rw[hz]at hs;obtain⟨v,w',hr,ρ',h'⟩:=Ox (s:=C.base+d) (ty:=ty) (pos:=pos) (af:=af) (g:=g) h vt (bV d rfl) hz;exact gi sI hr (hK _ _ _ _ _ _ awN hs h')
  exact awN
 ·rename_i it;obtain⟨d,bx',ρ',v,w',hr,hk,h',gR⟩:=Te (dst:=dst) (ty:=ty) (pos:=pos) (af:=af) (g:=g) (P:=P) h vt hs;exact gi sI hr (hK _ _ _ _ _ _ awN hk (h'.put bV gR))
 ·rename_i it;cases hz:wP bx (ev σ it)with
  |none=>rw[hz]at hs;exact hs.elim
  |some d=>
   rw[hz]at hs;obtain⟨v,hr,gR⟩:=Pt (dst:=dst) (ty:=ty) (pos:=pos) (af:=af) (g:=g) (P:=P) h hz;exact gi sI hr (hK _ _ _ _ _ _ awN hs (h.put bV gR))
 ·rename_i b args b_;split at hs
  ·cases hz:DI (aj P) b_.toList bx (args.toList.map (ev σ))with
   |none=>rw[hz]at hs;exact hs.elim
   |some bx'=>
    rw[hz]at hs;obtain⟨w',ρ',hr,h'⟩:=UQ (dst:=dst) (ty:=ty) (pos:=pos) (af:=af) (g:=g) h vt hz;exact gi sI hr (hK _ _ _ _ _ _ awN hs (h'.put bV (.pure (.raw _))))
  ·cases hz:Fa bx (args.toList.map (ev σ))with
   |none=>rw[hz]at hs;exact hs.elim
   |some d=>
    rw[hz]at hs;have hk:∃T kt et,b_.toList=[T]/\(aj P T).k= .map kt et:=by
     simp only[qQ]at og;split at og
     ·rename_i T hT;refine⟨T,?_⟩;cases hk:(aj P T).k<;>rw[hk]at og<;>simp[TK.SY]at og
      exact awN
     exact awN
    obtain⟨v,hr,gR⟩:=S5 (dst:=dst) (ty:=ty) (pos:=pos) (af:=af) (g:=g) h hk hz;exact gi sI hr (hK _ _ _ _ _ _ awN hs (h.put bV gR))
  ·cases hz:F9 C.lo (aj P) b_.toList bx (args.toList.map (ev σ))with
   |none=>rw[hz]at hs;exact hs.elim
   |some rr=>
    rw[hz]at hs;obtain⟨args⟩:=args;obtain⟨b_⟩:=b_;dsimp only at hz;unfold F9 at hz;split at hz
    case h_2=>cases hz
    rename_i T T' d1 d2 iS
    match args,iS with
    |[x,y],iS=>
    simp only[abk,aex,afc,akQ]at iS;obtain⟨rfl,rfl⟩:=iS;obtain⟨v,w',hr,h'⟩:=Sq (ty:=ty) (pos:=pos) (af:=af) (g:=g) h bV (lo:=C.lo) oM hz;exact gi sI hr (hK _ _ _ _ _ _ awN hs h')
  exact awN
 exact awN
def Tb{t:TypeId}{name:String}{f:FuncId}{u:Value}(h:wk P t name=some f)(k:Nat):(method (k+1) t u name).run P w= .ok (f,u) w:=by
 unfold wk at h;split at h
 ·rename_i i d hi hu;have key:∀d,P.underlying t=some d->(∀e,d≠ .pointer e)->(match i.methods.find? (·.name==name)with
   |some m=>if m.path.size=0 then(match m.func with
    |some (f,false)=>some f
    |_=>none)else none
   |none=>none)=some f->(method (k+1) t u name).run P w= .ok (f,u) w:=by
   intro d hu hd h;split at h
   ·rename_i m hm;split at h
    ·rename_i hp;split at h
     ·rename_i f' hf;injection h with h;subst h;have hp2:m.path.toList=[]:=awN
      simp_all[receiverAt,aaD,Place.get,method,typeInfo,follow]
     ·exact awI
    ·exact awI
   ·exact awI
  exact awN
 ·exact awI
def SX{recv:Operand}{name:String}{args:Array Operand}{b_:Array TypeId}{dst:Option Tmp}{ty:TypeId}{pos:String}{af:Array Edge}{g:Option (Nat×Bool)}{t:TypeId}{u:Value}{f:FuncId}(hr:a.eval recv= .iface t u)(hm:wk P t name=some f):
 (execOp a.eval ⟨dst,.call {callee:=.invoke recv name,args,argTypes:=b_},ty,pos,af,g⟩).run P w=(callFunc f (#[u]++args.map a.eval)).run P w:=by
 obtain⟨k,hk⟩:∃k,P.types.size+Made.depth=k+1:=⟨P.types.size+99,rfl⟩
 have h2:(#[a.eval recv]++args.map a.eval).extract 1 (#[a.eval recv]++args.map a.eval).size=args.map a.eval:=awP
 generalize hA: #[a.eval _]++args.map _=A at h2;have h1:A[0]? =some (.iface t u):=by rw[<-hA,akY (by decide:0<1)];grind
 simp_all[Tb,execOp,resolve,invoke,callMethod]
theorem HO(h:aw X ρ σ bx a w)(hG:Good P C X)(pQ:∀l,r=some l->X.md=1){o:Oper}(bV:∀t,o.dst=some t->t<X.N){K:Cl->Env->ab->Prop}(hs:a_ P C o σ bx K)
 {next:Act->World->Prop} {Q:Exit->Act->World->Prop} (hK:∀c σ' bx' a' w' ρ',(∀x,c≠ .cd x)->K c σ' bx'->aw X ρ' σ' bx' a' w'->next a' w')
 (hP:∀d σ' bx' a' w' ρ' v,K (.cd d) σ' bx'->aw X ρ' σ' bx' a' w'->aG w' (ay X ρ' bx' w') ρ' d v->Q (.panic [pe v]) a' w'):o.wpIn (Fw r) n P a w next Q:=by
 unfold a_ at hs;obtain⟨dst,op,ty,pos,af,g⟩:=o;dsimp only at hs bV;split at hs
 ·rename_i T;split at hs
  ·rename_i d;cases hz:BM (kT (aj P T)) (vL (aj P T) (zeroV P T))with
   |none=>rw[hz]at hs;exact hs.elim
   |some z=>
    rw[hz]at hs;obtain⟨v,w',hr,ρ',h'⟩:=Pf (ty:=ty) (pos:=pos) (af:=af) (g:=g) h (bV d rfl) (adz hG.base (af9 C.base d)) hz;exact gi sI hr (hK _ _ _ _ _ _ awN hs h')
  exact awN
 ·rename_i T x;split at hs
  ·rename_i d;cases hz:B0 (aj P T) (ev σ x)with
   |none=>rw[hz]at hs;exact hs.elim
   |some z=>
    rw[hz]at hs;obtain⟨v,w',hr,ρ',h'⟩:=Uo (ty:=ty) (pos:=pos) (af:=af) (g:=g) h (bV d rfl) (adz hG.base (af9 C.base d)) hz;exact gi sI hr (hK _ _ _ _ _ _ awN hs h')
  exact awN
 ·rename_i T x y;cases hz:zN (gZ C.lo (aj P T) bx (ev σ x) (ev σ y)) (vL (aj P T) (zeroV P T)) bx (ev σ x) (ev σ y)with
  |none=>rw[hz]at hs;exact hs.elim
  |some bx'=>
   rw[hz]at hs;obtain⟨w',hr,ρ',h'⟩:=PU (ty:=ty) (pos:=pos) (af:=af) (g:=g) h bV hG.lo hz;exact Jm sI hr (hK _ _ _ _ _ _ (OQ _) hs h')
 ·rename_i T x;exact FH (o:=⟨dst,.load T x,ty,pos,af,g⟩) (cl:=fun _=>pE (ev σ x)) h bV hs (fun _=>FF _) hK
 ·rename_i args b_;split at hs
  ·obtain⟨_,hs⟩:=hs;cases hz:R8 C.lo (aj P) b_.toList (lL C.base dst) bx (args.toList.map (ev σ))with
   |none=>rw[hz]at hs;exact hs.elim
   |some rr=>
    rw[hz]at hs;obtain⟨args⟩:=args;obtain⟨b_⟩:=b_;dsimp only at hz;unfold R8 at hz;split at hz
    case h_2=>cases hz
    rename_i T T' d1 d2 iS
    match args,iS with
    |[x,y],iS=>
    simp only[abk,aex,afc,akQ]at iS;obtain⟨rfl,rfl⟩:=iS;obtain⟨v,w',hr,ρ',h'|h'⟩:=Bw (ty:=ty) (pos:=pos) (af:=af) (g:=g) h bV hG.lo hG.base hz
    ·exact gi sI hr (hK _ _ _ _ _ _ awN hs.1 h')
    ·exact gi sI hr (hK _ _ _ _ _ _ awN hs.2 h')
  ·cases hz:Lv C.lo (aj P) b_.toList (lL C.base dst) bx (args.toList.map (ev σ))with
   |none=>rw[hz]at hs;exact hs.elim
   |some rr=>
    rw[hz]at hs;obtain⟨args⟩:=args;obtain⟨b_⟩:=b_;dsimp only at hz;unfold Lv at hz;split at hz
    case h_2=>cases hz
    rename_i T T' d1 d2 iS
    match args,iS with
    |[x,y],iS=>
    simp only[abk,aex,afc,akQ]at iS;obtain⟨rfl,rfl⟩:=iS;obtain⟨v,w',hr,ρ',h'⟩:=Mg (ty:=ty) (pos:=pos) (af:=af) (g:=g) h bV hG.lo hG.base hz;exact gi sI hr (hK _ _ _ _ _ _ awN hs h')
 ·rename_i fo args b_;have pO:=h.ev fo;generalize ev σ fo=df at hs pO;unfold gk at hs;split at hs
  ·rename_i f caps;obtain⟨vs,kY,hl,hv⟩:=pO.zA;refine Jk (c:={callee:=.value fo,args:=args,argTypes:=b_}) rfl (f:=f) (vs:=args.map a.eval++vs) arN ?_;have hc:=yo (vs:=args.map a.eval++vs) h hG (by simp[hl]) (fun i x v hx cq=>by
    rw[amp]at cq;rw[aqa]at hx;simp only[aa0,akK,Array.size_map]at hx cq;split at cq
    ·rename_i au;rw[aaO au]at hx;simp only[aaZ,aba,afo,aav]at hx cq;obtain⟨o1,h1,rfl⟩:=hx;obtain⟨o2,h2,rfl⟩:=cq;rw[h1]at h2;injection h2 with h2;subst h2;exact h.ev o1
    grind) hs
   refine hc.mono ?_ ?_
   ·exact aqS
   ·exact aqX
  ·rename_i l;obtain⟨vs,kY,hl,_⟩:=pO.zA;have Q1:vs= #[]:=awN
   subst Q1;unfold tv at hs;split at hs
   ·rename_i items gs l' sO oN;obtain⟨⟨rfl,hp,hi⟩,zk⟩:=hs;obtain⟨E0,hE0,_,_,_,GX⟩:=hG.RW;obtain⟨Cy,GX⟩:=GX items gs l' sO oN;obtain⟨f,tm,as,bd,hr,oJ⟩:=GX X rfl rfl rfl rfl hE0 (fun ρ σ bx a w h=>⟨σ,a,h⟩) C.aN ρ σ bx a w (args.map a.eval) (args.toList.map (ev σ)) Cy h hi sI (fun i x v hx hv=>by
     simp only[aaZ,aba,afo,aav]at hx hv;obtain⟨o1,h1,rfl⟩:=hx;obtain⟨o2,h2,rfl⟩:=hv;rw[h1]at h2;injection h2 with h2;subst h2;exact(h.ev o1).fw (ye _ hp i _ awN))
    refine⟨fun _ _=>trivial,?_⟩;rw[aky _ _ _ sI];have bZ:(execOp a.eval ⟨dst,.call {callee:=.value fo,args:=args,argTypes:=b_},ty,pos,af,g⟩).run P w= .ok (.round l' f tm as bd) w:=by grind [execOp,resolve,Deferred.ofValue,invoke]
    rw[bZ];refine⟨fun h=>au7,?_⟩;refine RoundIn.mono (show RoundIn (Fw r) _ P l' f tm as bd w _ from oJ _) ?_;rintro e w2 ⟨ρ2,bx1,b,rfl,hS⟩;cases b with
    |true=>exact hK _ _ _ _ _ _ awN (zk bx1).1 (hS.put bV (.pure (.bool true)))
    |false=>exact hK _ _ _ _ _ _ awN (zk bx1).2 (hS.put bV (.pure (.bool false)))
   exact awN
  ·rename_i f caps;obtain⟨vs,kY,hl,hv⟩:=pO.Q3;refine Jk (c:={callee:=.value fo,args:=args,argTypes:=b_}) rfl (f:=f) (vs:=vs++args.map a.eval) arN ?_;have hc:=yo (vs:=vs++args.map a.eval) h hG (by simp[hl]) (fun i x v hx cq=>by
    rw[amp]at cq;rw[aqa]at hx;rw[hl]at cq;split at cq
    ·exact awN
    ·rename_i au;rw[aaw au]at hx;simp only[aaZ,aba,afo,aav]at hx cq;obtain⟨o1,h1,rfl⟩:=hx;obtain⟨o2,h2,rfl⟩:=cq;rw[h1]at h2;injection h2 with h2;subst h2;exact h.ev o1) hs
   refine hc.mono ?_ ?_
   ·exact aqS
   ·exact aqX
  exact awN
 ·rename_i x;obtain⟨_,hs⟩:=hs;unfold I4 at hs;have hx:=h.ev x;generalize ev σ x=dx at hs hx;split at hs
  ·obtain⟨u,hu,_⟩:=hx.II;exact aak (v:=a.eval x) (w':=w) sI (by simp_all[execOp,Instr.panic]) (hP _ _ _ _ _ _ _ hs h hx)
  exact awN
 ·rename_i fo args b_;obtain⟨pN,hs⟩:=hs;have mR:=hG.df pN;have sL:r=none:=by cases r<;>grind
  subst sL;have pO:=h.ev fo;split at hs
  ·rename_i f caps hfc;rw[hfc]at pO;obtain⟨vs,kY,hl,hv⟩:=pO.zA;refine⟨fun _ _=>trivial,?_⟩;show Oper.uponIn (Fw none) n P _ a next Q ((Oper.semAt none a.eval _).run P w)
   rw[Oper.semAt_none];have bZ:(execOp a.eval ⟨dst,.defer {callee:=.value fo,args:=args,argTypes:=b_},ty,pos,af,g⟩).run P w= .ok (.defer {target:=.fn (.func f) vs,args:=args.map a.eval}) w:=by simp[execOp,resolve,kY,Deferred.ofValue]
   rw[bZ];show next _ w
   refine hK _ _ _ _ _ _ awN hs (aw.put (ρ:=ρ) (a:={a with defers:={target:=.fn (.func f) vs,args:=args.map a.eval}::a.defers}) ?_ bV (.pure (.raw _)));refine {h with marks:= ?_,tmps:=fun t=>?_}
   ·have hm:=h.marks;rcases hm with hm|hm
    ·exact awO
    ·refine .inr ?_;refine⟨?_,fun h3=>awO⟩;obtain⟨hm,_⟩:=hm;rw[aaw oM]at hm⊢;have e:q_ (ah σ eI (Hp (σ eI) (.fn (.func f) caps) (args.toList.map (ev σ))) eI)= .aL (.fn (.func f) caps::args.toList.map (ev σ))::q_ (σ eI):=by
      rw[aY];cases σ eI<;>rfl
     rw[e];refine .call hl hv sI (fun i d v hd cq=>?_) hm;simp only[aaZ,aba,afo,aav]at hd cq;obtain⟨o1,h1,rfl⟩:=hd;obtain⟨o2,h2,rfl⟩:=cq;rw[h1]at h2;injection h2 with h2;subst h2;exact h.ev o1
   ·simp only[ah];split
    ·unfold Hp;split<;>exact .pure (.any _ _)
    ·exact h.tmps t
  exact awN
 ·rename_i T l c;split at hs
  ·rename_i d;cases hz:x9 (aj P) (aj P T) (ev σ l) (ev σ c)with
   |none=>rw[hz]at hs;exact hs.elim
   |some z=>
    rw[hz]at hs;obtain⟨v,w',hr,ρ',h'⟩:=Tc (ty:=ty) (pos:=pos) (af:=af) (g:=g) h (bV d rfl) (adz hG.base (af9 C.base d)) hz;exact gi sI hr (hK _ _ _ _ _ _ awN hs h')
  exact awN
 ·unfold gu at hs;split at hs
  ·rename_i T m ps _ _ _ _ _ _ _ _ _;split at hs
   ·split at hs
    ·rename_i d _;cases hz:x6 (aj P) (aj P T) m (ps.toList.map fun p=>(p.1,ev σ p.2))with
     |none=>rw[hz]at hs;exact hs.elim
     |some z=>
      rw[hz]at hs;obtain⟨v,w',hr,ρ',h'⟩:=S7 (ty:=ty) (pos:=pos) (af:=af) (g:=g) h (bV d rfl) (adz hG.base (af9 C.base d)) hz;exact gi sI hr (hK _ _ _ _ _ _ awN hs h')
    exact awN
   ·exact FH (o:=⟨dst,.buildSlice T m ps,ty,pos,af,g⟩) (cl:=fun _=> .n) h bV hs awN hK
  ·rename_i T m k ok _ _ _ _ _ _ _ _ _;cases hz:x7 P (aj P) (aj P T) bx (ev σ m) (ev σ k) ok with
   |none=>rw[hz]at hs;exact hs.elim
   |some d=>
    rw[hz]at hs;obtain⟨v,w',hr,hb,gR⟩:=S9 (dst:=dst) (ty:=ty) (pos:=pos) (af:=af) (g:=g) h hz;exact gi sI hr (hK _ _ _ _ _ _ (OP _) hs ((h.ext hb).put bV gR))
  ·rename_i recv name args b_ _ _ _ _ _ _ _ _ _;have Kk:=h.ev recv;generalize ev σ recv=dr at hs Kk;unfold qM at hs;split at hs
   ·rename_i t d0;cases hm:wk P t name with
    |none=>rw[hm]at hs;exact hs.elim
    |some f=>
     rw[hm]at hs;have hs:c_ C f (d0::args.toList.map (ev σ)) bx fun c d bx'=>K c (put σ dst d) bx':=hs;obtain⟨u,hu,gR⟩:=Kk.II;refine Jk (c:={callee:=.invoke recv name,args:=args,argTypes:=b_}) rfl (f:=f) (vs:= #[u]++args.map a.eval) (SX hu hm) ?_;have hc:=yo (vs:= #[u]++args.map a.eval) h hG awN (fun i x v hx cq=>by
      rcases i with _|i
      ·exact awN
      ·rw[Array.getElem?_append_right sI]at cq;simp only[ajG,aaZ,aba,aav]at hx;simp only[ak2,aa5,aeW,aeC,Nat.add_sub_cancel,afo,aav]at cq;obtain⟨o1,h1,rfl⟩:=hx;obtain⟨o2,h2,rfl⟩:=cq;rw[h1]at h2;injection h2 with h2;subst h2;exact h.ev o1) hs
     refine hc.mono ?_ ?_
     ·exact aqS
     ·exact aqX
   exact awN
  ·split at hs
   ·rename_i og;obtain⟨_,bC,hs⟩:=hs;exact Ta h avn og bV hs hK
   ·exact FH (cl:=fun _=> .n) h bV hs awN hK
end Go.V
namespace Go.V
open Go.RowKit
variable {P:Program} {C:Calc} {σ σ₂:Env} {bx bx₂:ab}
theorem cZ{α:Type}{x:Option α}{f g:α->Prop}(h:∀v,f v->g v)(hx:aJ x f):aJ x g:=by
 cases x with
 |none=>exact hx
 |some v=>exact h v hx
theorem Ak{f:FuncId}{ds:List D}{K K':Cl->D->ab->Prop}(h:∀c d bx,K c d bx->K' c d bx)(hc:c_ C f ds bx K):c_ C f ds bx K':=by
 rcases hc with⟨d,h1,h2,h3⟩|⟨ds',d,h1,h2,h3,h4⟩|⟨ds',d,h1,h2,h3,h4⟩|⟨bP,Pan,h1,h2,h3,h4⟩
 ·exact .inl ⟨d,h1,h2,h _ _ _ h3⟩
 ·exact .inr (.inl ⟨ds',d,h1,h2,h3,h _ _ _ h4⟩)
 ·exact .inr (.inr (.inl ⟨ds',d,h1,h2,h3,h _ _ _ h4⟩))
 ·exact .inr (.inr (.inr ⟨bP,Pan,h1,h2,fun d bx' hp=>(h3 d _ hp).imp (h _ _ _) (fun⟨h0,r,r',g1,g2,g3⟩=>⟨h0,r,r',g1,g2,h _ _ _ g3⟩),fun d bx' hp=>h _ _ _ (h4 d _ hp)⟩))
theorem P3{l:Nat}{ds:List D}{K K':Cl->D->ab->Prop}(h:∀c d bx,K c d bx->K' c d bx)(hc:tv C l ds bx K):tv C l ds bx K':=by grind [tv]
theorem F6{d:D}{ds:List D}{K K':Cl->D->ab->Prop}(h:∀c d bx,K c d bx->K' c d bx)(hc:gk C d ds bx K):gk C d ds bx K':=by
 unfold gk at hc⊢
 grind [Ak,P3]
theorem WE{d:D}{f g:D->Prop}(h:∀d,f d->g d)(hx:I4 d f):I4 d g:=by cases d<;>first|exact h _ hx|exact hx
theorem Td{x:D}{K K':D->ab->Prop}(h:∀d bx,K d bx->K' d bx)(hs:AM bx x K):AM bx x K':=
 cZ (fun _=>cZ fun _ hh=>⟨hh.1,fun k v b hm=>h _ _ (hh.2.1 k v b hm),fun ha=>h _ _ (hh.2.2 ha)⟩) hs
theorem Kz{dst:Option Tmp}{op:Op}{K K':Cl->Env->ab->Prop}(h:∀c σ bx,K c σ bx->K' c σ bx)(hs:iL P C dst op σ bx K):iL P C dst op σ bx K':=by
 unfold iL at hs⊢;split at hs<;>grind [cZ,Td]
theorem TQ{dst:Option Tmp}{op:Op}{K K':Cl->Env->ab->Prop}(h:∀c σ bx,K c σ bx->K' c σ bx)(hs:gu P C dst op σ bx K):gu P C dst op σ bx K':=by
 cases op with
 |buildSlice T n ps=>
  unfold gu at hs⊢;dsimp only at hs⊢;split at hs
  ·rename_i ho;rw[aaO ho]
   grind [cZ]
  ·rename_i ho;rw[aaw ho]
   grind [cZ]
 |lookup T m k ok=>
  grind [gu,cZ]
 |call c=>
  obtain⟨callee,args,b_⟩:=c;cases callee with
  |invoke recv name=>
   have hs:qM P C (ev σ recv) name (args.toList.map (ev σ)) bx fun c d bx'=>K c (put σ dst d) bx':=hs;show qM P C (ev σ recv) name (args.toList.map (ev σ)) bx fun c d bx'=>K' c (put σ dst d) bx';unfold qM at hs⊢;split at hs<;>grind [cZ,Ak]
  |_=>
   unfold gu at hs⊢;dsimp only at hs⊢;split at hs
   ·rename_i hm;rw[aaO hm]
    grind [Kz]
   ·rename_i hm;rw[aaw hm]
    grind [cZ]
 |_=>
  unfold gu at hs⊢;dsimp only at hs⊢;split at hs
  ·rename_i hm;rw[aaO hm];exact⟨hs.1,hs.2.1,Kz h hs.2.2⟩
  ·rename_i hm;rw[aaw hm];exact cZ (fun _=>h _ _ _) hs
theorem s_{o:Oper}{K K':Cl->Env->ab->Prop}(h:∀c σ bx,K c σ bx->K' c σ bx)(hs:a_ P C o σ bx K):a_ P C o σ bx K':=by
 unfold a_ at hs⊢;split at hs
 ·split at hs<;>grind [cZ]
 ·split at hs<;>grind [cZ]
 ·grind [cZ]
 ·grind [cZ]
 ·split at hs
  ·rename_i nw;rw[aaO nw]
   grind [cZ]
  ·rename_i nw;rw[aaw nw]
   grind [cZ]
 ·grind [F6]
 ·grind [WE]
 ·exact awN
 ·grind [cZ]
 grind [TQ]
theorem mW{c:Cl}{x y x' y':Prop}(hx:x->x')(hy:y->y')(h:iN c x y):iN c x' y':=by cases c<;>first|exact hy h|exact hx h
theorem oU{full:List Oper}:∀ {l:List Oper} {acc:List Cl} {σ:Env} {bx:ab} {K K':List Cl->Env->ab->Prop},(∀acc σ bx,K acc σ bx->K' acc σ bx)->xu P C full l acc σ bx K->xu P C full l acc σ bx K'
 |[],_,_,_,_,_,h,hs=>h _ _ _ hs
 |o::rest,acc,σ,bx,K,K',h,hs=>by
  unfold xu at hs⊢;split at hs
  ·exact s_ (fun _ _ _=>mW (h _ _ _) (oU h)) hs
  ·refine cZ (fun g hg=>?_) hs;unfold gK at hg⊢;split at hg
   ·rename_i h1;rw[aaO h1];exact s_ (fun _ _ _=>mW (h _ _ _) (oU h)) hg
   ·rename_i h1;rw[aaw h1];exact oU h hg
theorem rO{full:List Oper}{Pn Js:D->ab->Prop}{Q Q':Env->ab->Prop}(hp:∀d bx,Pn d bx->Js d bx)(hq:∀σ bx,Q σ bx->Q' σ bx):∀(t:sc) {σ:Env} {bx:ab},lY P C full Pn Q t σ bx->lY P C full Js Q' t σ bx
 | .fin,_,_,h=>hq _ _ h
 | .stop,_,_,_=>trivial
 | .aD i n,σ,bx,h=>by
   unfold lY qT at h⊢;split at h
   ·exact cZ (fun _=>rO hp hq n) h
   exact awN
 | .load i s n,σ,bx,h=>by
   unfold lY qT DW at h⊢;split at h
   ·split at h
    ·exact⟨h.1,cZ (fun _=>rO hp hq n) h.2⟩
    exact awN
   exact awN
 | .both i _ a r,σ,bx,h=>by
   unfold lY qT at h⊢;refine⟨?_,rO hp hq r h.2⟩;have h:=h.1;split at h
   ·exact s_ (fun c _ _=>mW (by unfold ug;grind) (fun g=>⟨g.1,rO hp hq a g.2⟩)) h
   exact awN
theorem Gc{full:List Oper}{Pn Js:D->ab->Prop}{Q Q':Env->ab->Prop}(hp:∀d bx,Pn d bx->Js d bx)(hq:∀σ bx,Q σ bx->Q' σ bx)(h:At P C full Pn Q σ bx):At P C full Js Q' σ bx:=
 let ⟨ts,s,t,h0,h1,h2⟩:=h
 ⟨ts,s,t,h0,h1,rO hp hq t h2⟩
def gX(c:Cl)(bx' bx₂:ab):ab:=fun s=>if c.wr s then bx' s else bx₂ s
def x8(bx' bx₂:ab):gX .wa bx' bx₂=bx':=by grind [gX,Cl.wr]
def xp{t:Nat}{b:Bx}(bx bx₂:ab):gX (.w t) (ah bx t b) bx₂=ah bx₂ t b:=by grind [gX,Cl.wr,ah]
theorem lG{c:Cl}(h:∀s,c.wr s=false)(bx' bx₂:ab):gX c bx' bx₂=bx₂:=by grind [gX]
theorem Yw{x:Operand}(h:∀t,x= .tmp t->σ₂ t=σ t):ev σ₂ x=ev σ x:=by
 cases x with
 |tmp t=>exact h t rfl
 |_=>rfl
def Alike(σ σ₂:Env)(op:Op):Prop:=∀x∈op.operands.toList,ev σ₂ x=ev σ x
def sS{l:Option Operand}(h:∀x∈l.toList,ev σ₂ x=ev σ x):fu σ₂ l=fu σ l:=by cases l<;>grind [fu]
theorem Bq{op:Op}(h:Alike σ σ₂ op)(hl:∀T a,op≠ .load T a):cv P σ₂ bx₂ op=cv P σ bx op:=by
 cases op with
 |move x=>simp only[cv,h x avl]
 |assign x=>simp only[cv,h x avl]
 |pick c x y=>simp only[cv,h c avl,h x avl,h y avl]
 |binOp op t x y t'=>simp only[cv,h x avl,h y avl]
 |makeInterface t x=>simp only[cv,h x avl]
 |typeAssert x t t' ok=>simp only[cv,h x avl]
 |unOp op t x=>simp only[cv,h x avl]
 |fieldAddr t x i=>simp only[cv,h x avl]
 |field t x i=>simp only[cv,h x avl]
 |sliceToArrayPointer t x=>simp only[cv,h x avl]
 |indexAddr t x y=>simp only[cv,h x avl,h y avl]
 |index t x y=>simp only[cv,h x avl,h y avl]
 |load t x=>grind
 |extract x i=>simp only[cv,h x avl]
 |slice t x lo hi mx=>
  cases mx with
  |none=>simp only[cv,h x avl,sS (l:=lo) (fun y hy=>h y avd),sS (l:=hi) (fun y hy=>h y avd)]
  |some m=>simp only[cv,h x avl,h m avl,sS (l:=lo) (fun y hy=>h y avd),sS (l:=hi) (fun y hy=>h y avd)]
 |build t ps=>
  have:(ps.toList.map fun p=>(p.1,ev σ₂ p.2))=ps.toList.map fun p=>(p.1,ev σ p.2):=ad8 fun p hp=>arO
  simp only[cv,this]
 |buildSlice t n ps=>
  have:(ps.toList.map fun p=>(p.1,ev σ₂ p.2))=ps.toList.map fun p=>(p.1,ev σ p.2):=ad8 fun p hp=>arO
  simp only[cv,this]
 |nilCheck x=>simp only[cv,h x avl]
 |makeFunc f first caps=>
  have:caps.toList.map (ev σ₂)=caps.toList.map (ev σ):=ad8 fun x hx=>h x avd;have this2:first.toList.map (ev σ₂)=first.toList.map (ev σ):=ad8 fun x hx=>h x avd
  grind [cv]
 |convert s t x=>simp only[cv,h x avl]
 |call c=>
  obtain⟨callee,args,b_⟩:=c;cases callee with
  |builtin b=>
   have:args.toList.map (ev σ₂)=args.toList.map (ev σ):=ad8 fun x hx=>h x aun;simp only[cv,this]
  |_=>simp[cv]
 |_=>simp[cv]
theorem Ez{ti:TI}{d:D}(h:∀s,(pE d).rd s=true->bx₂ s=bx s):jh ti bx₂ d=jh ti bx d:=by cases d<;>grind [jh,pE,Cl.rd]
def OV{lo:Nat}{ti:TI}{a v:D}{bx':ab}(hs:gZ lo ti bx a v=some bx'):(∀s,(ot a).wr s=false->bx' s=bx s)/\
 ∀bx₂:ab,(∀s,(ot a).rd s=true->bx₂ s=bx s)->gZ lo ti bx₂ a v=some (gX (ot a) bx' bx₂):=by
 unfold gZ at hs;split at hs
 ·rename_i t e i j;split at hs
  ·unfold Ai at hs;split at hs
   ·cases hi:(bx t).es[i]? with
    |none=>grind
    |some d0=>
     simp[hi,aav]at hs;obtain⟨d',BE,rfl⟩:=hs;simp_all[ot,Cl.wr,ah,Cl.rd,gZ,Ai,xp]
   ·cases hs
  ·cases hs
 ·cases hs
theorem WB{lo:Nat}{ti:TI}{b:Bool}{a v:D}{bx':ab}(hs:zN (gZ lo ti bx a v) b bx a v=some bx'):(∀s,(ot a).wr s=false->bx' s=bx s)/\
 ∀bx₂:ab,(∀s,(ot a).rd s=true->bx₂ s=bx s)->zN (gZ lo ti bx₂ a v) b bx₂ a v=some (gX (ot a) bx' bx₂):=by
 cases hq:gZ lo ti bx a v with
 |some r=>
  rw[hq]at hs;cases hs;obtain⟨h1,h2⟩:=OV hq;exact⟨h1,fun bx₂ h=>by rw[h2 _ h];rfl⟩
 |none=>
  rw[hq]at hs;simp[zN]at hs;split at hs
  ·rename_i t e i j;split at hs
   ·cases hs;refine⟨fun _ _=>rfl,fun bx₂ h=>?_⟩;have hm:gX (ot (.loc t e i j)) bx bx₂=bx₂:=by grind [gX,ot,Cl.rd,Cl.wr]
    grind [gZ,zN]
   ·cases hs
  ·cases hs
structure Eff(P:Program)(C:Calc)(o:Oper)(σ:Env)(bx:ab)(c:Cl)(v:D)(bx':ab):Prop where
 np:∀x,c≠ .cd x
 same:∀s,c.wr s=false->bx' s=bx s
 le0:eV o.op=0->c= .n
 Wb:eV o.op≠2->∀s,c.wr s=false
 run:∀σ₂ bx₂,Alike σ σ₂ o.op->(∀s,c.rd s=true->bx₂ s=bx s)->∀K:Cl->Env->ab->Prop,K c (put σ₂ o.dst v) (gX c bx' bx₂)->a_ P C o σ₂ bx₂ K
theorem Zr{dst:Option Tmp}{op:Op}{K:Cl->Env->ab->Prop}(hn:nH op=false)(hs:iL P C dst op σ bx K):
 ∃v bx',K .wa (put σ dst v) bx'/\∀σ₂,Alike σ σ₂ op->∀K':Cl->Env->ab->Prop,K' .wa (put σ₂ dst v) bx'->iL P C dst op σ₂ bx K':=by
 cases op with
 |makeMap T r=>
  cases r with
  |some r=>exact hs.elim
  |none=>
   cases dst with
   |none=>exact hs.elim
   |some d=>exact⟨_,_,hs,fun σ₂ _ K' hK=>hK⟩
 |mapUpdate T m k v=>
  simp only[iL]at hs;cases hz:vH (aj P) (aj P T) bx (ev σ m) (ev σ k) (ev σ v)with
  |none=>rw[hz]at hs;exact hs.elim
  |some b'=>
   rw[hz]at hs;refine⟨_,_,hs,fun σ₂ cQ K' hK=>?_⟩;simp only[iL,cQ m avl,cQ k avl,cQ v avl,hz];exact hK
 |insert T m k v=>
  simp only[iL]at hs;cases hz:vH (aj P) (aj P T) bx (ev σ m) (ev σ k) (ev σ v)with
  |none=>rw[hz]at hs;exact hs.elim
  |some b'=>
   rw[hz]at hs;refine⟨_,_,hs,fun σ₂ cQ K' hK=>?_⟩;simp only[iL,cQ m avl,cQ k avl,cQ v avl,hz];exact hK
 |range T x=>
  cases dst with
  |none=>exact hs.elim
  |some d=>
   simp only[iL]at hs;cases hz:Fy (aj P T) bx (ev σ x)with
   |none=>rw[hz]at hs;exact hs.elim
   |some es=>
    rw[hz]at hs;refine⟨_,_,hs,fun σ₂ cQ K' hK=>?_⟩;simp only[iL,cQ x avl,hz];exact hK
 |next it s=>cases hn
 |entry it=>
  simp only[iL]at hs;cases hz:wP bx (ev σ it)with
  |none=>rw[hz]at hs;exact hs.elim
  |some v=>
   rw[hz]at hs;refine⟨_,_,hs,fun σ₂ cQ K' hK=>?_⟩;simp only[iL,cQ it avl,hz];exact hK
 |call c=>
  obtain⟨callee,args,b_⟩:=c;cases callee with
  |builtin b=>
   cases b with
   |len=>cases hn
   |copy=>
    simp only[iL]at hs;cases hz:F9 C.lo (aj P) b_.toList bx (args.toList.map (ev σ))with
    |none=>rw[hz]at hs;exact hs.elim
    |some b'=>
     rw[hz]at hs;refine⟨_,_,hs,fun σ₂ cQ K' hK=>?_⟩;have hx:args.toList.map (ev σ₂)=args.toList.map (ev σ):=ad8 fun x hx=>cQ x aun;simp only[iL,hx,hz];exact hK
   |delete=>
    simp only[iL]at hs;cases hz:DI (aj P) b_.toList bx (args.toList.map (ev σ))with
    |none=>rw[hz]at hs;exact hs.elim
    |some b'=>
     rw[hz]at hs;refine⟨_,_,hs,fun σ₂ cQ K' hK=>?_⟩;have hx:args.toList.map (ev σ₂)=args.toList.map (ev σ):=ad8 fun x hx=>cQ x aun;simp only[iL,hx,hz];exact hK
   |_=>exact hs.elim
  |_=>exact hs.elim
 |_=>exact hs.elim
theorem Rj{op:Op}(hm:qQ P op=true)(hn:nH op=false):eV op=2:=by
 cases op with
 |call c=>
  obtain⟨callee,args,b_⟩:=c;cases callee with
  |builtin b=>cases b<;>first|rfl|(cases hn;done)|(cases hm)
  |_=>cases hm
 |next=>cases hn
 |_=>first|rfl|(cases hm)
def Ux(hT:∀f b ds bx Q Qp,¬C.o.pT f b ds bx Q Qp){f:FuncId}{ds:List D}{K:Cl->D->ab->Prop}(hs:c_ C f ds bx K):
 ∃c d bx',K c d bx'/\(∀x,c≠ .cd x)/\(∀s,c.wr s=false->bx' s=bx s)/\∀bx₂:ab,(∀s,c.rd s=true->bx₂ s=bx s)->∀K':Cl->D->ab->Prop,K' c d (gX c bx' bx₂)->c_ C f ds bx₂ K':=by
 rcases hs with⟨d,hp,me,hK⟩|⟨ds',d,ho,me,hb,hK⟩|⟨ds',d,bC,ho,me,hK⟩|⟨Q,_,_,me,_⟩
 ·refine⟨_,_,_,hK,awN,fun _ _=>rfl,fun bx₂ gV K' ez=>?_⟩;exact .inl ⟨d,hp,me,ez⟩
 ·refine⟨_,_,_,hK,awN,fun _ _=>rfl,fun bx₂ gV K' ez=>?_⟩;have dQ:=funext fun s=>gV s av_;rw[dQ]at ez⊢;exact .inr (.inl ⟨ds',d,ho,me,hb,ez⟩)
 ·refine⟨_,_,_,hK,awN,fun s hs=>avx,fun bx₂ gV K' ez=>?_⟩;have dQ:=funext fun s=>gV s av_;rw[dQ];exact .inr (.inr (.inl ⟨ds',d,bC,ho,me,ez⟩))
 exact awN
def Dr(hT:∀f b ds bx Q Qp,¬C.o.pT f b ds bx Q Qp)(oN:C.yl=none)(xV:C.pn=false)(pN:C.df=false){o:Oper}{K:Cl->Env->ab->Prop}(hs:a_ P C o σ bx K):∃c v bx',K c (put σ o.dst v) bx'/\Eff P C o σ bx c v bx':=by
 obtain⟨dst,op,ty,pos,af,g⟩:=o;unfold a_ at hs;dsimp only at hs;split at hs
 ·rename_i T;split at hs
  ·rename_i d;cases hz:BM (kT (aj P T)) (vL (aj P T) (zeroV P T))with
   |none=>rw[hz]at hs;exact hs.elim
   |some z=>
    rw[hz]at hs;refine⟨_,_,_,hs,⟨awN,fun s hs=>?_,awz,awz,fun σ₂ bx₂ cQ gV K hK=>?_⟩⟩
    ·grind [Cl.wr,ah]
    ·have hd:=gV (C.base+d) av_;rw[xp]at hK;simp only[a_,hz,aJ,hd];exact hK
  exact awN
 ·rename_i T x;split at hs
  ·rename_i d;cases hz:B0 (aj P T) (ev σ x)with
   |none=>rw[hz]at hs;exact hs.elim
   |some z=>
    rw[hz]at hs;refine⟨_,_,_,hs,⟨awN,fun s hs=>?_,awz,awz,fun σ₂ bx₂ cQ gV K hK=>?_⟩⟩
    ·grind [Cl.wr,ah]
    ·have hd:=gV (C.base+d) av_;have hx:=cQ x avl;rw[xp]at hK;simp only[a_,hx,hz,aJ,hd];exact hK
  exact awN
 ·rename_i T x y;cases hz:zN (gZ C.lo (aj P T) bx (ev σ x) (ev σ y)) (vL (aj P T) (zeroV P T)) bx (ev σ x) (ev σ y)with
  |none=>rw[hz]at hs;exact hs.elim
  |some bx'=>
   rw[hz]at hs;obtain⟨h1,h2⟩:=WB hz;refine⟨_,_,_,hs,⟨OQ _,h1,awz,awz,fun σ₂ bx₂ cQ gV K hK=>?_⟩⟩;have hx:=cQ x avl;have hy:=cQ y avl
   grind [a_,aJ]
 ·rename_i T x;cases hz:jh (aj P T) bx (ev σ x)with
  |none=>rw[hz]at hs;exact hs.elim
  |some d=>
   rw[hz]at hs;have hw:∀s,(pE (ev σ x)).wr s=false:=by intro s;cases ev σ x<;>rfl
   refine⟨_,_,_,hs,⟨FF _,fun s _=>rfl,awz,fun _=>hw,fun σ₂ bx₂ cQ gV K hK=>?_⟩⟩;have hx:=cQ x avl
   grind [lG,a_,Ez,aJ]
 ·rename_i args b_;by_cases nw:Lu C.tab dst=true
  ·exact awN
  rw[aaw nw]at hs;cases hz:Lv C.lo (aj P) b_.toList (lL C.base dst) bx (args.toList.map (ev σ))with
  |none=>rw[hz]at hs;exact hs.elim
  |some r=>
   rw[hz]at hs;refine⟨_,_,_,hs,⟨awN,fun s hs=>avx,awz,awz,fun σ₂ bx₂ cQ gV K hK=>?_⟩⟩;have hb:bx₂=bx:=funext fun s=>gV s av_;have hx:args.toList.map (ev σ₂)=args.toList.map (ev σ):=ad8 fun x hx=>cQ x aun;rw[x8]at hK;simp only[a_,hx,hb,aaw nw,hz,aJ];exact hK
 ·rename_i fo args b_;cases hf:ev σ fo with
  |fn f caps=>
   cases f with
   |func f=>
    rw[hf]at hs;have fin:∀σ₂ bx₂,Alike σ σ₂ (.call {callee:=.value fo,args,argTypes:=b_})->∀K:Cl->Env->ab->Prop,c_ C f (args.toList.map (ev σ)++caps) bx₂ (fun c d bx'=>K c (put σ₂ dst d) bx')->a_ P C ⟨dst,.call {callee:=.value fo,args,argTypes:=b_},ty,pos,af,g⟩ σ₂ bx₂ K:=by
     intro σ₂ bx₂ cQ K hK;have hx:args.toList.map (ev σ₂)=args.toList.map (ev σ):=ad8 fun x hx=>cQ x aun;have pO:=cQ fo auu
     grind [a_,gk]
    simp only[gk]at hs;rcases hs with⟨d,hp,me,hK⟩|⟨ds',d,ho,me,hb,hK⟩|⟨ds',d,bC,ho,me,hK⟩|⟨Q,_,_,me,_⟩
    ·refine⟨_,_,_,hK,⟨awN,fun _ _=>rfl,awz,awz,fun σ₂ bx₂ cQ gV K hK=>?_⟩⟩;rw[lG (fun _=>rfl)]at hK;exact fin σ₂ bx₂ cQ K (.inl ⟨d,hp,me,hK⟩)
    ·refine⟨_,_,_,hK,⟨awN,fun _ _=>rfl,awz,awz,fun σ₂ bx₂ cQ gV K' ez=>?_⟩⟩;have dQ:bx₂=bx:=funext fun s=>gV s av_;rw[lG (fun _=>rfl)]at ez;rw[dQ]at ez⊢;exact fin σ₂ bx cQ K' (.inr (.inl ⟨ds',d,ho,me,hb,ez⟩))
    ·refine⟨_,_,_,hK,⟨awN,fun s hs=>avx,awz,awz,fun σ₂ bx₂ cQ gV K' ez=>?_⟩⟩;have dQ:bx₂=bx:=funext fun s=>gV s av_;rw[x8]at ez;rw[dQ];exact fin σ₂ bx cQ K' (.inr (.inr (.inl ⟨ds',d,bC,ho,me,ez⟩)))
    exact awN
   |yield l=>
    rw[hf]at hs;cases caps<;>grind [gk,tv]
   |_=>rw[hf]at hs;exact hs.elim
  |fW f caps=>
   rw[hf]at hs;have fin:∀σ₂ bx₂,Alike σ σ₂ (.call {callee:=.value fo,args,argTypes:=b_})->∀K:Cl->Env->ab->Prop,c_ C f (caps++args.toList.map (ev σ)) bx₂ (fun c d bx'=>K c (put σ₂ dst d) bx')->a_ P C ⟨dst,.call {callee:=.value fo,args,argTypes:=b_},ty,pos,af,g⟩ σ₂ bx₂ K:=by
    intro σ₂ bx₂ cQ K hK;have hx:args.toList.map (ev σ₂)=args.toList.map (ev σ):=ad8 fun x hx=>cQ x aun;have pO:=cQ fo auu
    grind [a_,gk]
   simp only[gk]at hs;rcases hs with⟨d,hp,me,hK⟩|⟨ds',d,ho,me,hb,hK⟩|⟨ds',d,bC,ho,me,hK⟩|⟨Q,_,_,me,_⟩
   ·refine⟨_,_,_,hK,⟨awN,fun _ _=>rfl,awz,awz,fun σ₂ bx₂ cQ gV K hK=>?_⟩⟩;rw[lG (fun _=>rfl)]at hK;exact fin σ₂ bx₂ cQ K (.inl ⟨d,hp,me,hK⟩)
   ·refine⟨_,_,_,hK,⟨awN,fun _ _=>rfl,awz,awz,fun σ₂ bx₂ cQ gV K' ez=>?_⟩⟩;have dQ:bx₂=bx:=funext fun s=>gV s av_;rw[lG (fun _=>rfl)]at ez;rw[dQ]at ez⊢;exact fin σ₂ bx cQ K' (.inr (.inl ⟨ds',d,ho,me,hb,ez⟩))
   ·refine⟨_,_,_,hK,⟨awN,fun s hs=>avx,awz,awz,fun σ₂ bx₂ cQ gV K' ez=>?_⟩⟩;have dQ:bx₂=bx:=funext fun s=>gV s av_;rw[x8]at ez;rw[dQ];exact fin σ₂ bx cQ K' (.inr (.inr (.inl ⟨ds',d,bC,ho,me,ez⟩)))
   exact awN
  |_=>rw[hf]at hs;exact hs.elim
 ·exact awN
 ·exact awN
 ·rename_i T l c;split at hs
  ·rename_i d;cases hz:x9 (aj P) (aj P T) (ev σ l) (ev σ c)with
   |none=>rw[hz]at hs;exact hs.elim
   |some z=>
    rw[hz]at hs;refine⟨_,_,_,hs,⟨awN,fun s hs=>?_,awz,awz,fun σ₂ bx₂ cQ gV K hK=>?_⟩⟩
    ·grind [Cl.wr,ah]
    ·have hd:=gV (C.base+d) av_;have hx:=cQ l avl;have hy:=cQ c avl;rw[xp]at hK;simp only[a_,hx,hy,hz,aJ,hd];exact hK
  exact awN
 ·rename_i op' h1 h2 h3 h4 h5 h6 h7 h8 h9;have bZ:∀σ₂ bx₂ K,a_ P C ⟨dst,op,ty,pos,af,g⟩ σ₂ bx₂ K=gu P C dst op σ₂ bx₂ K:=by simp_all[a_]
  have kY:∀d,cv P σ bx op=some d->(∀σ₂ bx₂ (K:Cl->Env->ab->Prop),cv P σ₂ bx₂ op=some d->K .n (put σ₂ dst d) bx₂->gu P C dst op σ₂ bx₂ K)->K .n (put σ dst d) bx->∃c v bx',K c (put σ dst v) bx'/\Eff P C ⟨dst,op,ty,pos,af,g⟩ σ bx c v bx':=by
   intro d hz hE hq;by_cases hb:∃T n ps,op= .buildSlice T n ps
   ·obtain⟨T,n,ps,rfl⟩:=hb;refine⟨_,_,_,hq,⟨awN,fun _ _=>rfl,fun _=>rfl,fun _ _=>rfl,fun σ₂ bx₂ cQ gV K hK=>?_⟩⟩;have hv:=Bq (P:=P) (bx:=bx) (bx₂:=bx₂) cQ (fun T a=>h4 T a);rw[hz]at hv;rw[lG (fun _=>rfl)]at hK
    exact awN
   ·refine⟨_,_,_,hq,⟨awN,fun _ _=>rfl,fun _=>rfl,fun _ _=>rfl,fun σ₂ bx₂ cQ gV K hK=>?_⟩⟩;have hv:=Bq (P:=P) (bx:=bx) (bx₂:=bx₂) cQ (fun T a=>h4 T a);rw[hz]at hv;rw[lG (fun _=>rfl)]at hK
    exact awN
  clear h1 h2 h3 h4 h5 h6 h7 h8 h9;unfold gu at hs;split at hs
  ·rename_i T m ps;have Ki:∀σ₂,Alike σ σ₂ (.buildSlice T m ps)->(ps.toList.map fun p=>(p.1,ev σ₂ p.2))=ps.toList.map fun p=>(p.1,ev σ p.2):=fun σ₂ cQ=>ad8 fun p hp=>by rw[cQ p.2 (by simp only[Op.operands,aa1];grind)]
   split at hs
   ·rename_i ho;split at hs
    ·rename_i d;cases hz:x6 (aj P) (aj P T) m (ps.toList.map fun p=>(p.1,ev σ p.2))with
     |none=>rw[hz]at hs;exact hs.elim
     |some z=>
      rw[hz]at hs;refine⟨_,_,_,hs,⟨awN,fun s hs=>?_,awz,awz,fun σ₂ bx₂ cQ gV K hK=>?_⟩⟩
      ·grind [Cl.wr,ah]
      ·have hd:=gV (C.base+d) av_;rw[xp]at hK;rw[bZ];unfold gu;simp only[ho,abo,Ki σ₂ cQ,hz,aJ,hd];exact hK
    exact awN
   ·rename_i ho;cases hz:cv P σ bx (.buildSlice T m ps)<;>simp_all[gu,aJ]
  ·rename_i T m k ok;cases hz:x7 P (aj P) (aj P T) bx (ev σ m) (ev σ k) ok with
   |none=>rw[hz]at hs;exact hs.elim
   |some d=>
    rw[hz]at hs;have hw:∀s,(Bh (ev σ m)).wr s=false:=by intro s;cases ev σ m<;>rfl
    refine⟨_,_,_,hs,⟨OP _,fun s _=>rfl,awz,fun _=>hw,fun σ₂ bx₂ cQ gV K hK=>?_⟩⟩;have hx:=cQ m avl;have hy:=cQ k avl;rw[lG hw]at hK;have hl:jI bx₂ (ev σ m)=jI bx (ev σ m):=by cases hm:ev σ m<;>grind [Bh,Cl.rd,jI]
    grind [x7,gu,aJ]
  ·rename_i recv name args b_;unfold qM at hs;split at hs
   ·rename_i t d0 Kk;cases hm:wk P t name with
    |none=>rw[hm]at hs;exact hs.elim
    |some f=>
     rw[hm]at hs;obtain⟨c,d,bx',hK,hnp,fS,qK⟩:=Ux hT (show c_ C f (d0::args.toList.map (ev σ)) bx fun c d bx'=>K c (put σ dst d) bx' from hs);refine⟨_,_,_,hK,⟨hnp,fS,awz,awz,fun σ₂ bx₂ cQ gV K hK=>?_⟩⟩;have hx:args.toList.map (ev σ₂)=args.toList.map (ev σ):=ad8 fun x hx=>cQ x aun;have pO:=cQ recv auu
     grind [gu,qM,aJ]
   exact awN
  ·rename_i op' hb oe zl;split at hs
   ·rename_i og;obtain⟨hgate,bC,hs⟩:=hs;have hnx:nH op=false:=awN
    obtain⟨v,bx',hK,qK⟩:=Zr hnx hs;refine⟨_,_,_,hK,⟨awN,(fun s hs=>avx),(fun h0=>by grind [Rj]),fun h2=>absurd (Rj og hnx) h2,fun σ₂ bx₂ cQ gV K hK=>?_⟩⟩;have dQ:bx₂=bx:=funext fun s=>gV s av_;simp_all[x8,gu]
   ·rename_i og;cases hz:cv P σ bx op with
    |none=>rw[hz]at hs;exact hs.elim
    |some d=>
     rw[hz]at hs;simp_all[gu,aJ]
def HN(oN:C.yl=none)(xV:C.pn=false)(pN:C.df=false){o:Oper}{K:Cl->Env->ab->Prop}(hs:a_ P C o σ bx K):
 ∃R:Cl->D->ab->Prop,(∀c v bx',R c v bx'->K c (put σ o.dst v) bx')/\∀σ₂,Alike σ σ₂ o.op->∀K2:Cl->Env->ab->Prop,(∀c v bx',R c v bx'->K2 c (put σ₂ o.dst v) bx')->a_ P C o σ₂ bx K2:=by
 by_cases hc:∃fo args b_,o.op= .call {callee:=.value fo,args,argTypes:=b_}
 ·obtain⟨fo,args,b_,xU⟩:=hc;obtain⟨dst,op,ty,pos,af,g⟩:=o;dsimp only at xU;subst xU;refine⟨fun c v bx'=>K c (put σ dst v) bx',fun _ _ _ h=>h,fun σ₂ cQ K2 hK=>?_⟩;have hx:args.toList.map (ev σ₂)=args.toList.map (ev σ):=ad8 fun x hx=>cQ x aun;have pO:=cQ fo auu;have dq:gk C (ev σ fo) (args.toList.map (ev σ)) bx fun c d bx'=>K c (put σ dst d) bx':=hs;show gk C (ev σ₂ fo) (args.toList.map (ev σ₂)) bx fun c d bx'=>K2 c (put σ₂ dst d) bx'
  grind [F6]
 ·by_cases hi:∃recv name args b_,o.op= .call {callee:=.invoke recv name,args,argTypes:=b_}
  ·obtain⟨recv,name,args,b_,xU⟩:=hi;obtain⟨dst,op,ty,pos,af,g⟩:=o;dsimp only at xU;subst xU;refine⟨fun c v bx'=>K c (put σ dst v) bx',fun _ _ _ h=>h,fun σ₂ cQ K2 hK=>?_⟩;have hx:args.toList.map (ev σ₂)=args.toList.map (ev σ):=ad8 fun x hx=>cQ x aun;have pO:=cQ recv auu;have dq:qM P C (ev σ recv) name (args.toList.map (ev σ)) bx fun c d bx'=>K c (put σ dst d) bx':=hs;show qM P C (ev σ₂ recv) name (args.toList.map (ev σ₂)) bx fun c d bx'=>K2 c (put σ₂ dst d) bx';rw[hx,pO];unfold qM at dq⊢;split at dq<;>grind [cZ,Ak]
  have hd:∀σ K,a_ P C o σ bx K=a_ P C.wN o σ bx K:=by
   obtain⟨oo,tab,base,aN,lo,yl,pn,df⟩:=C;dsimp only at oN xV pN;subst oN;subst xV;subst pN;obtain⟨dst,op,ty,pos,af,g⟩:=o;intro σ K;cases op with
   |call c=>
    obtain⟨callee,args,b_⟩:=c;cases callee with
    |builtin b=>cases b<;>rfl
    |value fo=>grind
    |invoke recv name=>grind
   |defer c=>
    obtain⟨callee,args,b_⟩:=c;cases callee<;>rfl
   |_=>rfl
  rw[hd]at hs;obtain⟨c,v,bx',hK,he⟩:=Dr (C:=C.wN) (fun _ _ _ _ _ _ h=>h) rfl rfl rfl hs;refine⟨fun c' v' aT=>c'=c/\v'=v/\aT=bx',awN,fun σ₂ cQ K2 zk=>?_⟩;rw[hd];refine he.run σ₂ bx cQ (fun _ _=>rfl) K2 ?_;have hm:gX c bx' bx=bx':=by
   funext s;cases h:c.wr s with
   |true=>simp[gX,h]
   |false=>simp[gX,h,he.same s h]
  exact awN
end Go.V
