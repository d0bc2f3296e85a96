/- Lemmas on plain data and programs: part VM. -/
import Derived.Test.YtkgloohlmogakaaGreatDoorVB
import Derived.MapKept
import Derived.Maps.RangeRun
set_option linter.all false
set_option maxHeartbeats 8000000
namespace Go.V
open Go.RowKit
variable {P:Program} {X:Ctx} {ρ:cM} {σ:Env} {bx:ae} {a:Act} {w:World}
variable {dst:Option Tmp} {ty:TypeId} {pos:String} {af:Array Edge} {g:Option (Nat×Bool)}
theorem aA.W4{o:Obj}{es:List D}(h:aA X ρ σ bx a w)(bF:X.lo=0)(t sz:Nat)(T:TypeId)(ho:oq ρ o es):
 ∃ρ',aA X ρ' σ (ak bx t ⟨(bx t).ep+1,3,sz,T,es⟩) a (w.alloc o)/\ρ' t ((bx t).ep+1)=some ⟨w.heap.size,0,0,0⟩:=by
 have hx:=h.zZ (o:=o) ho.nk.1;have hρ:∀s e q,ρ s e=some q->(if s=t/\e=(bx t).ep+1 then some (Place.mk w.heap.size 0 0 0)else ρ s e)=some q:=by
  intro s e q hq;rw[if_neg]
  ·exact hq
  ·rintro⟨rfl,rfl⟩;have:=h.n9 _ _ _ hq;omega
 have bq:∀s,s≠t->ak bx t ⟨(bx t).ep+1,3,sz,T,es⟩ s=bx s:=fun s hs=>by simp[ak,hs]
 have heq:ak bx t ⟨(bx t).ep+1,3,sz,T,es⟩ t=⟨(bx t).ep+1,3,sz,T,es⟩:=by simp[ak]
 have live:∀s,(lv (ak bx t ⟨(bx t).ep+1,3,sz,T,es⟩ s).k)->s≠t:=by
  intro s hk e;subst e;rw[heq]at hk;exact hk.2 rfl
 have hS:∀b,az X ⟨ρ.at_,fun k=>if k=w.heap.size then some o else ρ.hold k⟩ bx (w.alloc o) b->az X ⟨fun s e=>if s=t/\e=(bx t).ep+1 then some (Place.mk w.heap.size 0 0 0)else ρ s e,fun k=>if k=w.heap.size then some o else ρ.hold k⟩ (ak bx t ⟨(bx t).ep+1,3,sz,T,es⟩) (w.alloc o) b:=by
  intro b hb;refine⟨hb.1,hb.2.1,fun s hs q hq=>?_⟩;have bw:=live s (by rw[hs];decide);rw[bq s bw]at hs hq;simp only[bw,false_and,if_false]at hq;exact hb.2.2 s hs q hq
 refine⟨⟨fun s e=>if s=t/\e=(bx t).ep+1 then some (Place.mk w.heap.size 0 0 0)else ρ s e,fun k=>if k=w.heap.size then some o else ρ.hold k⟩,⟨hx.fr,hx.s0,hx.nb,hx.mb,hx.ec,hx.size,hx.marks.mono (fun _ _=>rfl) hS hρ (fun _ h=>h),hx.pU,hx.rA,fun s=>(hx.tmps s).mono (fun _ _=>rfl) hS hρ,hx.fI.mono (fun _ _=>rfl) hS hρ,fun s hk=>?_,fun s s' p p' hk cT hn hp bJ=>?_,fun s e p hp=>?_,fun s e p hp=>hρ s e p (h.r0 s e p hp),hx.hold,hx.gy,h.yc,h.y0 bF _ _,h.y0,h.kf,⟨fun s hs=>?_,fun s s' p p' hk cT hn hp bJ=>?_⟩⟩,by simp⟩
 ·have bw:=live s hk;rw[bq s bw]at hk⊢;obtain⟨p,hp,h2,h3,h4,h5⟩:=hx.box s hk;exact⟨p,hρ _ _ _ hp,h2,h3,h4,h5.mono rfl (fun _ _=>rfl) hS hρ⟩
 ·have h1:=live s (by rw[hk];decide);have h2:=live s' cT;rw[bq s h1]at hk hp;rw[bq s' h2]at cT bJ;simp only[h1,false_and,if_false]at hp;simp only[h2,false_and,if_false]at bJ;exact h.inj s s' p p' hk cT hn hp bJ
 ·by_cases bw:s=t
  ·subst bw;rw[heq];dsimp only at hp⊢;split at hp
   ·rename_i he;omega
   ·have:=h.n9 _ _ _ hp;omega
  ·rw[bq s bw];simp only[bw,false_and,if_false]at hp;exact h.n9 _ _ _ hp
 ·by_cases bw:s=t
  ·subst bw;rw[heq];refine⟨⟨w.heap.size,0,0,0⟩,o,by simp,by simp,.inr h.fr.size,ho.mono hρ⟩
  ·rw[bq s bw]at hs⊢;obtain⟨p,o1,g1,g2,g3,g4⟩:=hx.maps.has s hs;exact⟨p,o1,hρ _ _ _ g1,g2,g3,g4.mono hρ⟩
 ·have xN:∀s p,s≠t->(ak bx t ⟨(bx t).ep+1,3,sz,T,es⟩ s).k=3->(if s=t/\(ak bx t ⟨(bx t).ep+1,3,sz,T,es⟩ s).ep=(bx t).ep+1 then some (Place.mk w.heap.size 0 0 0)else ρ s (ak bx t ⟨(bx t).ep+1,3,sz,T,es⟩ s).ep)=some p->(bx s).k=3/\ρ s (bx s).ep=some p/\p.b<w.heap.size:=by
   intro s p bw hk hp;rw[bq s bw]at hk hp;simp only[bw,false_and,if_false]at hp;obtain⟨q,o1,g1,g2,_⟩:=h.maps.has s hk;rw[hp]at g1;injection g1 with g1;subst g1;exact⟨hk,hp,(Array.getElem?_eq_some_iff.1 (h.hold _ _ g2).1).1⟩
  have new:∀p,(if t=t/\(ak bx t ⟨(bx t).ep+1,3,sz,T,es⟩ t).ep=(bx t).ep+1 then some (Place.mk w.heap.size 0 0 0)else ρ t (ak bx t ⟨(bx t).ep+1,3,sz,T,es⟩ t).ep)=some p->p.b=w.heap.size:=by
   intro p hp;rw[heq]at hp;simp only[and_self,if_true,sJ]at hp;rw[<-hp]
  by_cases h1:s=t
  ·subst h1;have e1:=new p hp;obtain⟨_,_,e2⟩:=xN s' p' (Ne.symm hn) cT bJ;omega
  ·obtain⟨a1,a2,a3⟩:=xN s p h1 hk hp;by_cases h2:s'=t
   ·subst h2;have e2:=new p' bJ;omega
   ·obtain⟨b1,b2,b3⟩:=xN s' p' h2 cT bJ;exact h.maps.inj s s' p p' a1 b1 hn a2 b2
theorem aA.fM{t:Nat}{p:Place}{o o':Obj}{es':List D}(h:aA X ρ σ bx a w)(bF:X.lo=0)(hk:(bx t).k=3)(hp:ρ t (bx t).ep=some p)(hb:ρ.hold p.b=some o)(ho:oq ρ o' es')
 {w':World} (hw:Fr (fun k=>k=p.b) w w') (j_:w'.heap[p.b]? =some o'):
 aA X ⟨ρ.at_,fun k=>if k=p.b then some o' else ρ.hold k⟩ σ (V.fM bx t es') a w':=by
 obtain⟨q,o1,q1,q2,hE,q4⟩:=h.maps.has t hk;rw[hp]at q1;injection q1 with q1;subst q1;rw[hb]at q2;injection q2 with q2;subst q2;have h0:X.r0.hold p.b=none\/X.E p.b:=by
  rcases hE with hE|hE
  ·exact .inr hE
  ·left;cases hr:X.r0.hold p.b with
   |none=>rfl
   |some o2=>have:=h.kf _ _ hr;omega
 obtain⟨g1,g2⟩:=h.hold p.b o hb;have fL:∀k,mJ w w' k:=by
  intro k o1 dV hc;refine(hw.block k (Array.getElem?_eq_some_iff.1 dV).1 (fun e=>?_)).trans dV;subst e;rw[g1]at dV;injection dV with dV;subst dV;rw[g2]at hc;cases hc
 have iT:∀s,(V.fM bx t es' s).k=(bx s).k/\(V.fM bx t es' s).ep=(bx s).ep:=fun s=>by
  unfold V.fM;by_cases hs:s=t
  ·subst hs;simp[ak]
  ·simp[ak,hs]
 have yH:∀s,s≠t->V.fM bx t es' s=bx s:=fun s hs=>by simp[V.fM,ak,hs]
 have wE:∀s,lv (bx s).k->s≠t:=fun s hs e=>by subst e;rw[hk]at hs;exact hs.2 rfl
 have hS:∀k,az X ρ bx w k->az X ⟨ρ.at_,fun k=>if k=p.b then some o' else ρ.hold k⟩ (V.fM bx t es') w' k:=fun k hk=>⟨Nat.lt_of_lt_of_le hk.1 hw.size,hk.2.1,fun s hs q hq=>by
  rw[(iT s).1]at hs;rw[(iT s).2]at hq;exact hk.2.2 s hs q hq⟩
 refine⟨h.fr.step hw (fun n hn hm=>?_),h.s0,h.nb,h.mb,h.ec,h.size,h.marks.fc (fun k _=>fL k) hS (fun _ _ _ h=>h) (fun r _ hr=>?_),h.pU,h.rA,fun t=>(h.tmps t).fc (fun k _=>fL k) hS (fun _ _ _ h=>h),h.fI.fc (fun k _=>fL k) hS (fun _ _ _ h=>h),fun s hs=>?_,fun s s' q q' hs dW hn hq jG=>?_,fun s e q hq=>?_,h.r0,fun k o1 dV=>?_,fun k o1 dV xK=>?_,h.yc,h.y0 bF _ _,h.y0,h.kf,⟨fun s hs=>?_,fun s s' q q' hs dW hn hq jG=>?_⟩⟩
 ·subst hm;rcases hE with h1|h1
  ·exact .inr h1
  ·omega
 ·show(if r=p.b then some o' else ρ.hold r)=_;rw[if_neg]
  ·exact hr
  ·intro e;subst e;rw[hb]at hr;injection hr with hr;exact q4.nk.2 _ hr
 ·rw[(iT s).1]at hs;rw[yH s (wE s hs)];obtain⟨q,hq,h2,h3,h4,h5⟩:=h.box s hs;exact⟨q,hq,h2,h3,h4,h5.fc (fL _) (fun k _=>fL k) hS (fun _ _ _ h=>h)⟩
 ·rw[(iT s).1]at hs;rw[(iT s').1]at dW;rw[(iT s).2]at hq;rw[(iT s').2]at jG;exact h.inj s s' q q' hs dW hn hq jG
 ·rw[(iT s).2];exact h.n9 s e q hq
 ·by_cases e:k=p.b
  ·subst e;simp only[if_true,sJ]at dV;subst dV;exact⟨j_,ho.nk.1⟩
  ·simp only[e,if_false]at dV;obtain⟨k1,k2⟩:=h.hold k o1 dV;exact⟨(hw.block k (Array.getElem?_eq_some_iff.1 k1).1 e).trans k1,k2⟩
 ·show(if k=p.b then some o' else ρ.hold k)=_;by_cases e:k=p.b
  ·subst e;rcases h0 with h1|h1
   ·rw[dV]at h1;cases h1
   ·exact absurd h1 xK
  ·rw[if_neg e];exact h.gy k o1 dV xK
 ·rw[(iT s).1]at hs;rw[(iT s).2];by_cases bw:s=t
  ·subst bw;refine⟨p,o',hp,by simp,hE,?_⟩;have e:(V.fM bx s es' s).es=es':=by simp[V.fM,ak]
   rw[e];exact ho.mono (ρ':=⟨ρ.at_,_⟩) (fun _ _ _ h=>h)
  ·obtain⟨q,o2,k1,k2,k3,k4⟩:=h.maps.has s hs;rw[yH s bw];refine⟨q,o2,k1,?_,k3,k4.mono (ρ':=⟨ρ.at_,_⟩) (fun _ _ _ h=>h)⟩;show(if q.b=p.b then some o' else ρ.hold q.b)=_;rw[if_neg (h.maps.inj s t q p hs hk bw k1 hp)];exact k2
 ·rw[(iT s).1]at hs;rw[(iT s').1]at dW;rw[(iT s).2]at hq;rw[(iT s').2]at jG;exact h.maps.inj s s' q q' hs dW hn hq jG
def rW(w:World)(b:Nat)(o:Obj):World:={w with heap:=w.heap.setIfInBounds b o}
def zo{w:World}{b:Nat}{o:Obj}(h:b<w.heap.size):(rW w b o).heap[b]? =some o:=by simp[rW,h]
def D_(w:World)(b:Nat)(o:Obj):Fr (fun k=>k=b) w (rW w b o):=⟨rfl,rfl,rfl,by simp[rW],fun k _ hk=>by simp[rW,Ne.symm hk]⟩
theorem gf.len{ds:List D}{es:List MapEntry}(h:gf ds es):ds.length=es.length:=by
 induction h with
 |nil=>rfl
 |cons _ _ _ ih=>simp[ih]
theorem gf.snoc{ds:List D}{es:List MapEntry}{k v:D}{e:MapEntry}(h:gf ds es)(hk:fT k e.key)(hv:fT v e.val):gf (ds++[.aL [k,v,.int .i64 (e.born:Int)]]) (es++[e]):=by
 induction h with
 |nil=>exact .cons hk hv .nil
 |cons h1 h2 _ ih=>exact .cons h1 h2 ih
theorem gf.put{ds:List D}{es:List MapEntry}{k v:D}{kv vv:Value}(h:gf ds es)(hk:fT k kv)(hv:fT v vv)(j:Nat):gf (ds.modify j (Bz k v)) (es.modify j fun e=>{e with key:=kv,val:=vv}):=by
 induction h generalizing j with
 |nil=>simpa using gf.nil
 |@cons k' v' e' _ _ h1 h2 t ih=>
  cases j with
  |zero=>simpa[Bz]using gf.cons (e:={e' with key:=kv,val:=vv}) hk hv t
  |succ j=>simpa using gf.cons h1 h2 (ih j)
theorem gf.erase{ds:List D}{es:List MapEntry}(h:gf ds es)(j:Nat):gf (ds.eraseIdx j) (es.eraseIdx j):=by
 induction h generalizing j with
 |nil=>simpa using gf.nil
 |cons h1 h2 t ih=>
  cases j with
  |zero=>simpa using t
  |succ j=>simpa using gf.cons h1 h2 (ih j)
theorem gf.mem{ds:List D}{es:List MapEntry}(h:gf ds es):∀e∈es,∃k v,fT k e.key/\fT v e.val/\D.aL [k,v,.int .i64 (e.born:Int)]∈ds:=by
 induction h with
 |nil=>intro e he;cases he
 |cons h1 h2 t ih=>
  intro e he;rcases List.mem_cons.1 he with rfl|he
  ·exact⟨_,_,h1,h2,List.mem_cons_self ..⟩
  ·obtain⟨k,v,g1,g2,g3⟩:=ih e he;exact⟨k,v,g1,g2,List.mem_cons_of_mem _ g3⟩
theorem gf.W2{ds:List D}{es:List MapEntry}(h:gf ds es):∀d∈ds,∃e∈es,∃k v,d= .aL [k,v,.int .i64 (e.born:Int)]:=by
 induction h with
 |nil=>intro e he;cases he
 |cons h1 h2 t ih=>
  intro d hd;rcases List.mem_cons.1 hd with rfl|hd
  ·exact⟨_,List.mem_cons_self ..,_,_,rfl⟩
  ·obtain⟨e,he,k,v,g⟩:=ih d hd;exact⟨e,List.mem_cons_of_mem _ he,k,v,g⟩
theorem gf.find{ds:List D}{es:List MapEntry}(h:gf ds es)(n:Nat){d:D}(hd:ds.find? (fun e=>gQ e==(n:Int))=some d):∃e k v,es.find? (fun e=>e.born==n)=some e/\d= .aL [k,v,.int .i64 (e.born:Int)]/\fT k e.key/\fT v e.val:=by
 induction h with
 |nil=>simp at hd
 |@cons k v e ds es h1 h2 t ih=>
  simp only[List.find?_cons]at hd⊢;have e1:(gQ (.aL [k,v,.int .i64 (e.born:Int)])==(n:Int))=(e.born==n):=by
   show((e.born:Int)==(n:Int))=_;rw[Bool.eq_iff_iff];simp only[beq_iff_eq];omega
  rw[e1]at hd;split at hd
  ·rename_i hb;injection hd with hd;exact⟨e,k,v,rfl,hd.symm,h1,h2⟩
  ·exact ih hd
def descOf:TK->TypeDesc
 | .int k=> .int k
 | .str=> .string
 |_=> .bool
def wI{t:TypeId}{k:D}{kv:Value}(h:mQ (an P t).k k=true)(hk:fT k kv):P.underlying t=some (descOf (an P t).k)/\MapKept.IsKey (descOf (an P t).k) kv:=by
 unfold mQ at h;split at h
 ·rename_i j k' n hj;simp only[decide_eq_true_eq]at h;subst h;rw[hj];exact⟨uc hj,by cases hk;rfl⟩
 ·rename_i hj;rw[hj];exact⟨qa hj,by cases hk;trivial⟩
 ·rename_i hj;rw[hj];exact⟨Kt hj,by cases hk;trivial⟩
 ·cases h
def Oz{tk:TK}{k k':D}{u u':Value}{b:Bool}(h:mV tk k k'=some b)(hk:fT k u)(cT:fT k' u'):Instr.sameNow (descOf tk) u u'=some b/\(b=true->u'=u):=by
 unfold mV at h;split at h
 ·split at h
  ·rename_i he;subst he;injection h with h;cases hk;cases cT;refine⟨by simp[descOf,Instr.sameNow,h],fun hb=>?_⟩;rw[hb]at h;rw[eq_of_beq h]
  ·cases h
 ·injection h with h;cases hk;cases cT;rename_i x y;have e:((⟨x.toArray⟩:ByteArray)==⟨y.toArray⟩)=(x==y):=by
   rw[Bool.eq_iff_iff,MapKept.bytes_beq,beq_iff_eq];constructor
   ·intro h;injection h with h;simpa using h
   ·rintro rfl;rfl
  refine⟨by simp only[descOf,Instr.sameNow,e,h],fun hb=>?_⟩;rw[hb]at h;rw[eq_of_beq h]
 ·injection h with h;cases hk;cases cT;refine⟨by simp[descOf,Instr.sameNow,h],fun hb=>?_⟩;rw[hb]at h;rw[eq_of_beq h]
 ·cases h
theorem yj{tk:TK}{k:D}{kv:Value}(hk:fT k kv){ds:List D}{es:List MapEntry}(he:gf ds es):∀(i:Nat) r,fb tk k ds i=some r->
 (r=none/\Instr.findNow (descOf tk) kv es i=some none)\/∃j v e,r=some (i+j,v)/\Instr.findNow (descOf tk) kv es i=some (some (i+j,e.val))/\fT v e.val/\es[j]? =some e/\e.key=kv:=by
 induction he with
 |nil=>intro i r h;injection h with h;exact .inl ⟨h.symm,rfl⟩
 |@cons k' v e ds es h1 h2 t ih=>
  intro i r h;unfold fb at h;cases hs:mV tk k k' with
  |none=>rw[hs]at h;cases h
  |some b=>
   obtain⟨g1,g2⟩:=Oz hs hk h1;rw[hs]at h;cases b with
   |true=>
    injection h with h;exact .inr ⟨0,v,e,h.symm,by simp[Instr.findNow,g1],h2,rfl,g2 rfl⟩
   |false=>
    rcases ih (i+1) r h with⟨q1,q2⟩|⟨j,v',e',q1,q2,q3,q4,q5⟩
    ·exact .inl ⟨q1,by simp[Instr.findNow,g1,q2]⟩
    ·exact .inr ⟨j+1,v',e',by rw[q1];simp only[sJ,Prod.mk.injEq,and_true];omega,by simp only[Instr.findNow,g1,q2];simp only[sJ,Prod.mk.injEq,and_true];omega,q3,by simpa using q4,q5⟩
theorem zD{t kt et:Nat}(h:(an P t).k= .map kt et):P.underlying t=some (.map kt et):=by
 simp only[an]at h;cases hu:P.underlying t with
 |none=>simp[hu]at h
 |some d=>cases d<;>simp[hu]at h⊢;exact h
theorem aH.Hk{S:Nat->Prop}{t e:Nat}{v:Value}(h:aH w S ρ (.omap t e) v):∃p,ρ t e=some p/\v= .map (some p.b):=by
 cases h with
 |pure h=>cases h
 |omap hp=>exact⟨_,hp,rfl⟩
def nr(h:aA X ρ σ bx a w){m:D}{vm:Value}{r:Nat×Int×List D}(hm:iW bx m=some r)(hv:aH w (az X ρ bx w) ρ m vm):
 ∃p en clock,(bx r.1).k=3/\ρ r.1 (bx r.1).ep=some p/\vm= .map (some p.b)/\ρ.hold p.b=some (.map en clock)/\w.heap[p.b]? =some (.map en clock)/\r.2.1=(clock:Int)/\gf r.2.2 en.toList:=by
 unfold iW at hm;split at hm
 ·rename_i t e;split at hm
  ·rename_i hc;obtain⟨he,hk⟩:=hc;obtain⟨p,o,g1,g2,g3,g4⟩:=h.maps.has t hk;obtain⟨q,k1,rfl⟩:=hv.Hk;rw[<-he,g1]at k1;injection k1 with k1;subst k1;have gw:=(h.hold _ _ g2).1;generalize(bx t).es=es at hm g4;unfold CW at hm;split at hm
   ·injection hm with hm;subst hm;generalize hx:D.int .i64 _::_=l at g4;cases g4 with
    |@map en clock es hE=>
     injection hx with h1 h2;injection h1 with h1 h3;subst h2;subst h3;exact⟨p,en,clock,hk,g1,rfl,g2,gw,rfl,hE⟩
    |iter=>injection hx with h1 h2;cases h1
   ·cases hm
  ·cases hm
 ·cases hm
def CQ(h:aA X ρ σ bx a w){x:D}{vx:Value}{r:Nat×D×Int×Int×List D}(hm:iterAt bx x=some r)(hv:aH w (az X ρ bx w) ρ x vx):
 ∃p pm since last seen,(bx r.1).k=3/\ρ r.1 (bx r.1).ep=some p/\vx= .pointer (some ⟨p.b,0,none⟩)/\ρ.hold p.b=some (.mapIter (some pm) since seen last)/\w.heap[p.b]? =some (.mapIter (some pm) since seen last)/\
  aH w (az X ρ bx w) ρ r.2.1 (.map (some pm))/\(∃m k q,r.2.1= .omap m k/\ρ m k=some q/\q.b=pm)/\r.2.2.1=(since:Int)/\r.2.2.2.1=(last:Int)/\r.2.2.2.2=seen.toList.map fun n:Nat=>D.int .i64 (n:Int):=by
 unfold iterAt at hm;split at hm
 ·rename_i t e;split at hm
  ·rename_i hc;obtain⟨he,hk⟩:=hc;obtain⟨p,o,g1,g2,g3,g4⟩:=h.maps.has t hk;obtain⟨q,k1,rfl⟩:=hv.lJ;rw[<-he,g1]at k1;injection k1 with k1;subst k1;have gw:=(h.hold _ _ g2).1;generalize(bx t).es=es at hm g4;unfold yR at hm;split at hm
   ·injection hm with hm;subst hm;generalize hx:D.omap _ _::_=l at g4;cases g4 with
    |map=>injection hx with h1 h2;cases h1
    |@iter m k pm since last seen hp=>
     injection hx with h1 h2;injection h2 with h3 h4;injection h4 with h5 h6;injection h1 with a1 a2;injection h3 with b1 b2;injection h5 with c1 c2;subst a1;subst a2;subst b2;subst c2;subst h6;exact⟨p,pm.b,since,last,seen,hk,g1,by simp,g2,gw,.omap hp,⟨_,_,pm,rfl,hp,rfl⟩,rfl,rfl,rfl⟩
   ·cases hm
  ·cases hm
 ·cases hm
theorem Ml{t:TypeId}{z:D}(hz:zeroV P t=some z)(w:World)(S:Nat->Prop):∃v,(zeroValue t).run P w= .ok v w/\br w S z v:=by
 unfold zeroV at hz;cases hi:P.info? t with
 |none=>simp[hi]at hz
 |some i=>
  cases h0:i.zero with
  |none=>simp[hi,h0]at hz
  |some v=>
   simp only[hi,h0,Option.bind_some,Option.map_some,sJ]at hz;subst hz;exact⟨v,by simp[zeroValue,typeInfo,hi,h0,go_sem],Ea v⟩
def Lr(h:aA X ρ σ bx a w){T:TypeId}{m k:Operand}{ok:Bool}{d:D}(hv:sE P (an P) (an P T) bx (ev σ m) (ev σ k) ok=some d):Yields P X ρ bx a w ⟨dst,.lookup T m k ok,ty,pos,af,g⟩ d:=by
 have hm:=h.ev m;have hk:=h.ev k;generalize ev σ m=dm at hv hm;generalize ev σ k=dk at hv hk;unfold sE at hv;split at hv
 ·rename_i kt et hT;split at hv
  ·rename_i oA;simp only[Option.bind_eq_some_iff]at hv;obtain⟨r,hr,hv⟩:=hv;obtain⟨p,en,clock,_,_,vD,_,hw,_,hE⟩:=nr h hr hm;have AG:fT dk (a.eval k):=hk.simple (by
    unfold mQ at oA;split at oA<;>first|rfl|cases oA)
   obtain⟨hu,CD⟩:=wI oA AG;cases hf:fb (an P kt).k dk r.2.2 0 with
   |none=>rw[hf]at hv;cases hv
   |some q=>
    rw[hf]at hv;have rT:=zD hT;rcases yj AG hE 0 q hf with⟨rfl,hn⟩|⟨j,v,e,rfl,hn,He,hj,Qb⟩
    ·simp only[r8,mS]at hv;obtain⟨z,hz,rfl⟩:=hv;obtain⟨zv,hzr,hzp⟩:=Ml hz w (az X ρ bx w);have bR:(Instr.lookup T (a.eval m) (a.eval k) ok).run P w= .ok (if ok then .tuple #[zv,.bool false]else zv) w:=by
      rw[vD];simp only[Instr.lookup,Sem.run_bind,run_underlying rT,Result.andThen,MapKept.run_getObj_map hw,Sem.run_pure,MapKept.run_checkKey hu CD,MapKept.run_findKey hu hn,hzr]
     refine aQ (if ok then .tuple #[zv,.bool false]else zv) (by simp only[execOp,Sem.run_bind,bR,Result.andThen_ok,Sem.run_pure]) ?_;cases ok with
     |false=>exact .pure hzp
     |true=>
      refine .pure (.aL rfl fun i d v hd hv=>?_)
      match i with
      |0=>simp at hd hv;subst hd;subst hv;exact hzp
      |1=>simp at hd hv;subst hd;subst hv;exact .bool false
      |i+2=>simp at hd
    ·simp only[r8,sJ]at hv;subst hv;have bR:(Instr.lookup T (a.eval m) (a.eval k) ok).run P w= .ok (if ok then .tuple #[e.val,.bool true]else e.val) w:=by
      rw[vD];simp only[Instr.lookup,Sem.run_bind,run_underlying rT,Result.andThen,MapKept.run_getObj_map hw,Sem.run_pure,MapKept.run_checkKey hu CD,MapKept.run_findKey hu hn]
     refine aQ (if ok then .tuple #[e.val,.bool true]else e.val) (by simp only[execOp,Sem.run_bind,bR,Result.andThen_ok,Sem.run_pure]) ?_;cases ok with
     |false=>exact .pure He.rep
     |true=>
      refine .pure (.aL rfl fun i d v hd hv=>?_)
      match i with
      |0=>simp at hd hv;subst hd;subst hv;exact He.rep
      |1=>simp at hd hv;subst hd;subst hv;exact .bool true
      |i+2=>simp at hd
  ·cases hv
 ·cases hv
def ON(h:aA X ρ σ bx a w)(bF:X.lo=0){T:TypeId}{m k v:Operand}{bx':ae}(hv:zE (an P) (an P T) bx (ev σ m) (ev σ k) (ev σ v)=some bx'):
 ∃w' ρ',(execOp a.eval ⟨dst,.mapUpdate T m k v,ty,pos,af,g⟩).run P w= .ok .skip w'/\aA X ρ' σ bx' a w':=by
 have hm:=h.ev m;have hk:=h.ev k;have hvv:=h.ev v;generalize ev σ m=dm at hv hm;generalize ev σ k=dk at hv hk;generalize ev σ v=dv at hv hvv;unfold zE at hv;split at hv
 ·rename_i kt et hT;split at hv
  ·rename_i oA;obtain⟨oA,He⟩:=oA;simp only[Option.bind_eq_some_iff,mS]at hv;obtain⟨r,hr,es',hU,rfl⟩:=hv;obtain⟨p,en,clock,h3,hp,vD,EP,hw,fJ,hE⟩:=nr h hr hm;have AG:fT dk (a.eval k):=hk.simple (by
    unfold mQ at oA;split at oA<;>first|rfl|cases oA)
   have He:=hvv.simple He;obtain⟨hu,CD⟩:=wI oA AG;have rT:=zD hT;have ar:=(Array.getElem?_eq_some_iff.1 hw).1;have fin:∀(sn:Array MapEntry) (c':Nat),gf es'.tail sn.toList->es'= .int .i64 (c':Int)::es'.tail->(Instr.mapUpdate T (a.eval m) (a.eval k) (a.eval v)).run P w= .ok () (rW w p.b (.map sn c'))->
    ∃w' ρ',(execOp a.eval ⟨dst,.mapUpdate T m k v,ty,pos,af,g⟩).run P w= .ok .skip w'/\aA X ρ' σ (V.fM bx r.1 es') a w':=by
    intro sn c' Cw he bR;refine⟨rW w p.b (.map sn c'),_,by simp only[execOp,Sem.run_bind,bR,Result.andThen_ok,Sem.run_pure],h.fM bF h3 hp EP (es':=es') ?_ (D_ w p.b _) (zo ar)⟩;rw[he];exact .map Cw
   unfold ot at hU;cases hf:fb (an P kt).k dk r.2.2 0 with
   |none=>rw[hf]at hU;cases hU
   |some q=>
    rw[hf]at hU;rcases yj AG hE 0 q hf with⟨rfl,hn⟩|⟨j,v0,e,rfl,hn,_,hj,Qb⟩
    ·injection hU with hU;subst hU;refine fin (en.push {key:=a.eval k,val:=a.eval v,born:=clock}) (clock+1) ?_ (by rw[fJ];rfl) ?_
     ·rw[fJ,Array.toList_push];exact hE.snoc (e:={key:=a.eval k,val:=a.eval v,born:=clock}) AG He
     ·rw[vD];simp only[Instr.mapUpdate,Sem.run_bind,run_underlying rT,Result.andThen,MapKept.run_getObj_map hw,MapKept.run_checkKey hu CD,MapKept.run_findKey hu hn,MapKept.run_setObj_map _ hw];rfl
    ·injection hU with hU;subst hU;rw[Nat.zero_add]at *;have pj:en[j]? =some e:=by simpa using hj
     refine fin (en.modify j fun e=>{e with key:=a.eval k,val:=a.eval v}) clock ?_ (by rw[fJ];rfl) ?_
     ·rw[Array.toList_modify];exact hE.put AG He j
     ·rw[vD];simp only[Instr.mapUpdate,Sem.run_bind,run_underlying rT,Result.andThen,MapKept.run_getObj_map hw,MapKept.run_checkKey hu CD,MapKept.run_findKey hu hn,pj,Option.map_some,Option.getD_some,Qb,MapKept.run_keyThatStays CD,MapKept.run_setObj_map _ hw];rfl
  ·cases hv
 ·cases hv
def MZ(h:aA X ρ σ bx a w)(bF:X.lo=0){args:Array Operand}{cx:Array TypeId}{bx':ae}(hv:zR (an P) cx.toList bx (args.toList.map (ev σ))=some bx'):
 ∃w' ρ',(execOp a.eval ⟨dst,.call {callee:=.builtin .delete,args:=args,argTypes:=cx},ty,pos,af,g⟩).run P w= .ok (.value (.tuple #[])) w'/\aA X ρ' σ bx' a w':=by
 obtain⟨cx⟩:=cx;obtain⟨args⟩:=args;unfold zR at hv;dsimp only at hv;split at hv
 case h_2=>cases hv
 rename_i T tl m' k' jI
 match args,jI with
 |[m,k],jI=>
 simp only[mC,List.map_nil,List.cons.injEq,and_true]at jI;obtain⟨rfl,rfl⟩:=jI;have hm:=h.ev m;have hk:=h.ev k;generalize ev σ m=dm at hv hm;generalize ev σ k=dk at hv hk;unfold KP at hv;split at hv
 ·rename_i kt et hT;split at hv
  ·rename_i oA;simp only[Option.bind_eq_some_iff,mS]at hv;obtain⟨r,hr,es',hU,rfl⟩:=hv;obtain⟨p,en,clock,h3,hp,vD,EP,hw,fJ,hE⟩:=nr h hr hm;have AG:fT dk (a.eval k):=hk.simple (by
    unfold mQ at oA;split at oA<;>first|rfl|cases oA)
   obtain⟨hu,CD⟩:=wI oA AG;have rT:=zD hT;have ar:=(Array.getElem?_eq_some_iff.1 hw).1;have fin:∀(sn:Array MapEntry),gf es'.tail sn.toList->es'= .int .i64 (clock:Int)::es'.tail->(Builtin.delete_ (T::tl).toArray ty #[a.eval m,a.eval k]).run P w= .ok (.tuple #[]) (rW w p.b (.map sn clock))->
    ∃w' ρ',(execOp a.eval ⟨dst,.call {callee:=.builtin .delete,args:=[m,k].toArray,argTypes:=(T::tl).toArray},ty,pos,af,g⟩).run P w= .ok (.value (.tuple #[])) w'/\aA X ρ' σ (V.fM bx r.1 es') a w':=by
    intro sn Cw he bR;refine⟨rW w p.b (.map sn clock),_,?_,h.fM bF h3 hp EP (es':=es') ?_ (D_ w p.b _) (zo ar)⟩
    ·simp only[execOp,resolve,invoke,builtin,Sem.run_bind,Sem.run_pure,Result.andThen_ok,bR,List.map_toArray,mC,List.map_nil]
    ·rw[he];exact .map Cw
   unfold Gu at hU;cases hf:fb (an P kt).k dk r.2.2 0 with
   |none=>rw[hf]at hU;cases hU
   |some q=>
    rw[hf]at hU;rcases yj AG hE 0 q hf with⟨rfl,hn⟩|⟨j,v0,e,rfl,hn,_,hj,Qb⟩
    ·injection hU with hU;subst hU;refine fin en hE (by rw[fJ];rfl) ?_;rw[vD];simp only[Builtin.delete_,Sem.run_bind,run_underlying rT,Result.andThen,MapKept.run_getObj_map hw,MapKept.run_checkKey hu CD,MapKept.run_findKey hu hn,MapKept.run_setObj_map _ hw,List.getElem?_toArray,List.getElem?_cons_zero,List.getElem?_cons_succ,Sem.run_pure];rfl
    ·injection hU with hU;subst hU;rw[Nat.zero_add]at *;refine fin (en.eraseIdxIfInBounds j) ?_ (by rw[fJ];rfl) ?_
     ·have ar:j<en.size:=by have:=(gS.1 hj).1;simpa using this
      simp only[Array.eraseIdxIfInBounds,ar,dite_true,Array.toList_eraseIdx];exact hE.erase j
     ·rw[vD];simp only[Builtin.delete_,Sem.run_bind,run_underlying rT,Result.andThen,MapKept.run_getObj_map hw,MapKept.run_checkKey hu CD,MapKept.run_findKey hu hn,MapKept.run_setObj_map _ hw,List.getElem?_toArray,List.getElem?_cons_zero,List.getElem?_cons_succ,Sem.run_pure];rfl
  ·cases hv
 ·cases hv
def Lo(h:aA X ρ σ bx a w){args:Array Operand}{cx:Array TypeId}{d:D}(hk:∃T kt et,cx.toList=[T]/\(an P T).k= .map kt et)(hv:Bh bx (args.toList.map (ev σ))=some d):
 ∃v,(execOp a.eval ⟨dst,.call {callee:=.builtin .len,args:=args,argTypes:=cx},ty,pos,af,g⟩).run P w= .ok (.value v) w/\aH w (az X ρ bx w) ρ d v:=by
 obtain⟨cx⟩:=cx;obtain⟨args⟩:=args;obtain⟨T,kt,et,rfl,hT⟩:=hk;unfold Bh at hv;dsimp only at hv;split at hv
 case h_2=>cases hv
 rename_i m' jI
 match args,jI with
 |[m],jI=>
 simp only[mC,List.map_nil,List.cons.injEq,and_true]at jI;subst jI;simp only[mS]at hv;obtain⟨r,hr,rfl⟩:=hv;obtain⟨p,en,clock,h3,hp,vD,EP,hw,fJ,hE⟩:=nr h hr (h.ev m);refine⟨.int .i64 (en.size:Int),?_,?_⟩
 ·have rT:=zD hT;have bR:(Builtin.len_ [T].toArray ty #[a.eval m]).run P w= .ok (.int .i64 (en.size:Int)) w:=by
   rw[vD];simp only[Builtin.len_,Sem.run_bind,MapKept.run_getObj_map hw,run_underlying rT,Result.andThen,List.getElem?_toArray,List.getElem?_cons_zero];rfl
  simp only[execOp,resolve,invoke,builtin,Sem.run_bind,Sem.run_pure,Result.andThen_ok,bR,List.map_toArray,mC,List.map_nil]
 ·rw[hE.len,Array.length_toList];exact .pure (.int _ _)
def FC(h:aA X ρ σ bx a w)(bF:X.lo=0){T d s:Nat}(hd:d<X.N):
 ∃v w',(execOp a.eval ⟨some d,.makeMap T none,ty,pos,af,g⟩).run P w= .ok (.value v) w'/\
  ∃ρ',aA X ρ' (ak σ d (.omap s ((bx s).ep+1))) (ak bx s ⟨(bx s).ep+1,3,0,T,[.int .i64 0]⟩) (a.put (some d) v) w':=by
 obtain⟨ρ',h',hp⟩:=h.W4 (o:=.map #[] 0) (es:=[.int .i64 0]) bF s 0 T (.map (clock:=0) .nil);refine⟨.map (some w.heap.size),w.alloc (.map #[] 0),?_,ρ',h'.put (dst:=some d) (fun t ht=>by injection ht with ht;subst ht;exact hd) (.omap hp)⟩;simp[execOp,Instr.makeMap,Result.andThen]
def H_(h:aA X ρ σ bx a w)(bF:X.lo=0){T d s:Nat}{x:Operand}(hd:d<X.N){es:List D}(hv:BD (an P T) bx (ev σ x)=some es):
 ∃v w',(execOp a.eval ⟨some d,.range T x,ty,pos,af,g⟩).run P w= .ok (.value v) w'/\
  ∃ρ',aA X ρ' (ak σ d (.loc s ((bx s).ep+1) 0 0)) (ak bx s ⟨(bx s).ep+1,3,0,0,es⟩) (a.put (some d) v) w':=by
 have hx:=h.ev x;generalize ev σ x=dx at hv hx;unfold BD at hv;split at hv
 ·rename_i kt et hT;simp only[mS]at hv;obtain⟨r,hr,rfl⟩:=hv;obtain⟨p,en,clock,h3,hp,vD,EP,hw,fJ,hE⟩:=nr h hr hx;have hdx:∃t e,dx= .omap t e:=by
   unfold iW at hr;split at hr
   ·exact⟨_,_,rfl⟩
   ·cases hr
  obtain⟨t,e,rfl⟩:=hdx;obtain⟨q,k1,k2⟩:=hx.Hk;have hq:q.b=p.b:=by rw[vD]at k2;injection k2 with k2;injection k2 with k2;exact k2.symm
  obtain⟨ρ',h',bJ⟩:=h.W4 (o:=.mapIter (some q.b) clock #[] clock) (es:=[.omap t e,.int .i64 r.2.1,.int .i64 r.2.1]) bF s 0 0 (by rw[fJ];exact .iter (seen:= #[]) k1);refine⟨.pointer (some ⟨w.heap.size,0,none⟩),w.alloc (.mapIter (some q.b) clock #[] clock),?_,ρ',h'.put (dst:=some d) (fun t ht=>by injection ht with ht;subst ht;exact hd) (.loc bJ sI)⟩;have rT:=zD hT;have bR:(Instr.range T (a.eval x)).run P w= .ok (.pointer (some ⟨w.heap.size,0,none⟩)) (w.alloc (.mapIter (some q.b) clock #[] clock)):=by
   rw[vD,hq];simp[Instr.range,MapKept.run_getObj_map hw,run_underlying rT,Result.andThen]
  simp only[execOp,Sem.run_bind,bR,Result.andThen_ok,Sem.run_pure]
 ·cases hv
def uL{r:Nat}{m:Option Nat}{s l:Nat}{seen:Array Nat}(hb:w.heap[r]? =some (.mapIter m s seen l)):(getObj r).run P w= .ok (.mapIter m s seen l) w:=by simp[getObj,Sem.run,hb]
def IW(h:aA X ρ σ bx a w){it:Operand}{d:D}(hv:tj bx (ev σ it)=some d):
 ∃v,(execOp a.eval ⟨dst,.entry it,ty,pos,af,g⟩).run P w= .ok (.value v) w/\aH w (az X ρ bx w) ρ d v:=by
 have hx:=h.ev it;generalize ev σ it=dx at hv hx;simp only[tj,Option.bind_eq_some_iff]at hv;obtain⟨i,hi,r,hr,hv⟩:=hv;obtain⟨p,pm,since,last,seen,h3,hp,lk,EP,hw,fq,_,hs,hl,gn⟩:=CQ h hi hx;obtain⟨p2,en,clock,m3,mp,mv,mho,mw,mcl,mE⟩:=nr h hr fq;injection mv with mv;injection mv with mv;split at hv
 ·rename_i fJ;rw[mcl,hl]at fJ;have fJ:clock=last:=oM;subst fJ;unfold zS at hv;rw[gn]at hv;split at hv
  ·rename_i s Ay;rw[List.getLast?_map,mS]at Ay;obtain⟨n,hn,rfl⟩:=Ay;have sA:seen.back? =some n:=by rw[<-Array.getLast?_toList];exact hn
   split at hv
   ·rename_i k v b hf;injection hv with hv;subst hv;obtain⟨e,k',v',g1,g2,g3,g4⟩:=mE.find n hf;injection g2 with g2;injection g2 with a1 a2;injection a2 with a3 a4;subst a1;subst a3;refine⟨.tuple #[e.key,e.val],?_,?_⟩
    ·have bR:(Instr.entry (a.eval it)).run P w= .ok (.tuple #[e.key,e.val]) w:=by
      rw[lk];subst mv;simp only[Instr.entry,Sem.run_bind,uL hw,MapKept.run_getObj_map mw,Result.andThen,sA,bne_self_eq_false,Bool.false_eq_true,if_false];rw[<-Array.find?_toList,g1];rfl
     simp only[execOp,Sem.run_bind,bR,Result.andThen_ok,Sem.run_pure]
    ·refine .pure (.aL rfl fun i d v hd hv=>?_)
     match i with
     |0=>simp at hd hv;subst hd;subst hv;exact g3.rep
     |1=>simp at hd hv;subst hd;subst hv;exact g4.rep
     |i+2=>simp at hd
   ·cases hv
  ·cases hv
 ·cases hv
def Ec(n:Nat)(hn:0<n)(w:World):∃(j:Nat) (w1:World),j<n/\(w1=w\/w1=w.drew)/\(choose (Question.mapNext n)).run P w= .ok j w1:=by
 by_cases hf:n<=1
 ·exact⟨0,w,by omega,Or.inl rfl,by simp[choose,Sem.run,Question.forced,hf]⟩
 ·exact⟨_,w.drew,Nat.mod_lt _ hn,Or.inr rfl,by
   simp only[choose,Sem.run,Question.forced,decide_eq_true_eq,hf,if_false,Question.cut];rfl⟩
def xT(seen:Array Nat)(n:Nat):((seen.toList.map fun n:Nat=>D.int .i64 (n:Int)).map intOf).contains (n:Int)=seen.contains n:=by
 rw[Bool.eq_iff_iff];simp only[List.map_map,List.contains_iff_mem,List.mem_map,Function.comp_apply,intOf,Array.contains_iff_mem,<-Array.mem_toList_iff];constructor
 ·rintro⟨m,hm,he⟩;have:m=n:=oM;exact this▸hm
 ·intro hm;exact⟨n,hm,rfl⟩
def LA(h:aA X ρ σ bx a w)(bF:X.lo=0){it:Operand}{K:D->ae->Prop}(hn:wM bx (ev σ it) K):
 ∃d bx' ρ' v w',(execOp a.eval ⟨dst,.next it false,ty,pos,af,g⟩).run P w= .ok (.value v) w'/\K d bx'/\aA X ρ' σ bx' a w'/\aH w' (az X ρ' bx' w') ρ' d v:=by
 have hx:=h.ev it;generalize ev σ it=dx at hn hx;unfold wM at hn;cases hi:iterAt bx dx with
 |none=>rw[hi]at hn;exact hn.elim
 |some i=>
 rw[hi]at hn;dsimp only[aK]at hn;cases hr:iW bx i.2.1 with
 |none=>rw[hr]at hn;exact hn.elim
 |some r=>
 rw[hr]at hn;dsimp only at hn;obtain⟨bq,R7,R2⟩:=hn;obtain⟨p,pm,since,last,seen,h3,hp,lk,EP,hw,fq,⟨mt,mk,mq,ux,oB,V9⟩,hs,hl,gn⟩:=CQ h hi hx;obtain⟨p2,en,clock,m3,mp,mv,mho,mw,mcl,mE⟩:=nr h hr fq;injection mv with mv;injection mv with mv;subst mv;rw[hl,gn]at bq;rw[hs,gn]at R7 R2;have hg:(!seen.isEmpty&& !en.isEmpty&&en.all (fun e=>decide (e.born>=last)))=false:=by
  rcases bq with bq|bq|⟨e,he,hb⟩
  ·have:seen= #[]:=by
    rw[List.map_eq_nil_iff]at bq;exact Array.toList_eq_nil_iff.1 bq
   subst this;rfl
  ·have:en= #[]:=by
    have:=mE.len;rw[bq]at this;simpa using this.symm
   subst this;simp
  ·obtain⟨e',G1,k,v,rfl⟩:=mE.W2 e he;have hb:e'.born<last:=by simp only[gQ]at hb;omega
   have:en.all (fun e=>decide (e.born>=last))=false:=by
    rw[Bool.eq_false_iff];intro eG;rw[Array.all_eq_true']at eG;have:=eG e' (Array.mem_toList_iff.1 G1);simp only[decide_eq_true_eq]at this;omega
   rw[this,Bool.and_false]
 have Zs:∀e∈en.toList,seen.contains e.born=false->∃k v,fT k e.key/\fT v e.val/\D.aL [k,v,.int .i64 (e.born:Int)]∈iE (seen.toList.map fun n:Nat=>D.int .i64 (n:Int)) r.2.2:=by
  intro e he gn;obtain⟨k,v,g1,g2,g3⟩:=mE.mem e he;refine⟨k,v,g1,g2,?_⟩;unfold iE;rw[List.mem_filter];refine⟨g3,?_⟩;show(!(((seen.toList.map fun n:Nat=>D.int .i64 (n:Int)).map intOf).contains (e.born:Int)))=true;rw[xT,gn];rfl
 have bR:∃c w1,(w1=w\/w1=w.drew)/\((c=none/\(∀e∈en.toList,seen.contains e.born=false->since<=e.born)/\(Instr.next (a.eval it) false ty).run P w= .ok (.tuple #[.bool false]) w1)\/
  ∃e∈en.toList,c=some e/\seen.contains e.born=false/\(Instr.next (a.eval it) false ty).run P w= .ok (.tuple #[.bool true,e.key,e.val]) (rW w1 p.b (.mapIter (some p2.b) since (seen.push e.born) clock))):=by
  rw[lk];simp only[Instr.next,Sem.run_bind,uL hw,MapKept.run_getObj_map mw,Result.andThen,hg,Bool.false_eq_true,if_false];generalize hL:(en.filter fun e=> !seen.contains e.born)=L;have memL:∀e∈L.toList,e∈en.toList/\seen.contains e.born=false:=by
   intro e he;rw[<-hL]at he;simpa using he
  have memL2:∀e∈en.toList,seen.contains e.born=false->e∈L.toList:=by
   intro e he hc;rw[<-hL];simpa using⟨Array.mem_toList_iff.1 he,by simpa using hc⟩
  generalize hO:(L.filter fun e=>decide (e.born<since))=O;generalize hN:(L.filter fun e=>decide (e.born>=since))=N';have bP:0<((if O.isEmpty=true then #[none]else #[])++(O++N').map some:Array (Option MapEntry)).size:=by
   by_cases CG:O.isEmpty=true
   ·simp only[CG,if_true,Array.size_append,Array.size_map];simp;omega
   ·have:0<O.size:=by
     rcases Nat.eq_zero_or_pos O.size with h0|h0
     ·exact absurd (by simpa[Array.isEmpty]using h0) CG
     ·exact h0
    simp only[Array.size_append,Array.size_map];omega
  obtain⟨j,w1,hj,uB,JF⟩:=Ec (P:=P) _ bP w;simp only[JF];have eo:=Array.getElem?_eq_getElem hj;generalize(((if O.isEmpty=true then #[none]else #[])++(O++N').map some:Array (Option MapEntry))[j])=c at eo;have gF:c∈((if O.isEmpty=true then #[none]else #[])++(O++N').map some:Array (Option MapEntry)):=Array.mem_of_getElem? eo;rw[eo];refine⟨c,w1,uB,?_⟩;have aev:w1.heap=w.heap:=by rcases uB with rfl|rfl<;>rfl
  cases c with
  |none=>
   refine .inl ⟨rfl,fun e he hc=>?_,rfl⟩;have CG:O.isEmpty=true:=by
    rw[Array.mem_append]at gF;rcases gF with gF|gF
    ·by_cases CG:O.isEmpty=true
     ·exact CG
     ·simp[CG]at gF
    ·simp at gF
   rcases Nat.lt_or_ge e.born since with ar|Ax
   ·exfalso;have:e∈O.toList:=by
     rw[<-hO];simpa using⟨by simpa using memL2 e he hc,ar⟩
    have h0:O= #[]:=by simpa[Array.isEmpty]using CG
    rw[h0]at this;simp at this
   ·exact Ax
  |some e=>
   have he:e∈L.toList:=by
    rw[Array.mem_append]at gF;rcases gF with gF|gF
    ·by_cases CG:O.isEmpty=true<;>simp[CG]at gF
    ·rw[<-hO,<-hN]at gF;simp at gF;rcases gF with gF|gF
     ·simpa using gF.1
     ·simpa using gF.1
   obtain⟨g1,g2⟩:=memL e he;refine .inr ⟨e,g1,rfl,g2,?_⟩;have gG:(setObj p.b (.mapIter (some p2.b) since (seen.push e.born) clock)).run P w1= .ok () (rW w1 p.b (.mapIter (some p2.b) since (seen.push e.born) clock)):=by
    have:w1.heap[p.b]? =some (.mapIter (some p2.b) since seen last):=by rw[aev];exact hw
    simp[setObj,Sem.run,this,rW]
   simp only[Sem.run_bind,gG,Result.andThen];rfl
 obtain⟨c,w1,uB,bR⟩:=bR;have yt:Below w.heap.size w w1:=by
  rcases uB with rfl|rfl
  ·exact Below.refl _ _
  ·exact⟨rfl,rfl,rfl,Nat.le_refl _,fun _ _=>rfl⟩
 have h1:=h.ext yt;rcases bR with⟨_,eG,bR⟩|⟨e,he,_,aep,bR⟩
 ·refine⟨_,_,ρ,_,w1,by simp only[execOp,Sem.run_bind,bR,Result.andThen_ok,Sem.run_pure];rfl,R2 fun d hd=>?_,h1,.pure (.aL rfl fun i d v hd hv=>?_)⟩
  ·unfold iE at hd;rw[List.mem_filter]at hd;obtain⟨hd,hc⟩:=hd;obtain⟨e,he,k,v,rfl⟩:=mE.W2 d hd;have lj:seen.contains e.born=false:=by
    have:(!(((seen.toList.map fun n:Nat=>D.int .i64 (n:Int)).map intOf).contains (e.born:Int)))=true:=hc;rw[xT]at this;simpa using this
   have:=eG e he lj;simp only[gQ];omega
  ·match i with
   |0=>simp at hd hv;subst hd;subst hv;exact .bool false
   |i+1=>simp at hd
 ·obtain⟨k,v,g1,g2,g3⟩:=Zs e he aep;have ar:p.b<w1.heap.size:=Nat.lt_of_lt_of_le (Array.getElem?_eq_some_iff.1 hw).1 yt.size;have hNO:oq ρ (.mapIter (some p2.b) since (seen.push e.born) clock) (i.2.1:: .int .i64 (since:Int):: .int .i64 r.2.1::((seen.toList.map fun n:Nat=>D.int .i64 (n:Int))++[.int .i64 (e.born:Int)])):=by
   rw[ux,<-V9,mcl];have:=oq.iter (ρ:=ρ) (p:=mq) (since:=since) (last:=clock) (seen:=seen.push e.born) oB;simpa using this
  have h2:=h1.fM bF h3 hp EP hNO (D_ w1 p.b _) (zo ar);refine⟨_,_,_,_,_,by simp only[execOp,Sem.run_bind,bR,Result.andThen_ok,Sem.run_pure];rfl,R7 k v e.born g3,h2,.pure (.aL rfl fun i d v hd hv=>?_)⟩
  match i with
  |0=>simp at hd hv;subst hd;subst hv;exact .bool true
  |1=>simp at hd hv;subst hd;subst hv;exact g1.rep
  |2=>simp at hd hv;subst hd;subst hv;exact g2.rep
  |i+3=>simp at hd
end Go.V
namespace Go.V
open Go.RowKit
abbrev Fw(r:Option Nat):Fence:={Fence.wide with round:=r}
variable {P:Program} {C:Calc} {X:Ctx} {ρ:cM} {σ:Env} {bx:ae} {a:Act} {w:World} {r:Option Nat} {n:Nat}
def wg{f:FuncId}{args:Array Value}{R:Ending->World->Prop}(h:Calls P f args w R):CallsIn (Fw r) n P f args w R:=callsIn_wide.2 h
section
variable {o:Oper} {next:Act->World->Prop} {Q:Exit->Act->World->Prop}
def fW(hd:∀c,o.op≠ .defer c){v:Value}{w':World}(hr:(execOp a.eval o).run P w= .ok (.value v) w')(hn:next (a.put o.dst v) w'):o.wpIn (Fw r) n P a w next Q:=by
 refine⟨fun _ _=>trivial,?_⟩;rw[Oper.semAt_eq _ _ _ hd,hr];exact hn
def Ku(hd:∀c,o.op≠ .defer c){w':World}(hr:(execOp a.eval o).run P w= .ok .skip w')(hn:next (a.put o.dst undef) w'):o.wpIn (Fw r) n P a w next Q:=by
 refine⟨fun _ _=>trivial,?_⟩;rw[Oper.semAt_eq _ _ _ hd,hr];exact hn
def Eg{c:Call}(ho:o.op= .call c){f:FuncId}{vs:Array Value}(hr:(execOp a.eval o).run P w=(callFunc f vs).run P w)(hc:oV P f vs w (fun v w'=>next (a.put o.dst v) w') (fun v w'=>Q (.panic [pe v]) a w')):o.wpIn (Fw r) n P a w next Q:=by
 refine⟨fun _ _=>trivial,?_⟩;rw[Oper.semAt_eq _ _ _ (by rw[ho];simp),hr];rcases hc with⟨h1,h2⟩|⟨v,w',h1,h2⟩
 ·rw[h1];refine⟨fun h=>by simp[Fence.wide]at h,wg (Calls.mono h2 ?_)⟩;rintro e w' (⟨v,rfl,hv⟩|⟨v,rfl,hv⟩)
  ·exact hv
  ·exact hv
 ·rw[h1];exact h2
def Rb(hd:∀c,o.op≠ .defer c){v:Value}{w':World}(hr:(execOp a.eval o).run P w= .halt (.panic v) w')(hn:Q (.panic [pe v]) a w'):o.wpIn (Fw r) n P a w next Q:=by
 refine⟨fun _ _=>trivial,?_⟩;rw[Oper.semAt_eq _ _ _ hd,hr];exact hn
end
def BH(d x:D):nY d≠ .cU x:=by unfold nY;split<;>simp
def Iw(d x:D):lB d≠ .cU x:=by unfold lB;split<;>simp
theorem aA.QG{dst:Option Tmp}(h:aA X ρ σ bx a w)(hd:∀t,dst=some t->t<X.N):aA X ρ (V.put σ dst .undef) bx a w:=by
 cases dst with
 |none=>exact h
 |some t=>
  have nf:ed≠t:=by
   intro e;exact absurd (hd t rfl) (by rw[<-e];exact Nat.not_lt.2 h.pU)
  refine {h with marks:= ?_,tmps:=fun x=>?_}
  ·simpa[V.put,ak,nf]using h.marks
  ·simp only[V.put,ak];by_cases hx:x=t
   ·simp only[hx,if_true];exact aH.pure (br.undef _)
   ·simp only[hx,if_false];exact h.tmps x
theorem BI(h:aA X ρ σ bx a w){o:Oper}{cl:D->Cl}(ct:∀t,o.dst=some t->t<X.N){K:Cl->Env->ae->Prop}(hs:aK (cQ P σ bx o.op) fun v=>K (cl v) (put σ o.dst v) bx)(fJ:∀d x,cl d≠ .cU x)
 {next:Act->World->Prop} {Q:Exit->Act->World->Prop} (hK:∀c σ' bx' a' w' ρ',(∀x,c≠ .cU x)->K c σ' bx'->aA X ρ' σ' bx' a' w'->next a' w'):o.wpIn (Fw r) n P a w next Q:=by
 cases hv:cQ P σ bx o.op with
 |none=>rw[hv]at hs;exact hs.elim
 |some d=>
  rw[hv]at hs;obtain⟨v,w',hr,hb,fq⟩:=Fx h o hv;refine fW (fun c hc=>by rw[hc]at hv;simp[cQ]at hv) hr (hK _ _ _ _ _ _ (fJ d) hs ((h.ext hb).put ct ?_));exact fq
def Iv(d x:D):xo d≠ .cU x:=by unfold xo;split<;>simp
def Lu(h:aA X ρ σ bx a w)(mn:X.lo=0){dst:Option Tmp}{op:Op}{ty:TypeId}{pos:String}{af:Array Edge}{g:Option (Nat×Bool)}(vw:oU P op=true)(ct:∀t,dst=some t->t<X.N){K:Cl->Env->ae->Prop}(hs:iq P C dst op σ bx K)
 {next:Act->World->Prop} {Q:Exit->Act->World->Prop} (hK:∀c σ' bx' a' w' ρ',(∀x,c≠ .cU x)->K c σ' bx'->aA X ρ' σ' bx' a' w'->next a' w'):(Oper.mk dst op ty pos af g).wpIn (Fw r) n P a w next Q:=by
 unfold iq at hs;split at hs
 ·rename_i T;split at hs
  ·rename_i d;obtain⟨v,w',hr,ρ',h'⟩:=FC (T:=T) (s:=C.base+d) (ty:=ty) (pos:=pos) (af:=af) (g:=g) (P:=P) h mn (ct d rfl);exact fW sI hr (hK _ _ _ _ _ _ (by intro x;simp) hs h')
  ·exact hs.elim
 ·rename_i T m k v;cases hz:zE (an P) (an P T) bx (ev σ m) (ev σ k) (ev σ v)with
  |none=>rw[hz]at hs;exact hs.elim
  |some bx'=>
   rw[hz]at hs;obtain⟨w',ρ',hr,h'⟩:=ON (dst:=dst) (ty:=ty) (pos:=pos) (af:=af) (g:=g) h mn hz;exact Ku sI hr (hK _ _ _ _ _ _ (by intro x;simp) hs (h'.put ct (.pure (.raw _))))
 ·rename_i T x;split at hs
  ·rename_i d;cases hz:BD (an P T) bx (ev σ x)with
   |none=>rw[hz]at hs;exact hs.elim
   |some es=>
    rw[hz]at hs;obtain⟨v,w',hr,ρ',h'⟩:=H_ (s:=C.base+d) (ty:=ty) (pos:=pos) (af:=af) (g:=g) h mn (ct d rfl) hz;exact fW sI hr (hK _ _ _ _ _ _ (by intro x;simp) hs h')
  ·exact hs.elim
 ·rename_i it;obtain⟨d,bx',ρ',v,w',hr,hk,h',fq⟩:=LA (dst:=dst) (ty:=ty) (pos:=pos) (af:=af) (g:=g) (P:=P) h mn hs;exact fW sI hr (hK _ _ _ _ _ _ (by intro x;simp) hk (h'.put ct fq))
 ·rename_i it;cases hz:tj bx (ev σ it)with
  |none=>rw[hz]at hs;exact hs.elim
  |some d=>
   rw[hz]at hs;obtain⟨v,hr,fq⟩:=IW (dst:=dst) (ty:=ty) (pos:=pos) (af:=af) (g:=g) (P:=P) h hz;exact fW sI hr (hK _ _ _ _ _ _ (by intro x;simp) hs (h.put ct fq))
 ·rename_i b args cx;split at hs
  ·cases hz:zR (an P) cx.toList bx (args.toList.map (ev σ))with
   |none=>rw[hz]at hs;exact hs.elim
   |some bx'=>
    rw[hz]at hs;obtain⟨w',ρ',hr,h'⟩:=MZ (dst:=dst) (ty:=ty) (pos:=pos) (af:=af) (g:=g) h mn hz;exact fW sI hr (hK _ _ _ _ _ _ (by intro x;simp) hs (h'.put ct (.pure (.raw _))))
  ·cases hz:Bh bx (args.toList.map (ev σ))with
   |none=>rw[hz]at hs;exact hs.elim
   |some d=>
    rw[hz]at hs;have hk:∃T kt et,cx.toList=[T]/\(an P T).k= .map kt et:=by
     simp only[oU]at vw;split at vw
     ·rename_i T hT;refine⟨T,?_⟩;cases hk:(an P T).k<;>rw[hk]at vw<;>simp[TK.isMap]at vw;exact⟨_,_,hT,rfl⟩
     ·cases vw
    obtain⟨v,hr,fq⟩:=Lo (dst:=dst) (ty:=ty) (pos:=pos) (af:=af) (g:=g) h hk hz;exact fW sI hr (hK _ _ _ _ _ _ (by intro x;simp) hs (h.put ct fq))
  ·cases hz:yd C.lo (an P) cx.toList bx (args.toList.map (ev σ))with
   |none=>rw[hz]at hs;exact hs.elim
   |some rr=>
    rw[hz]at hs;obtain⟨args⟩:=args;obtain⟨cx⟩:=cx;dsimp only at hz;unfold yd at hz;split at hz
    case h_2=>cases hz
    rename_i T T' d1 d2 jI
    match args,jI with
    |[x,y],jI=>
    simp only[mC,List.map_nil,List.cons.injEq,and_true]at jI;obtain⟨rfl,rfl⟩:=jI;obtain⟨v,w',hr,h'⟩:=KO (ty:=ty) (pos:=pos) (af:=af) (g:=g) h ct (lo:=C.lo) oM hz;exact fW sI hr (hK _ _ _ _ _ _ (by intro x;simp) hs h')
  ·exact hs.elim
 ·exact hs.elim
def Lv{t:TypeId}{name:String}{f:FuncId}{u:Value}(h:sF P t name=some f)(k:Nat):(method (k+1) t u name).run P w= .ok (f,u) w:=by
 unfold sF at h;split at h
 ·rename_i i d hi hu;have key:∀d,P.underlying t=some d->(∀e,d≠ .pointer e)->(match i.methods.find? (·.name==name)with
   |some m=>if m.path.size=0 then(match m.func with
    |some (f,false)=>some f
    |_=>none)else none
   |none=>none)=some f->(method (k+1) t u name).run P w= .ok (f,u) w:=by
   intro d hu hd h;split at h
   ·rename_i m hm;split at h
    ·rename_i hp;split at h
     ·rename_i f' hf;injection h with h;subst h;have hp2:m.path.toList=[]:=by
       rw[<-Array.length_toList]at hp;exact List.eq_nil_of_length_eq_zero hp
      have qy:∀nm,(receiverAt t (.val u) false nm).run P w= .ok u w:=by
       intro nm;unfold receiverAt;simp only[Sem.run_bind,run_underlying hu,Result.andThen_ok];cases d<;>first|(exact absurd rfl (hd _))|simp[Place.get]
      unfold method;simp[typeInfo,hi,hm,hp2,follow,hf,qy,go_sem]
     ·cases h
    ·cases h
   ·cases h
  cases d<;>first|(cases h;done)|exact key _ hu (by intro e;simp) h
 ·cases h
def Li{recv:Operand}{name:String}{args:Array Operand}{cx:Array TypeId}{dst:Option Tmp}{ty:TypeId}{pos:String}{af:Array Edge}{g:Option (Nat×Bool)}{t:TypeId}{u:Value}{f:FuncId}(hr:a.eval recv= .iface t u)(hm:sF P t name=some f):
 (execOp a.eval ⟨dst,.call {callee:=.invoke recv name,args,argTypes:=cx},ty,pos,af,g⟩).run P w=(callFunc f (#[u]++args.map a.eval)).run P w:=by
 obtain⟨k,hk⟩:∃k,P.types.size+Made.depth=k+1:=⟨P.types.size+99,rfl⟩
 have h2:(#[a.eval recv]++args.map a.eval).extract 1 (#[a.eval recv]++args.map a.eval).size=args.map a.eval:=by
  apply Array.toList_inj.1;simp[List.take_of_length_le]
 generalize hA: #[a.eval recv]++args.map a.eval=A at h2;have h1:A[0]? =some (.iface t u):=by rw[<-hA,Array.getElem?_append_left (by decide:0<1)];exact congrArg some hr
 have hmr:=Lv (w:=w) (u:=u) hm k;simp only[execOp,resolve,invoke,Sem.run_bind,Sem.run_pure,Result.andThen_ok,hA,h1,h2,callMethod,run_program,hk,hmr]
def Dt(h:aA X ρ σ bx a w)(hG:Good P C X)(ng:∀l,r=some l->X.md=1){o:Oper}(ct:∀t,o.dst=some t->t<X.N){K:Cl->Env->ae->Prop}(hs:bp P C o σ bx K)
 {next:Act->World->Prop} {Q:Exit->Act->World->Prop} (hK:∀c σ' bx' a' w' ρ',(∀x,c≠ .cU x)->K c σ' bx'->aA X ρ' σ' bx' a' w'->next a' w')
 (hP:∀d σ' bx' a' w' ρ' v,K (.cU d) σ' bx'->aA X ρ' σ' bx' a' w'->aH w' (az X ρ' bx' w') ρ' d v->Q (.panic [pe v]) a' w'):o.wpIn (Fw r) n P a w next Q:=by
 unfold bp at hs;obtain⟨dst,op,ty,pos,af,g⟩:=o;dsimp only at hs ct;split at hs
 ·rename_i T;split at hs
  ·rename_i d;cases hz:xO (iZ (an P T)) (r9 (an P T) (zeroV P T))with
   |none=>rw[hz]at hs;exact hs.elim
   |some z=>
    rw[hz]at hs;obtain⟨v,w',hr,ρ',h'⟩:=IK (ty:=ty) (pos:=pos) (af:=af) (g:=g) h (ct d rfl) (Nat.le_trans hG.base (Nat.le_add_right C.base d)) hz;exact fW sI hr (hK _ _ _ _ _ _ (by intro x;simp) hs h')
  ·exact hs.elim
 ·rename_i T x;split at hs
  ·rename_i d;cases hz:x8 (an P T) (ev σ x)with
   |none=>rw[hz]at hs;exact hs.elim
   |some z=>
    rw[hz]at hs;obtain⟨v,w',hr,ρ',h'⟩:=MD (ty:=ty) (pos:=pos) (af:=af) (g:=g) h (ct d rfl) (Nat.le_trans hG.base (Nat.le_add_right C.base d)) hz;exact fW sI hr (hK _ _ _ _ _ _ (by intro x;simp) hs h')
  ·exact hs.elim
 ·rename_i T x y;cases hz:vJ (gB C.lo (an P T) bx (ev σ x) (ev σ y)) (r9 (an P T) (zeroV P T)) bx (ev σ x) (ev σ y)with
  |none=>rw[hz]at hs;exact hs.elim
  |some bx'=>
   rw[hz]at hs;obtain⟨w',hr,ρ',h'⟩:=Je (ty:=ty) (pos:=pos) (af:=af) (g:=g) h ct hG.lo hz;exact Ku sI hr (hK _ _ _ _ _ _ (Iw _) hs h')
 ·rename_i T x;exact BI (o:=⟨dst,.load T x,ty,pos,af,g⟩) (cl:=fun _=>nY (ev σ x)) h ct hs (fun _=>BH _) hK
 ·rename_i args cx;split at hs
  ·obtain⟨_,hs⟩:=hs;cases hz:KA C.lo (an P) cx.toList (kT C.base dst) bx (args.toList.map (ev σ))with
   |none=>rw[hz]at hs;exact hs.elim
   |some rr=>
    rw[hz]at hs;obtain⟨args⟩:=args;obtain⟨cx⟩:=cx;dsimp only at hz;unfold KA at hz;split at hz
    case h_2=>cases hz
    rename_i T T' d1 d2 jI
    match args,jI with
    |[x,y],jI=>
    simp only[mC,List.map_nil,List.cons.injEq,and_true]at jI;obtain⟨rfl,rfl⟩:=jI;obtain⟨v,w',hr,ρ',h'|h'⟩:=xy (ty:=ty) (pos:=pos) (af:=af) (g:=g) h ct hG.lo hG.base hz
    ·exact fW sI hr (hK _ _ _ _ _ _ (by intro x;simp) hs.1 h')
    ·exact fW sI hr (hK _ _ _ _ _ _ (by intro x;simp) hs.2 h')
  ·cases hz:FF C.lo (an P) cx.toList (kT C.base dst) bx (args.toList.map (ev σ))with
   |none=>rw[hz]at hs;exact hs.elim
   |some rr=>
    rw[hz]at hs;obtain⟨args⟩:=args;obtain⟨cx⟩:=cx;dsimp only at hz;unfold FF at hz;split at hz
    case h_2=>cases hz
    rename_i T T' d1 d2 jI
    match args,jI with
    |[x,y],jI=>
    simp only[mC,List.map_nil,List.cons.injEq,and_true]at jI;obtain⟨rfl,rfl⟩:=jI;obtain⟨v,w',hr,ρ',h'⟩:=Ga (ty:=ty) (pos:=pos) (af:=af) (g:=g) h ct hG.lo hG.base hz;exact fW sI hr (hK _ _ _ _ _ _ (by intro x;simp) hs h')
 ·rename_i fo args cx;have kF:=h.ev fo;generalize ev σ fo=df at hs kF;unfold lT at hs;split at hs
  ·rename_i f caps;obtain⟨vs,mH,hl,hv⟩:=kF.vG;refine Eg (c:={callee:=.value fo,args:=args,argTypes:=cx}) rfl (f:=f) (vs:=args.map a.eval++vs) (by simp[execOp,resolve,mH,Deferred.ofValue,invoke]) ?_;have hc:=uY (vs:=args.map a.eval++vs) h hG (by simp[hl]) (fun i x v hx aT=>by
    rw[Array.getElem?_append]at aT;rw[List.getElem?_append]at hx;simp only[List.length_map,Array.length_toList,Array.size_map]at hx aT;split at aT
    ·rename_i ar;rw[if_pos ar]at hx;simp only[gM,aG,Array.getElem?_map,mS]at hx aT;obtain⟨o1,h1,rfl⟩:=hx;obtain⟨o2,h2,rfl⟩:=aT;rw[h1]at h2;injection h2 with h2;subst h2;exact h.ev o1
    ·rename_i ar;rw[if_neg ar]at hx;exact hv _ _ _ hx aT) hs
   refine hc.mono ?_ ?_
   ·rintro v w' ⟨c,d,bx',ρ',g0,g1,g2,g3⟩;exact hK _ _ _ _ _ _ g0 g1 (g2.put ct g3)
   ·rintro v w' ⟨d,bx',ρ',g1,g2,g3⟩;exact hP _ _ _ _ _ _ _ g1 (g2.QG ct) g3
  ·rename_i l;obtain⟨vs,mH,hl,_⟩:=kF.vG;have Hi:vs= #[]:=by simpa using hl
   subst Hi;unfold qd at hs;split at hs
   ·rename_i items gs l' ll;obtain⟨⟨rfl,hp,hi⟩,RC⟩:=hs;obtain⟨f,tm,as,bd,hr,nh⟩:=hG.yok items gs l' ll ρ σ bx a w (args.map a.eval) (args.toList.map (ev σ)) h hi sI (fun i x v hx hv=>by
     simp only[gM,aG,Array.getElem?_map,mS]at hx hv;obtain⟨o1,h1,rfl⟩:=hx;obtain⟨o2,h2,rfl⟩:=hv;rw[h1]at h2;injection h2 with h2;subst h2;exact(h.ev o1).fy (uI _ hp i _ (by simp only[gM,aG,h1,Option.map_some])))
    refine⟨fun _ _=>trivial,?_⟩;rw[Oper.semAt_eq _ _ _ sI];have bR:(execOp a.eval ⟨dst,.call {callee:=.value fo,args:=args,argTypes:=cx},ty,pos,af,g⟩).run P w= .ok (.round l' f tm as bd) w:=by
     simp only[execOp,resolve,mH,Deferred.ofValue,invoke,Sem.run_bind,Sem.run_pure,Result.andThen_ok,Array.empty_append];exact hr
    rw[bR];refine⟨fun h=>by simp[Fence.wide]at h,?_⟩;refine RoundIn.mono (show RoundIn (Fw r) _ P l' f tm as bd w _ from nh _) ?_;rintro e w2 ⟨ρ2,bx1,b,rfl,hS⟩;cases b with
    |true=>exact hK _ _ _ _ _ _ (by intro x;simp) (RC bx1).1 (hS.put ct (.pure (.bool true)))
    |false=>exact hK _ _ _ _ _ _ (by intro x;simp) (RC bx1).2 (hS.put ct (.pure (.bool false)))
   ·exact hs.elim
  ·rename_i f caps;obtain⟨vs,mH,hl,hv⟩:=kF.J2;refine Eg (c:={callee:=.value fo,args:=args,argTypes:=cx}) rfl (f:=f) (vs:=vs++args.map a.eval) (by simp[execOp,resolve,mH,Deferred.ofValue,invoke]) ?_;have hc:=uY (vs:=vs++args.map a.eval) h hG (by simp[hl]) (fun i x v hx aT=>by
    rw[Array.getElem?_append]at aT;rw[List.getElem?_append]at hx;rw[hl]at aT;split at aT
    ·rename_i ar;rw[if_pos ar]at hx;exact hv _ _ _ hx aT
    ·rename_i ar;rw[if_neg ar]at hx;simp only[gM,aG,Array.getElem?_map,mS]at hx aT;obtain⟨o1,h1,rfl⟩:=hx;obtain⟨o2,h2,rfl⟩:=aT;rw[h1]at h2;injection h2 with h2;subst h2;exact h.ev o1) hs
   refine hc.mono ?_ ?_
   ·rintro v w' ⟨c,d,bx',ρ',g0,g1,g2,g3⟩;exact hK _ _ _ _ _ _ g0 g1 (g2.put ct g3)
   ·rintro v w' ⟨d,bx',ρ',g1,g2,g3⟩;exact hP _ _ _ _ _ _ _ g1 (g2.QG ct) g3
  ·exact hs.elim
 ·rename_i x;obtain⟨_,hs⟩:=hs;unfold D6 at hs;have hx:=h.ev x;generalize ev σ x=dx at hs hx;split at hs
  ·obtain⟨u,hu,_⟩:=hx.DV;exact Rb (v:=a.eval x) (w':=w) sI (by simp[execOp,hu,Instr.panic,goPanic,Sem.run]) (hP _ _ _ _ _ _ _ hs h hx)
  ·exact hs.elim
 ·rename_i fo args cx;obtain⟨nf,hs⟩:=hs;have mM:=hG.df nf;have oF:r=none:=by
   cases r with
   |none=>rfl
   |some l=>have:=ng l rfl;omega
  subst oF;have kF:=h.ev fo;split at hs
  ·rename_i f caps hfc;rw[hfc]at kF;obtain⟨vs,mH,hl,hv⟩:=kF.vG;refine⟨fun _ _=>trivial,?_⟩;show Oper.uponIn (Fw none) n P _ a next Q ((Oper.semAt none a.eval _).run P w)
   rw[Oper.semAt_none];have bR:(execOp a.eval ⟨dst,.defer {callee:=.value fo,args:=args,argTypes:=cx},ty,pos,af,g⟩).run P w= .ok (.defer {target:=.fn (.func f) vs,args:=args.map a.eval}) w:=by simp[execOp,resolve,mH,Deferred.ofValue]
   rw[bR];show next _ w
   refine hK _ _ _ _ _ _ (by intro x;simp) hs (aA.put (ρ:=ρ) (a:={a with defers:={target:=.fn (.func f) vs,args:=args.map a.eval}::a.defers}) ?_ ct (.pure (.raw _)));refine {h with marks:= ?_,tmps:=fun t=>?_}
   ·have hm:=h.marks;rcases hm with hm|hm
    ·omega
    ·refine .inr ?_;refine⟨?_,fun h3=>by omega⟩;obtain⟨hm,_⟩:=hm;rw[if_neg oM]at hm⊢;have e:pY (ak σ ed (C7 (σ ed) (.fn (.func f) caps) (args.toList.map (ev σ))) ed)= .aL (.fn (.func f) caps::args.toList.map (ev σ))::pY (σ ed):=by
      rw[eC];cases σ ed<;>rfl
     rw[e];refine .call hl hv sI (fun i d v hd aT=>?_) hm;simp only[gM,aG,Array.getElem?_map,mS]at hd aT;obtain⟨o1,h1,rfl⟩:=hd;obtain⟨o2,h2,rfl⟩:=aT;rw[h1]at h2;injection h2 with h2;subst h2;exact h.ev o1
   ·simp only[ak];split
    ·unfold C7;split<;>exact .pure (.any _ _)
    ·exact h.tmps t
  ·exact hs.elim
 ·rename_i T l c;split at hs
  ·rename_i d;cases hz:uG (an P) (an P T) (ev σ l) (ev σ c)with
   |none=>rw[hz]at hs;exact hs.elim
   |some z=>
    rw[hz]at hs;obtain⟨v,w',hr,ρ',h'⟩:=Ly (ty:=ty) (pos:=pos) (af:=af) (g:=g) h (ct d rfl) (Nat.le_trans hG.base (Nat.le_add_right C.base d)) hz;exact fW sI hr (hK _ _ _ _ _ _ (by intro x;simp) hs h')
  ·exact hs.elim
 ·unfold fA at hs;split at hs
  ·rename_i T m ps _ _ _ _ _ _ _ _ _;split at hs
   ·split at hs
    ·rename_i d _;cases hz:uF (an P) (an P T) m (ps.toList.map fun p=>(p.1,ev σ p.2))with
     |none=>rw[hz]at hs;exact hs.elim
     |some z=>
      rw[hz]at hs;obtain⟨v,w',hr,ρ',h'⟩:=Lp (ty:=ty) (pos:=pos) (af:=af) (g:=g) h (ct d rfl) (Nat.le_trans hG.base (Nat.le_add_right C.base d)) hz;exact fW sI hr (hK _ _ _ _ _ _ (by intro x;simp) hs h')
    ·exact hs.elim
   ·exact BI (o:=⟨dst,.buildSlice T m ps,ty,pos,af,g⟩) (cl:=fun _=> .n) h ct hs (by intro d x;simp) hK
  ·rename_i T m k ok _ _ _ _ _ _ _ _ _;cases hz:sE P (an P) (an P T) bx (ev σ m) (ev σ k) ok with
   |none=>rw[hz]at hs;exact hs.elim
   |some d=>
    rw[hz]at hs;obtain⟨v,w',hr,hb,fq⟩:=Lr (dst:=dst) (ty:=ty) (pos:=pos) (af:=af) (g:=g) h hz;exact fW sI hr (hK _ _ _ _ _ _ (Iv _) hs ((h.ext hb).put ct fq))
  ·rename_i recv name args cx _ _ _ _ _ _ _ _ _;have AF:=h.ev recv;generalize ev σ recv=dr at hs AF;unfold oS at hs;split at hs
   ·rename_i t d0;cases hm:sF P t name with
    |none=>rw[hm]at hs;exact hs.elim
    |some f=>
     rw[hm]at hs;have hs:fz C f (d0::args.toList.map (ev σ)) bx fun c d bx'=>K c (put σ dst d) bx':=hs;obtain⟨u,hu,fq⟩:=AF.DV;refine Eg (c:={callee:=.invoke recv name,args:=args,argTypes:=cx}) rfl (f:=f) (vs:= #[u]++args.map a.eval) (Li hu hm) ?_;have hc:=uY (vs:= #[u]++args.map a.eval) h hG (by simp;exact Nat.add_comm 1 _) (fun i x v hx aT=>by
      rcases i with _|i
      ·rw[Array.getElem?_append_left (by decide:0<1)]at aT;injection hx with hx;injection aT with aT;subst hx;subst aT;exact fq
      ·rw[Array.getElem?_append_right sI]at aT;simp only[List.getElem?_cons_succ,gM,aG,mS]at hx;simp only[List.size_toArray,List.length_cons,List.length_nil,Nat.zero_add,Nat.add_sub_cancel,Array.getElem?_map,mS]at aT;obtain⟨o1,h1,rfl⟩:=hx;obtain⟨o2,h2,rfl⟩:=aT;rw[h1]at h2;injection h2 with h2;subst h2;exact h.ev o1) hs
     refine hc.mono ?_ ?_
     ·rintro v w' ⟨c,d,bx',ρ',g0,g1,g2,g3⟩;exact hK _ _ _ _ _ _ g0 g1 (g2.put ct g3)
     ·rintro v w' ⟨d,bx',ρ',g1,g2,g3⟩;exact hP _ _ _ _ _ _ _ g1 (g2.QG ct) g3
   ·exact hs.elim
  ·split at hs
   ·rename_i vw;obtain⟨_,bF,hs⟩:=hs;exact Lu h (by have:=hG.lo;omega) vw ct hs hK
   ·exact BI (cl:=fun _=> .n) h ct hs (by intro d x;simp) hK
end Go.V
namespace Go.V
open Go.RowKit
variable {P:Program} {C:Calc} {σ σ₂:Env} {bx bx₂:ae}
theorem cg{α:Type}{x:Option α}{f g:α->Prop}(h:∀v,f v->g v)(hx:aK x f):aK x g:=by
 cases x with
 |none=>exact hx
 |some v=>exact h v hx
def sk{f:FuncId}{ds:List D}{K K':Cl->D->ae->Prop}(h:∀c d bx,K c d bx->K' c d bx)(hc:fz C f ds bx K):fz C f ds bx K':=by
 rcases hc with⟨d,h1,h2,h3⟩|⟨ds',d,h1,h2,h3,h4⟩|⟨ds',d,h1,h2,h3,h4⟩|⟨cB,Pan,h1,h2,h3,h4⟩
 ·exact .inl ⟨d,h1,h2,h _ _ _ h3⟩
 ·exact .inr (.inl ⟨ds',d,h1,h2,h3,h _ _ _ h4⟩)
 ·exact .inr (.inr (.inl ⟨ds',d,h1,h2,h3,h _ _ _ h4⟩))
 ·exact .inr (.inr (.inr ⟨cB,Pan,h1,h2,fun d bx' hp=>(h3 d bx' hp).imp (h _ _ _) (fun⟨r,r',g1,g2,g3⟩=>⟨r,r',g1,g2,h _ _ _ g3⟩),fun d bx' hp=>h _ _ _ (h4 d bx' hp)⟩))
def Jh{l:Nat}{ds:List D}{K K':Cl->D->ae->Prop}(h:∀c d bx,K c d bx->K' c d bx)(hc:qd C l ds bx K):qd C l ds bx K':=by
 unfold qd at hc⊢;split at hc
 ·exact⟨hc.1,fun bx1=>⟨h _ _ _ (hc.2 bx1).1,h _ _ _ (hc.2 bx1).2⟩⟩
 ·exact hc.elim
def Ca{d:D}{ds:List D}{K K':Cl->D->ae->Prop}(h:∀c d bx,K c d bx->K' c d bx)(hc:lT C d ds bx K):lT C d ds bx K':=by
 unfold lT at hc⊢;split at hc
 ·exact sk h hc
 ·exact Jh h hc
 ·exact sk h hc
 ·exact hc.elim
def Oc{d:D}{f g:D->Prop}(h:∀d,f d->g d)(hx:D6 d f):D6 d g:=by cases d<;>first|exact h _ hx|exact hx
def Lz{x:D}{K K':D->ae->Prop}(h:∀d bx,K d bx->K' d bx)(hs:wM bx x K):wM bx x K':=
 cg (fun _=>cg fun _ hh=>⟨hh.1,fun k v b hm=>h _ _ (hh.2.1 k v b hm),fun ha=>h _ _ (hh.2.2 ha)⟩) hs
def E7{dst:Option Tmp}{op:Op}{K K':Cl->Env->ae->Prop}(h:∀c σ bx,K c σ bx->K' c σ bx)(hs:iq P C dst op σ bx K):iq P C dst op σ bx K':=by
 unfold iq at hs⊢;split at hs
 ·split at hs
  ·exact h _ _ _ hs
  ·exact hs.elim
 ·exact cg (fun _=>h _ _ _) hs
 ·split at hs
  ·exact cg (fun _=>h _ _ _) hs
  ·exact hs.elim
 ·exact Lz (fun _ _=>h _ _ _) hs
 ·exact cg (fun _=>h _ _ _) hs
 ·split at hs
  ·exact cg (fun _=>h _ _ _) hs
  ·exact cg (fun _=>h _ _ _) hs
  ·exact cg (fun _=>h _ _ _) hs
  ·exact hs.elim
 ·exact hs.elim
theorem Ma{dst:Option Tmp}{op:Op}{K K':Cl->Env->ae->Prop}(h:∀c σ bx,K c σ bx->K' c σ bx)(hs:fA P C dst op σ bx K):fA P C dst op σ bx K':=by
 cases op with
 |buildSlice T n ps=>
  unfold fA at hs⊢;dsimp only at hs⊢;split at hs
  ·rename_i ho;rw[if_pos ho];split at hs
   ·exact cg (fun _=>h _ _ _) hs
   ·exact hs.elim
  ·rename_i ho;rw[if_neg ho];exact cg (fun _=>h _ _ _) hs
 |lookup T m k ok=>
  unfold fA at hs⊢;exact cg (fun _=>cg fun _=>h _ _ _) hs
 |call c=>
  obtain⟨callee,args,cx⟩:=c;cases callee with
  |invoke recv name=>
   have hs:oS P C (ev σ recv) name (args.toList.map (ev σ)) bx fun c d bx'=>K c (put σ dst d) bx':=hs;show oS P C (ev σ recv) name (args.toList.map (ev σ)) bx fun c d bx'=>K' c (put σ dst d) bx';unfold oS at hs⊢;split at hs
   ·exact cg (fun _=>sk fun _ _ _=>h _ _ _) hs
   ·exact hs.elim
  |_=>
   unfold fA at hs⊢;dsimp only at hs⊢;split at hs
   ·rename_i hm;rw[if_pos hm];exact⟨hs.1,hs.2.1,E7 h hs.2.2⟩
   ·rename_i hm;rw[if_neg hm];exact cg (fun _=>h _ _ _) hs
 |_=>
  unfold fA at hs⊢;dsimp only at hs⊢;split at hs
  ·rename_i hm;rw[if_pos hm];exact⟨hs.1,hs.2.1,E7 h hs.2.2⟩
  ·rename_i hm;rw[if_neg hm];exact cg (fun _=>h _ _ _) hs
def sP{o:Oper}{K K':Cl->Env->ae->Prop}(h:∀c σ bx,K c σ bx->K' c σ bx)(hs:bp P C o σ bx K):bp P C o σ bx K':=by
 unfold bp at hs⊢;split at hs
 ·split at hs
  ·exact cg (fun _=>cg fun _=>h _ _ _) hs
  ·exact hs.elim
 ·split at hs
  ·exact cg (fun _=>cg fun _=>h _ _ _) hs
  ·exact hs.elim
 ·exact cg (fun _=>cg fun _=>h _ _ _) hs
 ·exact cg (fun _=>cg fun _=>h _ _ _) hs
 ·split at hs
  ·rename_i kG;rw[if_pos kG];exact⟨hs.1,cg (fun _ hh=>⟨h _ _ _ hh.1,h _ _ _ hh.2⟩) hs.2⟩
  ·rename_i kG;rw[if_neg kG];exact cg (fun _=>h _ _ _) hs
 ·exact Ca (fun _ _ _=>h _ _ _) hs
 ·exact⟨hs.1,Oc (fun _=>h _ _ _) hs.2⟩
 ·refine⟨hs.1,?_⟩;have hs:=hs.2;split at hs
  ·exact h _ _ _ hs
  ·exact hs.elim
 ·split at hs
  ·exact cg (fun _=>h _ _ _) hs
  ·exact hs.elim
 ·exact Ma h hs
def nO{c:Cl}{x y x' y':Prop}(hx:x->x')(hy:y->y')(h:jn c x y):jn c x' y':=by cases c<;>first|exact hy h|exact hx h
theorem px{full:List Oper}:∀ {l:List Oper} {acc:List Cl} {σ:Env} {bx:ae} {K K':List Cl->Env->ae->Prop},(∀acc σ bx,K acc σ bx->K' acc σ bx)->qF P C full l acc σ bx K->qF P C full l acc σ bx K'
 |[],_,_,_,_,_,h,hs=>h _ _ _ hs
 |o::rest,acc,σ,bx,K,K',h,hs=>by
  unfold qF at hs⊢;split at hs
  ·exact sP (fun _ _ _=>nO (h _ _ _) (px h)) hs
  ·refine cg (fun g hg=>?_) hs;unfold gK at hg⊢;split at hg
   ·rename_i h1;rw[if_pos h1];exact sP (fun _ _ _=>nO (h _ _ _) (px h)) hg
   ·rename_i h1;rw[if_neg h1];exact px h hg
theorem rJ{full:List Oper}{Pn Mo:D->ae->Prop}{Q Q':Env->ae->Prop}(hp:∀d bx,Pn d bx->Mo d bx)(hq:∀σ bx,Q σ bx->Q' σ bx):∀(t:qY) {σ:Env} {bx:ae},k_ P C full Pn Q t σ bx->k_ P C full Mo Q' t σ bx
 | .fin,_,_,h=>hq _ _ h
 | .stop,_,_,_=>trivial
 | .bm i n,σ,bx,h=>by
   unfold k_ oX at h⊢;split at h
   ·exact cg (fun _=>rJ hp hq n) h
   ·exact h.elim
 | .load i s n,σ,bx,h=>by
   unfold k_ oX zY at h⊢;split at h
   ·split at h
    ·exact⟨h.1,cg (fun _=>rJ hp hq n) h.2⟩
    ·exact h.elim
   ·exact h.elim
 | .both i jb a r,σ,bx,h=>by
   unfold k_ oX at h⊢;refine⟨?_,rJ hp hq r h.2⟩;have h:=h.1;split at h
   ·exact sP (fun c _ _=>nO (by unfold D5;cases c<;>first|exact hp _ _|exact id) (fun g=>⟨g.1,rJ hp hq a g.2⟩)) h
   ·exact h.elim
def wq{full:List Oper}{Pn Mo:D->ae->Prop}{Q Q':Env->ae->Prop}(hp:∀d bx,Pn d bx->Mo d bx)(hq:∀σ bx,Q σ bx->Q' σ bx)(h:wo P C full Pn Q σ bx):wo P C full Mo Q' σ bx:=
 let ⟨t,h1,h2⟩:=h
 ⟨t,h1,rJ hp hq t h2⟩
def gk(c:Cl)(bx' bx₂:ae):ae:=fun s=>if c.wr s then bx' s else bx₂ s
def ry(bx' bx₂:ae):gk .wa bx' bx₂=bx':=by funext s;simp[gk,Cl.wr]
def tO{t:Nat}{b:Bx}(bx bx₂:ae):gk (.w t) (ak bx t b) bx₂=ak bx₂ t b:=by
 funext s;by_cases h:s=t<;>simp[gk,Cl.wr,ak,h]
def iM{c:Cl}(h:∀s,c.wr s=false)(bx' bx₂:ae):gk c bx' bx₂=bx₂:=by funext s;simp[gk,h s]
theorem PD{x:Operand}(h:∀t,x= .tmp t->σ₂ t=σ t):ev σ₂ x=ev σ x:=by
 cases x with
 |tmp t=>exact h t rfl
 |_=>rfl
def Alike(σ σ₂:Env)(op:Op):Prop:=∀x∈op.operands.toList,ev σ₂ x=ev σ x
theorem pV{l:Option Operand}(h:∀x∈l.toList,ev σ₂ x=ev σ x):eV σ₂ l=eV σ l:=by
 cases l with
 |none=>rfl
 |some x=>simp only[eV,h x sI]
theorem xv{op:Op}(h:Alike σ σ₂ op)(hl:∀T a,op≠ .load T a):cQ P σ₂ bx₂ op=cQ P σ bx op:=by
 cases op with
 |move x=>simp only[cQ,h x (by simp[Op.operands])]
 |assign x=>simp only[cQ,h x (by simp[Op.operands])]
 |pick c x y=>simp only[cQ,h c (by simp[Op.operands]),h x (by simp[Op.operands]),h y (by simp[Op.operands])]
 |binOp op t x y t'=>simp only[cQ,h x (by simp[Op.operands]),h y (by simp[Op.operands])]
 |makeInterface t x=>simp only[cQ,h x (by simp[Op.operands])]
 |typeAssert x t t' ok=>simp only[cQ,h x (by simp[Op.operands])]
 |unOp op t x=>simp only[cQ,h x (by simp[Op.operands])]
 |fieldAddr t x i=>simp only[cQ,h x (by simp[Op.operands])]
 |field t x i=>simp only[cQ,h x (by simp[Op.operands])]
 |indexAddr t x y=>simp only[cQ,h x (by simp[Op.operands]),h y (by simp[Op.operands])]
 |index t x y=>simp only[cQ,h x (by simp[Op.operands]),h y (by simp[Op.operands])]
 |load t x=>exact absurd rfl (hl t x)
 |extract x i=>simp only[cQ,h x (by simp[Op.operands])]
 |slice t x lo hi mx=>
  cases mx with
  |none=>simp only[cQ,h x (by simp[Op.operands]),pV (l:=lo) (fun y hy=>h y (by simp at hy;simp[Op.operands,hy])),pV (l:=hi) (fun y hy=>h y (by simp at hy;simp[Op.operands,hy]))]
  |some m=>simp only[cQ,h x (by simp[Op.operands]),h m (by simp[Op.operands]),pV (l:=lo) (fun y hy=>h y (by simp at hy;simp[Op.operands,hy])),pV (l:=hi) (fun y hy=>h y (by simp at hy;simp[Op.operands,hy]))]
 |build t ps=>
  have:(ps.toList.map fun p=>(p.1,ev σ₂ p.2))=ps.toList.map fun p=>(p.1,ev σ p.2):=List.map_congr_left fun p hp=>by rw[h p.2 (by simp only[Op.operands,List.mem_map];exact⟨p,hp,rfl⟩)]
  simp only[cQ,this]
 |buildSlice t n ps=>
  have:(ps.toList.map fun p=>(p.1,ev σ₂ p.2))=ps.toList.map fun p=>(p.1,ev σ p.2):=List.map_congr_left fun p hp=>by rw[h p.2 (by simp only[Op.operands,List.mem_map];exact⟨p,hp,rfl⟩)]
  simp only[cQ,this]
 |nilCheck x=>simp only[cQ,h x (by simp[Op.operands])]
 |makeFunc f first caps=>
  have:caps.toList.map (ev σ₂)=caps.toList.map (ev σ):=List.map_congr_left fun x hx=>h x (by simp[Op.operands];exact .inr (by simpa using hx));have aap:first.toList.map (ev σ₂)=first.toList.map (ev σ):=List.map_congr_left fun x hx=>h x (by simp[Op.operands];exact .inl (by simpa using hx));simp only[cQ,this,aap]
 |convert s t x=>simp only[cQ,h x (by simp[Op.operands])]
 |call c=>
  obtain⟨callee,args,cx⟩:=c;cases callee with
  |builtin b=>
   have:args.toList.map (ev σ₂)=args.toList.map (ev σ):=List.map_congr_left fun x hx=>h x (by simp[Op.operands,Call.operands];simpa using hx);simp only[cQ,this]
  |_=>simp[cQ]
 |_=>simp[cQ]
theorem AM{ti:TI}{d:D}(h:∀s,(nY d).rd s=true->bx₂ s=bx s):iF ti bx₂ d=iF ti bx d:=by
 cases d with
 |loc t e i j=>simp only[iF,h t (by simp[nY,Cl.rd])]
 |_=>rfl
def zy{lo:Nat}{ti:TI}{a v:D}{bx':ae}(hs:gB lo ti bx a v=some bx'):(∀s,(lB a).wr s=false->bx' s=bx s)/\
 ∀bx₂:ae,(∀s,(lB a).rd s=true->bx₂ s=bx s)->gB lo ti bx₂ a v=some (gk (lB a) bx' bx₂):=by
 unfold gB at hs;split at hs
 ·rename_i t e i j;split at hs
  ·rename_i hc;unfold v_ at hs;split at hs
   ·rename_i hk;cases hi:(bx t).es[i]? with
    |none=>simp[hi]at hs
    |some d0=>
     simp only[hi,mS]at hs;obtain⟨d',n_,rfl⟩:=hs;refine⟨fun s hs=>?_,fun bx₂ h2=>?_⟩
     ·have:s≠t:=by simpa[lB,Cl.wr]using hs
      simp[ak,this]
     ·have ht:=h2 t (by simp[lB,Cl.rd]);simp only[gB,hc,and_self,if_true,v_,ht,hk,hi,n_,Option.map_some,lB,tO]
   ·cases hs
  ·cases hs
 ·cases hs
theorem N9{lo:Nat}{ti:TI}{b:Bool}{a v:D}{bx':ae}(hs:vJ (gB lo ti bx a v) b bx a v=some bx'):(∀s,(lB a).wr s=false->bx' s=bx s)/\
 ∀bx₂:ae,(∀s,(lB a).rd s=true->bx₂ s=bx s)->vJ (gB lo ti bx₂ a v) b bx₂ a v=some (gk (lB a) bx' bx₂):=by
 cases hq:gB lo ti bx a v with
 |some r=>
  rw[hq]at hs;injection hs with hs;subst hs;obtain⟨h1,h2⟩:=zy hq;exact⟨h1,fun bx₂ h=>by rw[h2 bx₂ h];rfl⟩
 |none=>
  rw[hq]at hs;simp only[vJ]at hs;split at hs
  ·rename_i t e i j;split at hs
   ·rename_i hc;injection hs with hs;subst hs;refine⟨fun _ _=>rfl,fun bx₂ h=>?_⟩;have hm:gk (lB (.loc t e i j)) bx bx₂=bx₂:=by
     funext s;unfold gk;split
     ·rename_i hw;exact(h s (by simpa[lB,Cl.rd,Cl.wr]using hw)).symm
     ·rfl
    rw[hm];cases iK:gB lo ti bx₂ (.loc t e i j) v with
    |some r2=>
     obtain⟨h3,h4⟩:=zy iK;have:=h4 bx fun s hs=>(h s hs).symm;rw[this]at hq;cases hq
    |none=>simp[vJ,hc]
   ·cases hs
  ·cases hs
structure Eff(P:Program)(C:Calc)(o:Oper)(σ:Env)(bx:ae)(c:Cl)(v:D)(bx':ae):Prop where
 np:∀x,c≠ .cU x
 same:∀s,c.wr s=false->bx' s=bx s
 Si:eQ o.op=0->c= .n
 Sj:eQ o.op≠2->∀s,c.wr s=false
 run:∀σ₂ bx₂,Alike σ σ₂ o.op->(∀s,c.rd s=true->bx₂ s=bx s)->∀K:Cl->Env->ae->Prop,K c (put σ₂ o.dst v) (gk c bx' bx₂)->bp P C o σ₂ bx₂ K
theorem Qv{dst:Option Tmp}{op:Op}{K:Cl->Env->ae->Prop}(hn:kI op=false)(hs:iq P C dst op σ bx K):
 ∃v bx',K .wa (put σ dst v) bx'/\∀σ₂,Alike σ σ₂ op->∀K':Cl->Env->ae->Prop,K' .wa (put σ₂ dst v) bx'->iq P C dst op σ₂ bx K':=by
 cases op with
 |makeMap T r=>
  cases r with
  |some r=>exact hs.elim
  |none=>
   cases dst with
   |none=>exact hs.elim
   |some d=>exact⟨_,_,hs,fun σ₂ _ K' hK=>hK⟩
 |mapUpdate T m k v=>
  simp only[iq]at hs;cases hz:zE (an P) (an P T) bx (ev σ m) (ev σ k) (ev σ v)with
  |none=>rw[hz]at hs;exact hs.elim
  |some b'=>
   rw[hz]at hs;refine⟨_,_,hs,fun σ₂ dw K' hK=>?_⟩;simp only[iq,dw m (by simp[Op.operands]),dw k (by simp[Op.operands]),dw v (by simp[Op.operands]),hz];exact hK
 |range T x=>
  cases dst with
  |none=>exact hs.elim
  |some d=>
   simp only[iq]at hs;cases hz:BD (an P T) bx (ev σ x)with
   |none=>rw[hz]at hs;exact hs.elim
   |some es=>
    rw[hz]at hs;refine⟨_,_,hs,fun σ₂ dw K' hK=>?_⟩;simp only[iq,dw x (by simp[Op.operands]),hz];exact hK
 |next it s=>cases hn
 |entry it=>
  simp only[iq]at hs;cases hz:tj bx (ev σ it)with
  |none=>rw[hz]at hs;exact hs.elim
  |some v=>
   rw[hz]at hs;refine⟨_,_,hs,fun σ₂ dw K' hK=>?_⟩;simp only[iq,dw it (by simp[Op.operands]),hz];exact hK
 |call c=>
  obtain⟨callee,args,cx⟩:=c;cases callee with
  |builtin b=>
   cases b with
   |len=>cases hn
   |copy=>
    simp only[iq]at hs;cases hz:yd C.lo (an P) cx.toList bx (args.toList.map (ev σ))with
    |none=>rw[hz]at hs;exact hs.elim
    |some b'=>
     rw[hz]at hs;refine⟨_,_,hs,fun σ₂ dw K' hK=>?_⟩;have hx:args.toList.map (ev σ₂)=args.toList.map (ev σ):=List.map_congr_left fun x hx=>dw x (by simp[Op.operands,Call.operands];simpa using hx);simp only[iq,hx,hz];exact hK
   |delete=>
    simp only[iq]at hs;cases hz:zR (an P) cx.toList bx (args.toList.map (ev σ))with
    |none=>rw[hz]at hs;exact hs.elim
    |some b'=>
     rw[hz]at hs;refine⟨_,_,hs,fun σ₂ dw K' hK=>?_⟩;have hx:args.toList.map (ev σ₂)=args.toList.map (ev σ):=List.map_congr_left fun x hx=>dw x (by simp[Op.operands,Call.operands];simpa using hx);simp only[iq,hx,hz];exact hK
   |_=>exact hs.elim
  |_=>exact hs.elim
 |_=>exact hs.elim
theorem Ka{op:Op}(hm:oU P op=true)(hn:kI op=false):eQ op=2:=by
 cases op with
 |call c=>
  obtain⟨callee,args,cx⟩:=c;cases callee with
  |builtin b=>cases b<;>first|rfl|(cases hn;done)|(cases hm;done)
  |_=>cases hm
 |next=>cases hn
 |_=>first|rfl|(cases hm;done)
def ML(hT:∀f b ds bx Q Qp,¬C.o.ud f b ds bx Q Qp){f:FuncId}{ds:List D}{K:Cl->D->ae->Prop}(hs:fz C f ds bx K):
 ∃c d bx',K c d bx'/\(∀x,c≠ .cU x)/\(∀s,c.wr s=false->bx' s=bx s)/\∀bx₂:ae,(∀s,c.rd s=true->bx₂ s=bx s)->∀K':Cl->D->ae->Prop,K' c d (gk c bx' bx₂)->fz C f ds bx₂ K':=by
 rcases hs with⟨d,hp,jO,hK⟩|⟨ds',d,ho,jO,hb,hK⟩|⟨ds',d,bF,ho,jO,hK⟩|⟨Q,_,_,jO,_⟩
 ·refine⟨_,_,_,hK,(by intro x;simp),fun _ _=>rfl,fun bx₂ gI K' nc=>?_⟩;rw[iM (fun _=>rfl)]at nc;exact .inl ⟨d,hp,jO,nc⟩
 ·refine⟨_,_,_,hK,(by intro x;simp),fun _ _=>rfl,fun bx₂ gI K' nc=>?_⟩;have eg:bx₂=bx:=funext fun s=>gI s (by simp[Cl.rd]);rw[iM (fun _=>rfl)]at nc;rw[eg]at nc⊢;exact .inr (.inl ⟨ds',d,ho,jO,hb,nc⟩)
 ·refine⟨_,_,_,hK,(by intro x;simp),fun s hs=>by simp[Cl.wr]at hs,fun bx₂ gI K' nc=>?_⟩;have eg:bx₂=bx:=funext fun s=>gI s (by simp[Cl.rd]);rw[ry]at nc;rw[eg];exact .inr (.inr (.inl ⟨ds',d,bF,ho,jO,nc⟩))
 ·exact absurd jO (hT _ _ _ _ _ _)
def zx(hT:∀f b ds bx Q Qp,¬C.o.ud f b ds bx Q Qp)(ll:C.yl=none)(rq:C.pn=false)(nf:C.df=false){o:Oper}{K:Cl->Env->ae->Prop}(hs:bp P C o σ bx K):∃c v bx',K c (put σ o.dst v) bx'/\Eff P C o σ bx c v bx':=by
 obtain⟨dst,op,ty,pos,af,g⟩:=o;unfold bp at hs;dsimp only at hs;split at hs
 ·rename_i T;split at hs
  ·rename_i d;cases hz:xO (iZ (an P T)) (r9 (an P T) (zeroV P T))with
   |none=>rw[hz]at hs;exact hs.elim
   |some z=>
    rw[hz]at hs;refine⟨_,_,_,hs,⟨(by intro x;simp),fun s hs=>?_,by simp[eQ],by simp[eQ],fun σ₂ bx₂ dw gI K hK=>?_⟩⟩
    ·have:s≠C.base+d:=by simpa[Cl.wr]using hs
     simp[ak,this]
    ·have hd:=gI (C.base+d) (by simp[Cl.rd]);rw[tO]at hK;simp only[bp,hz,aK,hd];exact hK
  ·exact hs.elim
 ·rename_i T x;split at hs
  ·rename_i d;cases hz:x8 (an P T) (ev σ x)with
   |none=>rw[hz]at hs;exact hs.elim
   |some z=>
    rw[hz]at hs;refine⟨_,_,_,hs,⟨(by intro x;simp),fun s hs=>?_,by simp[eQ],by simp[eQ],fun σ₂ bx₂ dw gI K hK=>?_⟩⟩
    ·have:s≠C.base+d:=by simpa[Cl.wr]using hs
     simp[ak,this]
    ·have hd:=gI (C.base+d) (by simp[Cl.rd]);have hx:=dw x (by simp[Op.operands]);rw[tO]at hK;simp only[bp,hx,hz,aK,hd];exact hK
  ·exact hs.elim
 ·rename_i T x y;cases hz:vJ (gB C.lo (an P T) bx (ev σ x) (ev σ y)) (r9 (an P T) (zeroV P T)) bx (ev σ x) (ev σ y)with
  |none=>rw[hz]at hs;exact hs.elim
  |some bx'=>
   rw[hz]at hs;obtain⟨h1,h2⟩:=N9 hz;refine⟨_,_,_,hs,⟨Iw _,h1,by simp[eQ],by simp[eQ],fun σ₂ bx₂ dw gI K hK=>?_⟩⟩;have hx:=dw x (by simp[Op.operands]);have hy:=dw y (by simp[Op.operands]);simp only[bp,hx,hy,h2 bx₂ gI,aK];exact hK
 ·rename_i T x;cases hz:iF (an P T) bx (ev σ x)with
  |none=>rw[hz]at hs;exact hs.elim
  |some d=>
   rw[hz]at hs;have hw:∀s,(nY (ev σ x)).wr s=false:=by intro s;cases ev σ x<;>rfl
   refine⟨_,_,_,hs,⟨BH _,fun s _=>rfl,by simp[eQ],fun _=>hw,fun σ₂ bx₂ dw gI K hK=>?_⟩⟩;have hx:=dw x (by simp[Op.operands]);rw[iM hw]at hK;simp only[bp,hx,AM gI,hz,aK];exact hK
 ·rename_i args cx;by_cases kG:FE C.tab dst=true
  ·rw[if_pos kG]at hs;rw[rq]at hs;cases hs.1
  rw[if_neg kG]at hs;cases hz:FF C.lo (an P) cx.toList (kT C.base dst) bx (args.toList.map (ev σ))with
  |none=>rw[hz]at hs;exact hs.elim
  |some r=>
   rw[hz]at hs;refine⟨_,_,_,hs,⟨(by intro x;simp),fun s hs=>by simp[Cl.wr]at hs,by simp[eQ],by simp[eQ],fun σ₂ bx₂ dw gI K hK=>?_⟩⟩;have hb:bx₂=bx:=funext fun s=>gI s (by simp[Cl.rd]);have hx:args.toList.map (ev σ₂)=args.toList.map (ev σ):=List.map_congr_left fun x hx=>dw x (by simp[Op.operands,Call.operands];simpa using hx);rw[ry]at hK;simp only[bp,hx,hb,if_neg kG,hz,aK];exact hK
 ·rename_i fo args cx;cases hf:ev σ fo with
  |fn f caps=>
   cases f with
   |func f=>
    rw[hf]at hs;have fin:∀σ₂ bx₂,Alike σ σ₂ (.call {callee:=.value fo,args,argTypes:=cx})->∀K:Cl->Env->ae->Prop,fz C f (args.toList.map (ev σ)++caps) bx₂ (fun c d bx'=>K c (put σ₂ dst d) bx')->bp P C ⟨dst,.call {callee:=.value fo,args,argTypes:=cx},ty,pos,af,g⟩ σ₂ bx₂ K:=by
     intro σ₂ bx₂ dw K hK;have hx:args.toList.map (ev σ₂)=args.toList.map (ev σ):=List.map_congr_left fun x hx=>dw x (by simp[Op.operands,Call.operands];exact .inr (by simpa using hx));have kF:=dw fo (by simp[Op.operands,Call.operands]);simp only[bp,hx,kF,hf,lT];exact hK
    simp only[lT]at hs;rcases hs with⟨d,hp,jO,hK⟩|⟨ds',d,ho,jO,hb,hK⟩|⟨ds',d,bF,ho,jO,hK⟩|⟨Q,_,_,jO,_⟩
    ·refine⟨_,_,_,hK,⟨(by intro x;simp),fun _ _=>rfl,by simp[eQ],by simp[eQ],fun σ₂ bx₂ dw gI K hK=>?_⟩⟩;rw[iM (fun _=>rfl)]at hK;exact fin σ₂ bx₂ dw K (.inl ⟨d,hp,jO,hK⟩)
    ·refine⟨_,_,_,hK,⟨(by intro x;simp),fun _ _=>rfl,by simp[eQ],by simp[eQ],fun σ₂ bx₂ dw gI K' nc=>?_⟩⟩;have eg:bx₂=bx:=funext fun s=>gI s (by simp[Cl.rd]);rw[iM (fun _=>rfl)]at nc;rw[eg]at nc⊢;exact fin σ₂ bx dw K' (.inr (.inl ⟨ds',d,ho,jO,hb,nc⟩))
    ·refine⟨_,_,_,hK,⟨(by intro x;simp),fun s hs=>by simp[Cl.wr]at hs,by simp[eQ],by simp[eQ],fun σ₂ bx₂ dw gI K' nc=>?_⟩⟩;have eg:bx₂=bx:=funext fun s=>gI s (by simp[Cl.rd]);rw[ry]at nc;rw[eg];exact fin σ₂ bx dw K' (.inr (.inr (.inl ⟨ds',d,bF,ho,jO,nc⟩)))
    ·exact absurd jO (hT _ _ _ _ _ _)
   |yield l=>
    rw[hf]at hs;cases caps with
    |nil=>simp only[lT,qd,ll]at hs
    |cons _ _=>exact hs.elim
   |_=>rw[hf]at hs;exact hs.elim
  |iw f caps=>
   rw[hf]at hs;have fin:∀σ₂ bx₂,Alike σ σ₂ (.call {callee:=.value fo,args,argTypes:=cx})->∀K:Cl->Env->ae->Prop,fz C f (caps++args.toList.map (ev σ)) bx₂ (fun c d bx'=>K c (put σ₂ dst d) bx')->bp P C ⟨dst,.call {callee:=.value fo,args,argTypes:=cx},ty,pos,af,g⟩ σ₂ bx₂ K:=by
    intro σ₂ bx₂ dw K hK;have hx:args.toList.map (ev σ₂)=args.toList.map (ev σ):=List.map_congr_left fun x hx=>dw x (by simp[Op.operands,Call.operands];exact .inr (by simpa using hx));have kF:=dw fo (by simp[Op.operands,Call.operands]);simp only[bp,hx,kF,hf,lT];exact hK
   simp only[lT]at hs;rcases hs with⟨d,hp,jO,hK⟩|⟨ds',d,ho,jO,hb,hK⟩|⟨ds',d,bF,ho,jO,hK⟩|⟨Q,_,_,jO,_⟩
   ·refine⟨_,_,_,hK,⟨(by intro x;simp),fun _ _=>rfl,by simp[eQ],by simp[eQ],fun σ₂ bx₂ dw gI K hK=>?_⟩⟩;rw[iM (fun _=>rfl)]at hK;exact fin σ₂ bx₂ dw K (.inl ⟨d,hp,jO,hK⟩)
   ·refine⟨_,_,_,hK,⟨(by intro x;simp),fun _ _=>rfl,by simp[eQ],by simp[eQ],fun σ₂ bx₂ dw gI K' nc=>?_⟩⟩;have eg:bx₂=bx:=funext fun s=>gI s (by simp[Cl.rd]);rw[iM (fun _=>rfl)]at nc;rw[eg]at nc⊢;exact fin σ₂ bx dw K' (.inr (.inl ⟨ds',d,ho,jO,hb,nc⟩))
   ·refine⟨_,_,_,hK,⟨(by intro x;simp),fun s hs=>by simp[Cl.wr]at hs,by simp[eQ],by simp[eQ],fun σ₂ bx₂ dw gI K' nc=>?_⟩⟩;have eg:bx₂=bx:=funext fun s=>gI s (by simp[Cl.rd]);rw[ry]at nc;rw[eg];exact fin σ₂ bx dw K' (.inr (.inr (.inl ⟨ds',d,bF,ho,jO,nc⟩)))
   ·exact absurd jO (hT _ _ _ _ _ _)
  |_=>rw[hf]at hs;exact hs.elim
 ·rw[rq]at hs;exact absurd hs.1 (by decide)
 ·rw[nf]at hs;exact absurd hs.1 (by decide)
 ·rename_i T l c;split at hs
  ·rename_i d;cases hz:uG (an P) (an P T) (ev σ l) (ev σ c)with
   |none=>rw[hz]at hs;exact hs.elim
   |some z=>
    rw[hz]at hs;refine⟨_,_,_,hs,⟨(by intro x;simp),fun s hs=>?_,by simp[eQ],by simp[eQ],fun σ₂ bx₂ dw gI K hK=>?_⟩⟩
    ·have:s≠C.base+d:=by simpa[Cl.wr]using hs
     simp[ak,this]
    ·have hd:=gI (C.base+d) (by simp[Cl.rd]);have hx:=dw l (by simp[Op.operands]);have hy:=dw c (by simp[Op.operands]);rw[tO]at hK;simp only[bp,hx,hy,hz,aK,hd];exact hK
  ·exact hs.elim
 ·rename_i op' h1 h2 h3 h4 h5 h6 h7 h8 h9;have bR:∀σ₂ bx₂ K,bp P C ⟨dst,op,ty,pos,af,g⟩ σ₂ bx₂ K=fA P C dst op σ₂ bx₂ K:=by
   intro σ₂ bx₂ K;unfold bp;dsimp only;split<;>first|rfl|(exact absurd rfl (h1 _))|(exact absurd rfl (h2 _ _))|(exact absurd rfl (h3 _ _ _))|(exact absurd rfl (h4 _ _))|(exact absurd rfl (h5 _ _))|(exact absurd rfl (h6 _ _ _))|(exact absurd rfl (h7 _))|(exact absurd rfl (h8 _ _ _))|(exact absurd rfl (h9 _ _ _))
  have mH:∀d,cQ P σ bx op=some d->(∀σ₂ bx₂ (K:Cl->Env->ae->Prop),cQ P σ₂ bx₂ op=some d->K .n (put σ₂ dst d) bx₂->fA P C dst op σ₂ bx₂ K)->K .n (put σ dst d) bx->∃c v bx',K c (put σ dst v) bx'/\Eff P C ⟨dst,op,ty,pos,af,g⟩ σ bx c v bx':=by
   intro d hz hE hq;by_cases hb:∃T n ps,op= .buildSlice T n ps
   ·obtain⟨T,n,ps,rfl⟩:=hb;refine⟨_,_,_,hq,⟨(by intro x;simp),fun _ _=>rfl,fun _=>rfl,fun _ _=>rfl,fun σ₂ bx₂ dw gI K hK=>?_⟩⟩;have hv:=xv (P:=P) (bx:=bx) (bx₂:=bx₂) dw (fun T a=>h4 T a);rw[hz]at hv;rw[iM (fun _=>rfl)]at hK;rw[bR];exact hE _ _ _ hv hK
   ·refine⟨_,_,_,hq,⟨(by intro x;simp),fun _ _=>rfl,fun _=>rfl,fun _ _=>rfl,fun σ₂ bx₂ dw gI K hK=>?_⟩⟩;have hv:=xv (P:=P) (bx:=bx) (bx₂:=bx₂) dw (fun T a=>h4 T a);rw[hz]at hv;rw[iM (fun _=>rfl)]at hK;rw[bR];exact hE _ _ _ hv hK
  clear h1 h2 h3 h4 h5 h6 h7 h8 h9;unfold fA at hs;split at hs
  ·rename_i T m ps;have CI:∀σ₂,Alike σ σ₂ (.buildSlice T m ps)->(ps.toList.map fun p=>(p.1,ev σ₂ p.2))=ps.toList.map fun p=>(p.1,ev σ p.2):=fun σ₂ dw=>List.map_congr_left fun p hp=>by rw[dw p.2 (by simp only[Op.operands,List.mem_map];exact⟨p,hp,rfl⟩)]
   split at hs
   ·rename_i ho;split at hs
    ·rename_i d;cases hz:uF (an P) (an P T) m (ps.toList.map fun p=>(p.1,ev σ p.2))with
     |none=>rw[hz]at hs;exact hs.elim
     |some z=>
      rw[hz]at hs;refine⟨_,_,_,hs,⟨(by intro x;simp),fun s hs=>?_,by simp[eQ],by simp[eQ],fun σ₂ bx₂ dw gI K hK=>?_⟩⟩
      ·have:s≠C.base+d:=by simpa[Cl.wr]using hs
       simp[ak,this]
      ·have hd:=gI (C.base+d) (by simp[Cl.rd]);rw[tO]at hK;rw[bR];unfold fA;simp only[ho,if_true,CI σ₂ dw,hz,aK,hd];exact hK
    ·exact hs.elim
   ·rename_i ho;cases hz:cQ P σ bx (.buildSlice T m ps)with
    |none=>rw[hz]at hs;exact hs.elim
    |some d=>
     rw[hz]at hs;refine mH d hz (fun σ₂ bx₂ K hv hK=>?_) hs;unfold fA;simp only[ho,if_false,hv,aK];exact hK
  ·rename_i T m k ok;cases hz:sE P (an P) (an P T) bx (ev σ m) (ev σ k) ok with
   |none=>rw[hz]at hs;exact hs.elim
   |some d=>
    rw[hz]at hs;have hw:∀s,(xo (ev σ m)).wr s=false:=by intro s;cases ev σ m<;>rfl
    refine⟨_,_,_,hs,⟨Iv _,fun s _=>rfl,by simp[eQ],fun _=>hw,fun σ₂ bx₂ dw gI K hK=>?_⟩⟩;have hx:=dw m (by simp[Op.operands]);have hy:=dw k (by simp[Op.operands]);rw[iM hw]at hK;have hl:iW bx₂ (ev σ m)=iW bx (ev σ m):=by
     cases hm:ev σ m with
     |omap t e=>
      have:=gI t (by simp[hm,xo,Cl.rd]);simp only[iW,this]
     |_=>rfl
    have pk:sE P (an P) (an P T) bx₂ (ev σ m) (ev σ k) ok=some d:=by
     rw[<-hz];unfold sE;rw[hl]
    rw[bR];unfold fA;simp only[hx,hy,pk,aK];exact hK
  ·rename_i recv name args cx;unfold oS at hs;split at hs
   ·rename_i t d0 AF;cases hm:sF P t name with
    |none=>rw[hm]at hs;exact hs.elim
    |some f=>
     rw[hm]at hs;obtain⟨c,d,bx',hK,Wb,fL,mO⟩:=ML hT (show fz C f (d0::args.toList.map (ev σ)) bx fun c d bx'=>K c (put σ dst d) bx' from hs);refine⟨_,_,_,hK,⟨Wb,fL,by simp[eQ],by simp[eQ],fun σ₂ bx₂ dw gI K hK=>?_⟩⟩;have hx:args.toList.map (ev σ₂)=args.toList.map (ev σ):=List.map_congr_left fun x hx=>dw x (by simp[Op.operands,Call.operands];exact .inr (by simpa using hx));have kF:=dw recv (by simp[Op.operands,Call.operands]);rw[bR];unfold fA;simp only[hx,kF,AF,oS,hm,aK];exact mO bx₂ gI (fun c d bx'=>K c (put σ₂ dst d) bx') hK
   ·exact hs.elim
  ·rename_i op' hb oy GW;split at hs
   ·rename_i vw;obtain⟨hgate,bF,hs⟩:=hs;have Wc:kI op=false:=by
     cases h:kI op with
     |false=>rfl
     |true=>have:=hgate h;rw[rq]at this;cases this
    obtain⟨v,bx',hK,mO⟩:=Qv Wc hs;refine⟨_,_,_,hK,⟨(by intro x;simp),(fun s hs=>by simp[Cl.wr]at hs),(fun h0=>by rw[Ka vw Wc]at h0;cases h0),fun h2=>absurd (Ka vw Wc) h2,fun σ₂ bx₂ dw gI K hK=>?_⟩⟩;have eg:bx₂=bx:=funext fun s=>gI s (by simp[Cl.rd]);rw[ry]at hK;rw[eg,bR];have:fA P C dst op σ₂ bx K=((kI op=true->C.pn=true)/\C.lo=0/\iq P C dst op σ₂ bx K):=by
     unfold fA;split
     ·exact absurd rfl (hb _ _ _)
     ·exact absurd rfl (oy _ _ _ _)
     ·exact absurd rfl (GW _ _ _ _)
     ·exact if_pos vw
    rw[this];exact⟨hgate,bF,mO σ₂ dw K hK⟩
   ·rename_i vw;cases hz:cQ P σ bx op with
    |none=>rw[hz]at hs;exact hs.elim
    |some d=>
     rw[hz]at hs;refine mH d hz (fun σ₂ bx₂ K hv hK=>?_) hs;have:fA P C dst op σ₂ bx₂ K=aK (cQ P σ₂ bx₂ op) fun v=>K .n (put σ₂ dst v) bx₂:=by
      unfold fA;split
      ·exact absurd rfl (hb _ _ _)
      ·exact absurd rfl (oy _ _ _ _)
      ·exact absurd rfl (GW _ _ _ _)
      ·exact if_neg vw
     rw[this,hv];exact hK
def Ds(ll:C.yl=none)(rq:C.pn=false)(nf:C.df=false){o:Oper}{K:Cl->Env->ae->Prop}(hs:bp P C o σ bx K):
 ∃R:Cl->D->ae->Prop,(∀c v bx',R c v bx'->K c (put σ o.dst v) bx')/\∀σ₂,Alike σ σ₂ o.op->∀K2:Cl->Env->ae->Prop,(∀c v bx',R c v bx'->K2 c (put σ₂ o.dst v) bx')->bp P C o σ₂ bx K2:=by
 by_cases hc:∃fo args cx,o.op= .call {callee:=.value fo,args,argTypes:=cx}
 ·obtain⟨fo,args,cx,po⟩:=hc;obtain⟨dst,op,ty,pos,af,g⟩:=o;dsimp only at po;subst po;refine⟨fun c v bx'=>K c (put σ dst v) bx',fun _ _ _ h=>h,fun σ₂ dw K2 hK=>?_⟩;have hx:args.toList.map (ev σ₂)=args.toList.map (ev σ):=List.map_congr_left fun x hx=>dw x (by simp[Op.operands,Call.operands];exact .inr (by simpa using hx));have kF:=dw fo (by simp[Op.operands,Call.operands]);have dW:lT C (ev σ fo) (args.toList.map (ev σ)) bx fun c d bx'=>K c (put σ dst d) bx':=hs;show lT C (ev σ₂ fo) (args.toList.map (ev σ₂)) bx fun c d bx'=>K2 c (put σ₂ dst d) bx';rw[hx,kF];exact Ca (fun c d bx' h=>hK _ _ _ h) dW
 ·by_cases hi:∃recv name args cx,o.op= .call {callee:=.invoke recv name,args,argTypes:=cx}
  ·obtain⟨recv,name,args,cx,po⟩:=hi;obtain⟨dst,op,ty,pos,af,g⟩:=o;dsimp only at po;subst po;refine⟨fun c v bx'=>K c (put σ dst v) bx',fun _ _ _ h=>h,fun σ₂ dw K2 hK=>?_⟩;have hx:args.toList.map (ev σ₂)=args.toList.map (ev σ):=List.map_congr_left fun x hx=>dw x (by simp[Op.operands,Call.operands];exact .inr (by simpa using hx));have kF:=dw recv (by simp[Op.operands,Call.operands]);have dW:oS P C (ev σ recv) name (args.toList.map (ev σ)) bx fun c d bx'=>K c (put σ dst d) bx':=hs;show oS P C (ev σ₂ recv) name (args.toList.map (ev σ₂)) bx fun c d bx'=>K2 c (put σ₂ dst d) bx';rw[hx,kF];unfold oS at dW⊢;split at dW
   ·exact cg (fun _=>sk fun c d bx' h=>hK _ _ _ h) dW
   ·exact dW.elim
  have hd:∀σ K,bp P C o σ bx K=bp P C.As o σ bx K:=by
   obtain⟨oo,tab,base,bk,lo,yl,pn,df⟩:=C;dsimp only at ll rq nf;subst ll;subst rq;subst nf;obtain⟨dst,op,ty,pos,af,g⟩:=o;intro σ K;cases op with
   |call c=>
    obtain⟨callee,args,cx⟩:=c;cases callee with
    |builtin b=>cases b<;>rfl
    |value fo=>exact absurd ⟨_,_,_,rfl⟩ hc
    |invoke recv name=>exact absurd ⟨_,_,_,_,rfl⟩ hi
   |defer c=>
    obtain⟨callee,args,cx⟩:=c;cases callee<;>rfl
   |_=>rfl
  rw[hd]at hs;obtain⟨c,v,bx',hK,he⟩:=zx (C:=C.As) (fun _ _ _ _ _ _ h=>h) rfl rfl rfl hs;refine⟨fun c' v' bK=>c'=c/\v'=v/\bK=bx',by rintro _ _ _ ⟨rfl,rfl,rfl⟩;exact hK,fun σ₂ dw K2 RC=>?_⟩;rw[hd];refine he.run σ₂ bx dw (fun _ _=>rfl) K2 ?_;have hm:gk c bx' bx=bx':=by
   funext s;cases h:c.wr s with
   |true=>simp[gk,h]
   |false=>simp[gk,h,he.same s h]
  rw[hm];exact RC _ _ _ ⟨rfl,rfl,rfl⟩
end Go.V
