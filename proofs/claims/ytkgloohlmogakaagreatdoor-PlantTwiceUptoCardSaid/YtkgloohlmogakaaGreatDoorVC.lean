/- A variable gets another name: so that what was made under one activation's slots lasts under another's. Regions, in order and in any order. A region whose order is drawn. A region whose order is drawn comes to the end that it comes to in order. Code; functions. A range over a function; all code. Functions: what the data level says of a function's text is its contract. Functions that are ranged over. -/
import Derived.Test.YtkgloohlmogakaaGreatDoorVM
import Derived.Sort.LoopGhostIn
import Derived.Conc.MuLone
import Derived.RangeFuncRecord
import Derived.RangeFuncIn
import Derived.Scope
import Derived.RangeFuncLeaves
set_option linter.unusedSimpArgs false
set_option linter.unusedVariables false
namespace Go.V
open Go.RowKit
mutual
def dq(s e s' e':Nat):D->D
 | .loc t k i j=>if t=s/\k=e then .loc s' e' i j else .loc t k i j
 | .osl t k sz o n=>if t=s/\k=e then .osl s' e' sz o n else .osl t k sz o n
 | .csl t k i j n=>if t=s/\k=e then .csl s' e' i j n else .csl t k i j n
 | .agg ds=> .agg (mT s e s' e' ds)
 | .tup ds=> .tup (mT s e s' e' ds)
 | .fn f ds=> .fn f (mT s e s' e' ds)
 | .bfn f ds=> .bfn f (mT s e s' e' ds)
 | .ifc t d=> .ifc t (dq s e s' e' d)
 |d=>d
def mT(s e s' e':Nat):List D->List D
 |[]=>[]
 |d::ds=>dq s e s' e' d::mT s e s' e' ds
end
section
variable (s e s' e':Nat)
theorem qS:∀ds:List D,mT s e s' e' ds=ds.map (dq s e s' e')
 |[]=>by simp[mT]
 |d::ds=>by simp[mT,qS ds]
theorem ye(d:D):(dq s e s' e' d).cells=d.cells.map (dq s e s' e'):=by
 cases d with
 |agg ds=>simp only[dq,D.cells,qS]
 |loc t k i j=>simp only[D.cells,List.map_cons,List.map_nil];by_cases h:t=s/\k=e<;>simp[dq,h]
 |osl t k sz o n=>simp only[D.cells,List.map_cons,List.map_nil];by_cases h:t=s/\k=e<;>simp[dq,h]
 |csl t k i j n=>simp only[D.cells,List.map_cons,List.map_nil];by_cases h:t=s/\k=e<;>simp[dq,h]
 |_=>simp[dq,D.cells]
end
variable {P:Program} {X:Ctx} {ρ ρ':bN} {σ:Env} {bx:ae} {a:Act} {w:World} {s e s' e':Nat} {S:Nat->Prop} {d:D} {v:Value}
theorem ba.rC(h:ba w S d v):dq s e s' e' d=d:=by
 have hL:∀(ds:List D) (vs:Array Value),vs.size=ds.length->(∀(i:Nat) d v,ds[i]? =some d->vs[i]? =some v->dq s e s' e' d=d)->mT s e s' e' ds=ds:=by
  intro ds vs hl h;rw[qS];refine List.ext_getElem? fun i=>?_;rw[List.getElem?_map];cases hd:ds[i]? with
  |none=>rfl
  |some d=>
   have hi:i<vs.size:=by have:=(List.getElem?_eq_some_iff.1 hd).1;omega
   rw[Option.map_some,h i d vs[i] hd (Array.getElem?_eq_getElem hi)]
 induction h with
 |agg hl _ ih=>simp only[dq,hL _ _ hl ih]
 |tup hl _ ih=>simp only[dq,hL _ _ hl ih]
 |fn hl _ ih=>simp only[dq,hL _ _ hl ih]
 |bfn hl _ ih=>simp only[dq,hL _ _ hl ih]
 |ifc _ ih=>simp only[dq,ih]
 |_=>simp only[dq]
theorem aE.rC(h:aE w S ρ d v)(h1:∀t k p,ρ t k=some p->ρ' t k=some p)(h2:∀p,ρ s e=some p->ρ' s' e'=some p):aE w S ρ' (dq s e s' e' d) v:=by
 have hL:∀(ds:List D) (vs:Array Value),vs.size=ds.length->(∀(i:Nat) d v,ds[i]? =some d->vs[i]? =some v->aE w S ρ' (dq s e s' e' d) v)->vs.size=(mT s e s' e' ds).length/\∀(i:Nat) d v,(mT s e s' e' ds)[i]? =some d->vs[i]? =some v->aE w S ρ' d v:=by
  intro ds vs hl h;rw[qS];refine⟨by simpa using hl,fun i d v hd hv=>?_⟩;rw[List.getElem?_map,Option.map_eq_some_iff]at hd;obtain⟨d0,hd0,rfl⟩:=hd;exact h i d0 v hd0 hv
 induction h with
 |pure h=>rw[h.rC];exact .pure h
 |@loc t k i j q p hp hq=>
  simp only[dq];split
  ·rename_i hc;obtain⟨rfl,rfl⟩:=hc;exact .loc (h2 _ hp) hq
  ·exact .loc (h1 _ _ _ hp) hq
 |@osl t k sz o n off cap p hp hsz h0 hoff hn hcap=>
  simp only[dq];split
  ·rename_i hc;obtain⟨rfl,rfl⟩:=hc;exact .osl (h2 _ hp) hsz h0 hoff hn hcap
  ·exact .osl (h1 _ _ _ hp) hsz h0 hoff hn hcap
 |@csl t k i j n off cap p hp hoff hn hcap=>
  simp only[dq];split
  ·rename_i hc;obtain⟨rfl,rfl⟩:=hc;exact .csl (h2 _ hp) hoff hn hcap
  ·exact .csl (h1 _ _ _ hp) hoff hn hcap
 |omap hp=>simp only[dq];exact .omap (h1 _ _ _ hp)
 |agg hl _ ih=>simp only[dq];exact .agg (hL _ _ hl ih).1 (hL _ _ hl ih).2
 |tup hl _ ih=>simp only[dq];exact .tup (hL _ _ hl ih).1 (hL _ _ hl ih).2
 |fn hl _ ih=>simp only[dq];exact .fn (hL _ _ hl ih).1 (hL _ _ hl ih).2
 |bfn hl _ ih=>simp only[dq];exact .bfn (hL _ _ hl ih).1 (hL _ _ hl ih).2
 |ifc _ ih=>simp only[dq];exact .ifc ih
def fM(s s':Nat)(sel:Nat->Bool)(bx:ae):ae:=fun t=>
 if t=s' then⟨(bx s').ep+1,1,(bx s).sz,(bx s).ty,(bx s).es⟩else if t=s then {bx s with k:=0}
 else if sel t then {bx t with es:=(bx t).es.map (dq s (bx s).ep s' ((bx s').ep+1))}else bx t
theorem Holds.rC{p:Place}{es:List D}(h:Holds w S ρ p es)(h1:∀t k p,ρ t k=some p->ρ' t k=some p)(h2:∀p,ρ s e=some p->ρ' s' e'=some p):Holds w S ρ' p (es.map (dq s e s' e')):=by
 obtain⟨⟨cur,hc,hs,us,hu⟩,hl,hm,hz⟩:=h;refine⟨⟨cur,hc,hs,us,fun i d j c hi hj=>?_⟩,by simpa using hl,hm,fun i d hi=>?_⟩
 ·rw[List.getElem?_map,Option.map_eq_some_iff]at hi;obtain⟨d0,hi,rfl⟩:=hi;rw[ye,List.getElem?_map,Option.map_eq_some_iff]at hj;obtain⟨c0,hj,rfl⟩:=hj;obtain⟨g1,g2,g3⟩:=hu i d0 j c0 hi hj;exact⟨g1,g2.rC h1 h2,g3⟩
 ·rw[List.getElem?_map,Option.map_eq_some_iff]at hi;obtain⟨d0,hi,rfl⟩:=hi;rw[ye,List.length_map];exact hz i d0 hi
theorem ej.rC{ds:List D}{es:List MapEntry}(h:ej ds es):ds.map (dq s e s' e')=ds:=by
 induction h with
 |nil=>rfl
 |cons hk hv _ ih=>
  rw[List.map_cons,ih];simp only[dq,mT,ba.rC (hk.rep (w:=default) (S:=fun _=>True)),ba.rC (hv.rep (w:=default) (S:=fun _=>True))]
theorem jU.rC{ρ:bN}{o:Obj}{es:List D}(h:jU ρ o es):es.map (dq s e s' e')=es:=by
 cases h with
 |@map ents clock es h=>
  rw[List.map_cons,h.rC];simp only[dq]
 |@iter m k p since last seen hp=>
  have:(seen.toList.map fun n:Nat=>D.int .i64 (n:Int)).map (dq s e s' e')=seen.toList.map fun n:Nat=>D.int .i64 (n:Int):=by
   rw[List.map_map];exact List.map_congr_left fun x hx=>by simp only[Function.comp,dq]
  rw[List.map_cons,List.map_cons,List.map_cons,this];simp only[dq]
theorem az.CM(h:az X ρ σ bx a w)(hlo:X.lo=0)(hne:s≠s')(hk:(bx s).k=1)(hk':(bx s').k=0)(sel:Nat->Bool):
 ∃ρ',az X ρ' σ (fM s s' sel bx) a w/\(∀d v,aE w (ay X ρ bx w) ρ d v->aE w (ay X ρ' (fM s s' sel bx) w) ρ' d v)/\(∀p,ρ s (bx s).ep=some p->ρ' s' ((bx s').ep+1)=some p)/\ρ'.hold=ρ.hold:=by
 have hρ:∀t k p,ρ t k=some p->(if t=s'/\k=(bx s').ep+1 then ρ s (bx s).ep else ρ t k)=some p:=by
  intro t k p hp;rw[if_neg]
  ·exact hp
  ·rintro⟨rfl,rfl⟩;have:=h.eps _ _ _ hp;omega
 have hR:∀p,ρ s (bx s).ep=some p->(if s'=s'/\(bx s').ep+1=(bx s').ep+1 then ρ s (bx s).ep else ρ s' ((bx s').ep+1))=some p:=fun p hp=>by simpa using hp
 have live:∀t,t≠s'->lv (fM s s' sel bx t).k->t≠s/\(fM s s' sel bx t).k=(bx t).k/\(fM s s' sel bx t).ep=(bx t).ep/\(fM s s' sel bx t).sz=(bx t).sz/\(fM s s' sel bx t).ty=(bx t).ty:=by
  intro t ht hk;unfold fM at hk⊢;simp only[ht,if_false]at hk⊢;by_cases hs:t=s
  ·subst hs;simp[CC]at hk
  ·simp only[hs,if_false]at hk⊢;split<;>exact⟨hs,rfl,rfl,rfl,rfl⟩
 have at':fM s s' sel bx s'=⟨(bx s').ep+1,1,(bx s).sz,(bx s).ty,(bx s).es⟩:=by simp[fM]
 refine⟨⟨fun t k=>if t=s'/\k=(bx s').ep+1 then ρ s (bx s).ep else ρ t k,ρ.hold⟩,?_⟩;have hS:∀b,ay X ρ bx w b->ay X ⟨fun t k=>if t=s'/\k=(bx s').ep+1 then ρ s (bx s).ep else ρ t k,ρ.hold⟩ (fM s s' sel bx) w b:=by
  intro b hb;refine⟨hb.1,hb.2.1,fun t ht p hp=>?_⟩;by_cases hts:t=s'
  ·subst hts;rw[at']at hp;simp only[and_self,if_true]at hp;exact hb.2.2 s hk p hp
  ·obtain⟨_,g1,g2,_⟩:=live t hts (by rw[ht];decide);rw[g1]at ht;rw[g2]at hp;simp only[hts,false_and,if_false]at hp;exact hb.2.2 t ht p hp
 have hD:∀d v,aE w (ay X ρ bx w) ρ d v->aE w (ay X ⟨fun t k=>if t=s'/\k=(bx s').ep+1 then ρ s (bx s).ep else ρ t k,ρ.hold⟩ (fM s s' sel bx) w) ⟨fun t k=>if t=s'/\k=(bx s').ep+1 then ρ s (bx s).ep else ρ t k,ρ.hold⟩ d v:=
  fun d v hr=>hr.mono (fun _ _=>rfl) hS hρ
 refine⟨⟨h.fr,h.s0,h.nb,h.mb,h.ec,h.size,h.marks.mono (fun _ _=>rfl) hS hρ (fun _ h=>h),h.nle,h.mkb,fun t=>hD _ _ (h.tmps t),hD _ _ h.glo,fun t ht=>?_,fun t t' p p' ht ht' htt hp hp'=>?_,fun t k p hp=>?_,fun t k p hp=>hρ t k p (h.r0 t k p hp),h.hold,h.holds0,h.yc,h.y0 hlo _ _,h.y0,h.h0lt,h.maps.of (fun t ht=>?_) hρ (fun _ _ _ _ _ h=>h) (fun _ h=>h)⟩,hD,fun p hp=>by simpa using hp,rfl⟩
 ·by_cases hts:t=s'
  ·subst hts;obtain⟨p,hp,h2,h3,h4,h5⟩:=h.box s (by rw[hk];decide);rw[at'];exact⟨p,by simpa using hp,h2,h3,⟨h4.1,fun _=>h4.2 hk⟩,h5.mono rfl (fun _ _=>rfl) hS hρ⟩
  ·obtain⟨g0,g1,g2,g3,g4⟩:=live t hts ht;obtain⟨p,hp,h2,h3,h4,h5⟩:=h.box t (by rw[<-g1];exact ht);refine⟨p,?_,h2.trans g3.symm,h3.trans g4.symm,⟨h4.1,fun hk1=>h4.2 (g1▸hk1)⟩,?_⟩
   ·rw[g2];simp only[hts,false_and,if_false];exact hp
   ·have h6:=h5.mono (w':=w) rfl (fun _ _=>rfl) hS (ρ':=ρ) (fun _ _ _ h=>h);unfold fM;simp only[hts,g0,if_false];split
    ·exact h6.rC hρ hR
    ·exact h6.mono rfl (fun _ _=>rfl) (fun _ h=>h) hρ
 ·by_cases hts:t=s'
  ·subst hts;obtain⟨g0,g1,g2,_⟩:=live t' (Ne.symm htt) ht';rw[at']at hp;rw[g2]at hp';simp only[and_self,if_true]at hp;simp only[Ne.symm htt,false_and,if_false]at hp';exact h.inj s t' p p' hk (by rw[<-g1];exact ht') (Ne.symm g0) hp hp'
  ·obtain⟨g0,g1,g2,_⟩:=live t hts (by rw[ht];decide);rw[g2]at hp;simp only[hts,false_and,if_false]at hp;by_cases hts':t'=s'
   ·subst hts';rw[at']at hp';simp only[and_self,if_true]at hp';exact h.inj t s p p' (by rw[<-g1];exact ht) (by rw[hk];decide) g0 hp hp'
   ·obtain⟨k0,k1,k2,_⟩:=live t' hts' ht';rw[k2]at hp';simp only[hts',false_and,if_false]at hp';exact h.inj t t' p p' (by rw[<-g1];exact ht) (by rw[<-k1];exact ht') htt hp hp'
 ·by_cases hts:t=s'
  ·subst hts;rw[at'];simp only[true_and]at hp;split at hp
   ·rename_i hk0;rw[hk0];exact Nat.le_refl _
   ·have:=h.eps _ _ _ hp;simp only;omega
  ·simp only[hts,false_and,if_false]at hp;have:=h.eps _ _ _ hp;unfold fM;simp only[hts,if_false];split
   ·rename_i hs;subst hs;exact this
   ·split<;>exact this
 ·unfold fM at ht⊢;by_cases hts:t=s'
  ·subst hts;simp at ht
  ·simp only[hts,if_false]at ht⊢;by_cases hs:t=s
   ·subst hs;simp at ht
   ·simp only[hs,if_false]at ht⊢;by_cases hsel:sel t=true
    ·simp only[hsel,if_true]at ht⊢;obtain⟨p,o,_,_,_,g4⟩:=h.maps.has t ht;refine⟨ht,?_,?_⟩<;>first|trivial|rfl|exact g4.rC
    ·simp only[hsel]at ht⊢;refine⟨ht,?_,?_⟩<;>first|trivial|rfl
theorem az.rename(h:az X ρ σ bx a w)(hlo:X.lo=0)(hne:s≠s')(hk:(bx s).k=1)(hk':(bx s').k=0)(sel:Nat->Bool):
 ∃ρ',az X ρ' σ (fM s s' sel bx) a w/\(∀d v,aE w (ay X ρ bx w) ρ d v->aE w (ay X ρ' (fM s s' sel bx) w) ρ' d v):=
 let ⟨ρ',h1,h2,_⟩:=h.CM hlo hne hk hk' sel
 ⟨ρ',h1,h2⟩
end Go.V
namespace Go.V
open Go.RowKit
variable {P:Program} {C:Calc} {X:Ctx} {ρ:bN} {σ:Env} {bx:ae} {a:Act} {w:World} {r:Option Nat} {n:Nat}
def lZ(P:Program)(C:Calc)(full:List Oper)(o:Oper)(σ:Env)(bx:ae)(K:Cl->Env->ae->Prop):Prop:=
 match o.guard with
 |none=>aZ P C o σ bx K
 |some (j,want)=>aI (lk full[j]? σ) fun g=>gK g want (aZ P C o σ bx K) (K .n (put σ o.dst (.raw undef)) bx)
theorem nX{c:Cl}{x y:Prop}(h:∀d,c≠ .pan d):fF c x y=y:=by cases c<;>first|rfl|exact absurd rfl (h _)
theorem sn(full:List Oper)(o:Oper)(rest:List Oper)(acc:List Cl)(K:List Cl->Env->ae->Prop):
 lR P C full (o::rest) acc σ bx K=lZ P C full o σ bx fun c σ' bx'=>fF c (K (c::acc) σ' bx') (lR P C full rest (c::acc) σ' bx' K):=by
 obtain⟨dst,op,ty,pos,af,g⟩:=o;cases g with
 |none=>rfl
 |some g=>obtain⟨j,want⟩:=g;rfl
structure yV(P:Program)(C:Calc)(full:List Oper)(o:Oper)(σ:Env)(bx:ae)(c:Cl)(v:D)(bx':ae):Prop where
 np:∀x,c≠ .pan x
 same:∀s,c.wr s=false->bx' s=bx s
 le0:cZ o.op=0->c= .n
 le1:cZ o.op≠2->∀s,c.wr s=false
 run:∀σ₂ bx₂,(∀t∈o.looksAt full.toArray,σ₂ t=σ t)->(∀s,c.rd s=true->bx₂ s=bx s)->∀K:Cl->Env->ae->Prop,K c (put σ₂ o.dst v) (eo c bx' bx₂)->lZ P C full o σ₂ bx₂ K
theorem jG{full:List Oper}{o:Oper}{σ₂:Env}(h:∀t∈o.looksAt full.toArray,σ₂ t=σ t):Alike σ σ₂ o.op:=fun x hx=>Hb fun t ht=>h t (by
 subst ht;exact List.mem_append_left _ (List.mem_filterMap.2 ⟨.tmp t,hx,rfl⟩))
theorem Fm(hT:∀f b ds bx Q Qp,¬C.o.oF f b ds bx Q Qp)(hyl:C.yl=none)(hpn:C.pn=false)(hdf:C.df=false){full:List Oper}{o:Oper}{K:Cl->Env->ae->Prop}(hs:lZ P C full o σ bx K):∃c v bx',K c (put σ o.dst v) bx'/\yV P C full o σ bx c v bx':=by
 unfold lZ at hs;split at hs
 ·rename_i hg;obtain⟨c,v,bx',hK,he⟩:=sM hT hyl hpn hdf hs;refine⟨c,v,bx',hK,⟨he.np,he.same,he.le0,he.le1,fun σ₂ bx₂ h1 h2 K hK=>?_⟩⟩;unfold lZ;rw[hg];exact he.run σ₂ bx₂ (jG h1) h2 K hK
 ·rename_i j want hg;cases hz:lk full[j]? σ with
  |none=>rw[hz]at hs;exact hs.elim
  |some g=>
   rw[hz]at hs;have hgu:∀σ₂:Env,(∀t∈o.looksAt full.toArray,σ₂ t=σ t)->lk full[j]? σ₂=some g:=by
    intro σ₂ h1;rw[<-hz];unfold lk;cases hj:full[j]? with
    |none=>rfl
    |some o'=>
     dsimp only;cases hd:o'.dst with
     |none=>rfl
     |some d=>
      dsimp only;rw[h1 d];refine List.mem_append_right _ ?_;rw[hg];simp[hj,hd]
   simp only[aI,gK]at hs;by_cases hw:g=some want
   ·rw[if_pos hw]at hs;obtain⟨c,v,bx',hK,he⟩:=sM hT hyl hpn hdf hs;refine⟨c,v,bx',hK,⟨he.np,he.same,he.le0,he.le1,fun σ₂ bx₂ h1 h2 K hK=>?_⟩⟩;unfold lZ;rw[hg];simp only[hgu σ₂ h1,aI,gK,hw,if_true];exact he.run σ₂ bx₂ (jG h1) h2 K hK
   ·rw[if_neg hw]at hs;refine⟨_,_,_,hs,⟨(by intro x;simp),fun _ _=>rfl,fun _=>rfl,fun _ _=>rfl,fun σ₂ bx₂ h1 h2 K hK=>?_⟩⟩;unfold lZ;rw[hg];simp only[hgu σ₂ h1,aI,gK,hw,if_false];rw[fg (fun _=>rfl)]at hK;exact hK
theorem l9{ops:Array Oper}(h:az X ρ σ bx a w)(hG:Good P C X)(hrd:∀l,r=some l->X.md=1){o:Oper}(hdst:∀t,o.dst=some t->t<X.N){K:Cl->Env->ae->Prop}(hs:lZ P C ops.toList o σ bx K)
 {next:Act->World->Prop} {Q:Exit->Act->World->Prop} (hK:∀c σ' bx' a' w' ρ',(∀x,c≠ .pan x)->K c σ' bx'->az X ρ' σ' bx' a' w'->next a' w')
 (hP:∀d σ' bx' a' w' ρ' v,K (.pan d) σ' bx'->az X ρ' σ' bx' a' w'->aE w' (ay X ρ' bx' w') ρ' d v->Q (.panic [pe v]) a' w'):
 if Region.wanted o (yielded ops a.tmps)=true then o.wpIn (Fw r) n P a w next Q else(∀f,o.about P w a.eval=some f->(Fw r).fn f)/\next (a.put o.dst undef) w:=by
 unfold lZ at hs;split at hs
 ·rename_i hg;rw[if_pos (by simp[Region.wanted,hg])];exact wq h hG hrd hdst hs hK hP
 ·rename_i j want hg;cases hz:lk ops.toList[j]? σ with
  |none=>rw[hz]at hs;exact hs.elim
  |some g=>
   rw[hz]at hs;have hy:yielded ops a.tmps j=g:=by
    unfold lk at hz;split at hz
    ·rename_i o' ho';split at hz
     ·rename_i d hd;have ht:=h.tmps d;have ho2:ops[j]? =some o':=by rw[Array.getElem?_toList]at ho';exact ho'
      unfold pN at hz;split at hz
      ·rename_i b hb;rw[hb]at ht;have:=ht.fX;injection hz with hz;subst hz;have hlt:d<a.tmps.size:=by
        rcases Nat.lt_or_ge d a.tmps.size with h1|h1
        ·exact h1
        ·rw[Array.getD_eq_getD_getElem?,Array.getElem?_eq_none h1]at this;cases this
       have hget:a.tmps[d]? =some (.bool b):=by
        rw[Array.getD_eq_getD_getElem?,Array.getElem?_eq_getElem hlt]at this;rw[Array.getElem?_eq_getElem hlt];simpa using this
       simp[yielded,ho2,hd,hget]
      ·rename_i vs hb;rw[hb]at ht;have:=ht.wQ;split at hz
       ·injection hz with hz;subst hz;rw[Array.getD_eq_getD_getElem?]at this;simp only[yielded,ho2,Option.bind_some,hd];cases hget:a.tmps[d]? with
        |none=>rfl
        |some v=>rw[hget]at this;simp only[Option.getD_some]at this;rw[this]
       ·cases hz
      ·cases hz
     ·cases hz
    ·cases hz
   simp only[aI,gK]at hs;by_cases hw:g=some want
   ·rw[if_pos hw]at hs;rw[if_pos (by simp[Region.wanted,hg,hy,hw])];exact wq h hG hrd hdst hs hK hP
   ·rw[if_neg hw]at hs;rw[if_neg (by simp[Region.wanted,hg,hy,hw])];exact⟨fun _ _=>trivial,hK _ _ _ _ _ _ (by intro x;simp) hs (h.put hdst (.pure (.raw _)))⟩
theorem xU{ops:Array Oper}(hG:Good P C X)(hrd:∀l,r=some l->X.md=1)(hdst:∀o∈ops.toList,∀t,o.dst=some t->t<X.N){Q:Exit->Act->World->Prop}{K:List Cl->Env->ae->Prop}
 (hQ:∀acc σ' bx' a' w' ρ',(∀d l,acc≠ .pan d::l)->K acc σ' bx'->az X ρ' σ' bx' a' w'->Q .normal a' w')
 (hP:∀d acc σ' bx' a' w' ρ' v,K (.pan d::acc) σ' bx'->az X ρ' σ' bx' a' w'->aE w' (ay X ρ' bx' w') ρ' d v->Q (.panic [pe v]) a' w'):∀(rest done:List Oper) (acc:List Cl) (ρ:bN) (σ:Env) (bx:ae) (a:Act) (w:World),ops.toList=done++rest->(∀d l,acc≠ .pan d::l)->az X ρ σ bx a w->lR P C ops.toList rest acc σ bx K->
  wpOpsIn (Fw r) n P ops Q (List.range' done.length rest.length) a w
 |[],done,acc,ρ,σ,bx,a,w,hl,hacc,h,hs=>hQ _ _ _ _ _ _ hacc hs h
 |o::rest,done,acc,ρ,σ,bx,a,w,hl,hacc,h,hs=>by
  rw[sn]at hs;have ho:ops[done.length]? =some o:=by rw[<-Array.getElem?_toList,hl];simp
  simp only[List.length_cons,List.range'_succ,wpOpsIn,ho];exact l9 h hG hrd (hdst o (by rw[hl];simp)) hs (fun c σ' bx' a' w' ρ' hc hK h'=>by
   rw[nX hc]at hK;have:=xU hG hrd hdst hQ hP rest (done++[o]) (c::acc) ρ' σ' bx' a' w' (by rw[hl];simp) (fun d l e=>hc d (by injection e)) h' hK;simpa using this) (fun d σ' bx' a' w' ρ' v hK h' hr=>hP _ _ _ _ _ _ _ _ hK h' hr)
theorem J9{acc:List Cl}{x y:Prop}(h:∀d l,acc≠ .pan d::l):pD acc x y=y:=by
 unfold pD;split
 ·exact absurd rfl (h _ _)
 ·rfl
theorem tN{ops:Array Oper}(hG:Good P C X)(hrd:∀l,r=some l->X.md=1)(hdst:∀o∈ops.toList,∀t,o.dst=some t->t<X.N){Q:Exit->Act->World->Prop}{K:List Cl->Env->ae->Prop}
 (hQ:∀acc σ' bx' a' w' ρ',(∀d l,acc≠ .pan d::l)->K acc σ' bx'->az X ρ' σ' bx' a' w'->Q .normal a' w')
 (hP:∀d acc σ' bx' a' w' ρ' v,K (.pan d::acc) σ' bx'->az X ρ' σ' bx' a' w'->aE w' (ay X ρ' bx' w') ρ' d v->Q (.panic [pe v]) a' w') {ps:List (Nat×Nat)}:∀(rest done:List Oper) (i:Nat) (acc:List Cl) (ρ:bN) (σ:Env) (bx:ae) (a:Act) (w:World),ops.toList=done++rest->(∀d l,acc≠ .pan d::l)->az X ρ σ bx a w->nk P C ops.toList ps i rest acc σ bx K->
  wpOpsIn (Fw r) n P ops Q (List.range' done.length rest.length) a w
 |[],done,i,acc,ρ,σ,bx,a,w,hl,hacc,h,hs=>hQ _ _ _ _ _ _ hacc hs h
 |o::rest,done,i,acc,ρ,σ,bx,a,w,hl,hacc,h,hs=>by
  simp only[nk]at hs;cases hz:lY C.lo (ld ps i) σ bx with
  |none=>rw[hz]at hs;exact hs.elim
  |some s=>
   rw[hz]at hs;have hs:lR P C ops.toList [o] acc s.1 s.2 (fun acc' σ' bx'=>pD acc' (K acc' σ' bx') (nk P C ops.toList ps (i+1) rest acc' σ' bx' K)):=hs;have h:=tH hG.lo _ h hz;rw[sn]at hs;have ho:ops[done.length]? =some o:=by rw[<-Array.getElem?_toList,hl];simp
   simp only[List.length_cons,List.range'_succ,wpOpsIn,ho];exact l9 h hG hrd (hdst o (by rw[hl];simp)) hs (fun c σ' bx' a' w' ρ' hc hK h'=>by
    have hn:∀d l,c::acc≠ .pan d::l:=fun d l e=>hc d (by injection e);rw[nX hc]at hK;simp only[lR,J9 hn]at hK;have:=tN hG hrd hdst hQ hP rest (done++[o]) (i+1) (c::acc) ρ' σ' bx' a' w' (by rw[hl];simp) hn h' hK;simpa using this) (fun d σ' bx' a' w' ρ' v hK h' hr=>hP _ _ _ _ _ _ _ _ hK h' hr)
theorem DR{ops:Array Oper}(hG:Good P C X)(hrd:∀l,r=some l->X.md=1)(hdst:∀o∈ops.toList,∀t,o.dst=some t->t<X.N){Q:Exit->Act->World->Prop}{K:List Cl->Env->ae->Prop}
 (hQ:∀acc σ' bx' a' w' ρ',(∀d l,acc≠ .pan d::l)->K acc σ' bx'->az X ρ' σ' bx' a' w'->Q .normal a' w')
 (hP:∀d acc σ' bx' a' w' ρ' v,K (.pan d::acc) σ' bx'->az X ρ' σ' bx' a' w'->aE w' (ay X ρ' bx' w') ρ' d v->Q (.panic [pe v]) a' w') (ps:List (Nat×Nat)) (rest done:List Oper) (acc:List Cl) (ρ:bN) (σ:Env) (bx:ae) (a:Act) (w:World) (hl:ops.toList=done++rest) (hacc:∀d l,acc≠ .pan d::l) (h:az X ρ σ bx a w) (hs:sk P C ops.toList ps rest acc σ bx K):
  wpOpsIn (Fw r) n P ops Q (List.range' done.length rest.length) a w:=by
 cases ps with
 |nil=>exact xU hG hrd hdst hQ hP rest done acc ρ σ bx a w hl hacc h hs
 |cons p ps=>exact tN hG hrd hdst hQ hP rest done 0 acc ρ σ bx a w hl hacc h hs
theorem vL(hT:∀f b ds bx Q Qp,¬C.o.oF f b ds bx Q Qp)(hyl:C.yl=none)(hpn:C.pn=false)(hdf:C.df=false){full:List Oper}{K:List Cl->Env->ae->Prop}:∀(rest:List Oper) (acc:List Cl) (σ:Env) (bx:ae),lR P C full rest acc σ bx K->
 ∃(cs:Nat->Cl) (vs:Nat->D) (σs:Nat->Env) (bs:Nat->ae),σs 0=σ/\bs 0=bx/\(∀(k:Nat) o,rest[k]? =some o->σs (k+1)=put (σs k) o.dst (vs k)/\yV P C full o (σs k) (bs k) (cs k) (vs k) (bs (k+1)))/\
  K (((List.range rest.length).map cs).reverse++acc) (σs rest.length) (bs rest.length)
 |[],acc,σ,bx,h=>⟨fun _=> .n,fun _=> .undef,fun _=>σ,fun _=>bx,rfl,rfl,fun k o ho=>by simp at ho,h⟩
 |o::rest,acc,σ,bx,h=>by
  rw[sn]at h;obtain⟨c,v,bx',hK,he⟩:=Fm hT hyl hpn hdf h;rw[nX he.np]at hK;obtain⟨cs,vs,σs,bs,h1,h2,h3,h4⟩:=vL hT hyl hpn hdf rest _ _ _ hK;refine⟨fun k=>match k with|0=>c|k+1=>cs k,fun k=>match k with|0=>v|k+1=>vs k,fun k=>match k with|0=>σ|k+1=>σs k,fun k=>match k with|0=>bx|k+1=>bs k,rfl,rfl,fun k o' ho=>?_,?_⟩
  ·cases k with
   |zero=>
    simp only[List.getElem?_cons_zero,Option.some.injEq]at ho;subst ho;exact⟨h1,by show yV P C full o σ bx c v (bs 0);rw[h2];exact he⟩
   |succ k=>exact h3 k o' (by simpa using ho)
  ·simp only[List.length_cons,List.range_succ_eq_map,List.map_cons,List.map_map,List.reverse_cons,List.append_assoc,List.singleton_append];exact h4
def aQ{α:Type}(W:Nat->Prop)(L:Nat->Prop)(val:Nat->α)(init x:α):Prop:=
 (∃j,L j/\W j/\(∀j',L j'->W j'->j'<=j)/\x=val j)\/((∀j,L j->¬W j)/\x=init)
theorem aQ.seq{α:Type}{W:Nat->Prop}[DecidablePred W]{val:Nat->α}{xs:Nat->α}(m:Nat)(h:∀k,k<m->xs (k+1)=if W k then val k else xs k):aQ W (· <m) val (xs 0) (xs m):=by
 induction m with
 |zero=>exact .inr ⟨fun j hj=>absurd hj (Nat.not_lt_zero j),rfl⟩
 |succ m ih=>
  have ih:=ih fun k hk=>h k oM;have hm:=h m oM;by_cases hw:W m
  ·rw[if_pos hw]at hm;exact .inl ⟨m,Nat.lt_succ_self m,hw,fun j' hj _=>Nat.le_of_lt_succ hj,hm⟩
  ·rw[if_neg hw]at hm;rw[hm];rcases ih with⟨j,h1,h2,h3,h4⟩|⟨h1,h2⟩
   ·refine .inl ⟨j,Nat.lt_succ_of_lt h1,h2,fun j' hj hw'=>?_,h4⟩;rcases Nat.lt_succ_iff_lt_or_eq.1 hj with hj|rfl
    ·exact h3 j' hj hw'
    ·exact absurd hw' hw
   ·refine .inr ⟨fun j hj hw'=>?_,h2⟩;rcases Nat.lt_succ_iff_lt_or_eq.1 hj with hj|rfl
    ·exact h1 j hj hw'
    ·exact hw hw'
theorem aQ.uniq{α:Type}{W L L':Nat->Prop}{val:Nat->α}{init x y:α}(h:aQ W L val init x)(h':aQ W L' val init y)(hL:∀j,W j->(L j<->L' j)):x=y:=by
 rcases h with⟨j,h1,h2,h3,rfl⟩|⟨h1,rfl⟩
 ·rcases h' with⟨j',g1,g2,g3,rfl⟩|⟨g1,rfl⟩
  ·have:j=j':=Nat.le_antisymm (g3 j ((hL j h2).1 h1) h2) (h3 j' ((hL j' g2).2 g1) g2);rw[this]
  ·exact absurd h2 (g1 j ((hL j h2).1 h1))
 ·rcases h' with⟨j',g1,g2,g3,rfl⟩|⟨g1,rfl⟩
  ·exact absurd g2 (h1 j' ((hL j' g2).2 g1))
  ·rfl
theorem aQ.step{α:Type}{W L:Nat->Prop}[DecidablePred W]{val:Nat->α}{init x:α}{i:Nat}{L':Nat->Prop}(h:aQ W L val init x)(hL':∀j,L' j<->L j\/j=i)(ho:W i->∀j,L j->W j->j<=i):
 aQ W L' val init (if W i then val i else x):=by
 by_cases hw:W i
 ·rw[if_pos hw];refine .inl ⟨i,(hL' i).2 (.inr rfl),hw,fun j hj hwj=>?_,rfl⟩;rcases(hL' j).1 hj with hj|rfl
  ·exact ho hw j hj hwj
  ·exact Nat.le_refl _
 ·rw[if_neg hw];rcases h with⟨j,h1,h2,h3,rfl⟩|⟨h1,rfl⟩
  ·refine .inl ⟨j,(hL' j).2 (.inl h1),h2,fun j' hj hwj=>?_,rfl⟩;rcases(hL' j').1 hj with hj|rfl
   ·exact h3 j' hj hwj
   ·exact absurd hwj hw
  ·refine .inr ⟨fun j hj hwj=>?_,rfl⟩;rcases(hL' j).1 hj with hj|rfl
   ·exact h1 j hj hwj
   ·exact hw hwj
theorem y_{c c':Cl}(h:apart c c')(s:Nat):(c.wr s=true->c'.rd s=true->False)/\(c'.wr s=true->c.rd s=true->False):=by
 cases c<;>cases c'<;>simp_all[apart,Cl.wr,Cl.rd];all_goals first
  |(intro e;subst e;first|exact h|exact fun e=>h e|exact fun e=>h e.symm)
  |trivial
theorem zr:∀ {ps:List (Nat×Nat)} {acc:List Cl},xv ps acc->∀i j,(i,j)∈ps->uO acc[i]? acc[j]?
 |[],_,_,i,j,hm=>by cases hm
 |(i',j')::ps,acc,h,i,j,hm=>by
  rcases List.mem_cons.1 hm with e|hm
  ·injection e with e1 e2;subst e1;subst e2;exact h.1
  ·exact zr h.2 i j hm
end Go.V
namespace Go.V
open Go.RowKit
variable {P:Program} {C:Calc} {X:Ctx} {ρ:bN} {σ:Env} {bx:ae} {a:Act} {w:World} {r:Option Nat} {n:Nat}
theorem tB(ops:List Oper)(acc:Array Nat):(ops.foldl (fun acc o=>acc.push (o.after.foldl (fun s e=>if Region.binds .any e then s|||2 ^ e.on|||acc.getD e.on 0 else s) 0)) acc).size=acc.size+ops.length:=by
 induction ops generalizing acc with
 |nil=>rfl
 |cons o ops ih=>rw[List.foldl_cons,ih];simp;omega
def hU(acc:Array Nat)(o:Oper):Nat:=o.after.foldl (fun s e=>if Region.binds .any e then s|||2 ^ e.on|||acc.getD e.on 0 else s) 0
theorem uQ(ops:List Oper)(acc:Array Nat)(k:Nat)(hk:k<acc.size):(ops.foldl (fun acc o=>acc.push (hU acc o)) acc)[k]? =acc[k]?:=by
 induction ops generalizing acc with
 |nil=>rfl
 |cons o ops ih=>
  rw[List.foldl_cons,ih _ (by simp;omega),Array.getElem?_push,if_neg oM]
theorem tC(ops:List Oper)(o:Oper):(ops++[o]).foldl (fun acc o=>acc.push (hU acc o)) #[]=(ops.foldl (fun acc o=>acc.push (hU acc o)) #[]).push (hU (ops.foldl (fun acc o=>acc.push (hU acc o)) #[]) o):=by rw[List.foldl_append];rfl
theorem EE{acc:Array Nat}{L:Nat->Prop}{o:Oper}(hL:∀e∈o.after,Region.binds .any e=true->L e.on/\∀j,(acc.getD e.on 0).testBit j=true->L j){j:Nat}(h:(hU acc o).testBit j=true):L j:=by
 unfold hU at h;rw[<-Array.foldl_toList]at h;have key:∀(es:List Edge) (s:Nat),(∀e∈es,Region.binds .any e=true->L e.on/\∀j,(acc.getD e.on 0).testBit j=true->L j)->(s.testBit j=true->L j)->
  (es.foldl (fun s e=>if Region.binds .any e then s|||2 ^ e.on|||acc.getD e.on 0 else s) s).testBit j=true->L j:=by
  intro es;induction es with
  |nil=>exact fun s _ hs h=>hs h
  |cons e es ih=>
   intro s he hs h;rw[List.foldl_cons]at h;refine ih _ (fun e' he'=>he e' (List.mem_cons_of_mem _ he')) ?_ h;intro h;split at h
   ·rename_i hb;obtain⟨g1,g2⟩:=he e (List.mem_cons_self ..) hb;simp only[Nat.testBit_or,Nat.testBit_two_pow,Bool.or_eq_true,decide_eq_true_eq]at h;rcases h with(h|h)|h
    ·exact hs h
    ·exact h▸g1
    ·exact g2 j h
   ·exact hs h
 exact key _ 0 (fun e he=>hL e (by simpa using he)) sI h
theorem j_{ops:List Oper}{L:Nat->Prop}(hL:∀(i:Nat) o,ops[i]? =some o->L i->∀e∈o.after,Region.binds .any e=true->L e.on/\e.on<i):
 ∀(i:Nat) o,ops[i]? =some o->(∀e∈o.after,Region.binds .any e=true->L e.on/\e.on<i)->∀j,((Region.before ops.toArray).getD i 0).testBit j=true->L j:=by
 have hb:Region.before ops.toArray=ops.foldl (fun acc o=>acc.push (hU acc o)) #[]:=by
  unfold Region.before;rw[List.foldl_toArray];rfl
 rw[hb];intro i;induction i using Nat.strongRecOn with
 |_ i ih=>
  intro o ho he j hj;have hi:=(List.getElem?_eq_some_iff.1 ho).1;have hsplit:ops=ops.take i++[o]++ops.drop (i+1):=by
   have:=List.take_append_drop i ops;rw[List.drop_eq_getElem_cons hi]at this;have ho':ops[i]=o:=by rw[List.getElem?_eq_getElem hi]at ho;injection ho
   rw[ho']at this;simpa using this.symm
  have hacc:∀k,k<i->((ops.take i).foldl (fun acc o=>acc.push (hU acc o)) #[]).getD k 0=(ops.foldl (fun acc o=>acc.push (hU acc o)) #[]).getD k 0:=by
   intro k hk;rw[Array.getD_eq_getD_getElem?,Array.getD_eq_getD_getElem?]
   congr 1
   conv=>rhs;rw[<-List.take_append_drop i ops,List.foldl_append]
   refine(uQ _ _ _ ?_).symm;have:=tB (ops.take i) #[];unfold hU;rw[this];simp;omega
  have hval:(ops.foldl (fun acc o=>acc.push (hU acc o)) #[]).getD i 0=hU ((ops.take i).foldl (fun acc o=>acc.push (hU acc o)) #[]) o:=by
   have hsz:((ops.take i).foldl (fun acc o=>acc.push (hU acc o)) #[]).size=i:=by
    have:=tB (ops.take i) #[];unfold hU;rw[this];simp;omega
   rw[Array.getD_eq_getD_getElem?]
   conv=>lhs;rw[hsplit,List.foldl_append]
   rw[uQ _ _ _ (by rw[tC];simp[hsz]),tC,Array.getElem?_push,if_pos hsz.symm];rfl
  rw[hval]at hj;refine EE (fun e hem hb=>?_) hj;obtain⟨g1,g2⟩:=he e hem hb;refine⟨g1,fun j' hj'=>?_⟩;rw[hacc _ g2]at hj';have hlt:e.on<ops.length:=oM;exact ih e.on g2 ops[e.on] (List.getElem?_eq_getElem hlt) (hL e.on _ (List.getElem?_eq_getElem hlt) g1) j' hj'
end Go.V
namespace Go.V
open Go.RowKit
variable {P:Program} {C:Calc} {X:Ctx} {ρ:bN} {σ:Env} {bx:ae} {a:Act} {w:World} {r:Option Nat} {n:Nat}
theorem Bu{full:List Oper}{ps:List (Nat×Nat)}(h:uZ full ps=true):
 (∀(j:Nat) o,full[j]? =some o->∀e∈o.after,Region.binds .any e=true->e.on<j)/\
 ∀(i j:Nat) o o',full[j]? =some o->full[i]? =some o'->i≠j->ordered (Region.before full.toArray) i j=false->
  (∀d,o'.dst=some d->d∉tmpsOf full o)/\(∀d,o.dst=some d->d∉tmpsOf full o')/\
  (cZ o.op=2->cZ o'.op≠0->(full.length - 1 - j,full.length - 1 - i)∈ps\/(full.length - 1 - i,full.length - 1 - j)∈ps):=by
 simp only[uZ,List.all_eq_true,Bool.and_eq_true]at h;refine⟨fun j o ho e he hbe=>?_,fun i j o o' ho ho' hij hord=>?_⟩
 ·have:=(h (o,j) (List.mem_zipIdx_iff_getElem?.2 ho)).1 e (by simpa using he);rw[hbe]at this;simpa using this
 ·have:=(h (o,j) (List.mem_zipIdx_iff_getElem?.2 ho)).2 (o',i) (List.mem_zipIdx_iff_getElem?.2 ho');simp only[Bool.or_eq_true,beq_iff_eq,hij,hord,Bool.false_eq_true,false_or,Bool.and_eq_true,Bool.not_eq_true',List.contains_eq_mem,decide_eq_true_eq,Bool.and_eq_false_iff]at this;obtain⟨⟨h1,h2⟩,h3⟩:=this;refine⟨fun d hd=>?_,fun d hd=>?_,fun h4 h5=>?_⟩
  ·rw[hd]at h1;simpa using h1
  ·rw[hd]at h2;simpa using h2
  ·rcases h3 with(h3|h3)|h3
   ·simp[h4,h5]at h3
   ·exact .inl h3
   ·exact .inr h3
theorem filter_le{α:Type}{p q:α->Bool}:∀ {l:List α},(∀x∈l,q x=true->p x=true)->(l.filter q).length<=(l.filter p).length
 |[],_=>Nat.le_refl _
 |z::l,h1=>by
  have ih:=filter_le (fun x hx=>h1 x (List.mem_cons_of_mem _ hx));cases hq:q z with
  |true=>simp[hq,h1 z sI hq,ih]
  |false=>
   cases hp:p z with
   |true=>simp[hq,hp];omega
   |false=>simp[hq,hp,ih]
theorem filter_lt{α:Type}{p q:α->Bool}:∀ {l:List α},(∀x∈l,q x=true->p x=true)->(∃x∈l,p x=true/\q x=false)->(l.filter q).length<(l.filter p).length
 |[],_,h=>by obtain⟨x,hx,_⟩:=h;cases hx
 |y::l,h1,h2=>by
  have hle:(l.filter q).length<=(l.filter p).length:=filter_le fun x hx=>h1 x (List.mem_cons_of_mem _ hx);obtain⟨x,hx,hp,hq⟩:=h2;rcases List.mem_cons.1 hx with rfl|hx
  ·simp only[List.filter_cons,hp,hq,if_true,Bool.false_eq_true,if_false,List.length_cons];omega
  ·have ih:=filter_lt (fun x hx=>h1 x (List.mem_cons_of_mem _ hx)) ⟨x,hx,hp,hq⟩;cases hqy:q y with
   |true=>simp[hqy,h1 y sI hqy];exact ih
   |false=>
    cases hpy:p y with
    |true=>simp[hqy,hpy];omega
    |false=>simp[hqy,hpy];exact ih
structure lH(P:Program)(C:Calc)(full:List Oper)(cs:Nat->Cl)(vs:Nat->D)(σs:Nat->Env)(bs:Nat->ae):Prop where
 at_:∀(k:Nat) o,full[k]? =some o->σs (k+1)=put (σs k) o.dst (vs k)/\yV P C full o (σs k) (bs k) (cs k) (vs k) (bs (k+1))
 back:∀(j:Nat) o,full[j]? =some o->∀e∈o.after,Region.binds .any e=true->e.on<j
 free:∀(i j:Nat) o o',full[j]? =some o->full[i]? =some o'->i≠j->ordered (Region.before full.toArray) i j=false->
  (∀d,o'.dst=some d->d∉tmpsOf full o)/\(∀s,(cs i).wr s=true->(cs j).rd s=true->False)
def Wt(full:List Oper)(t:Nat)(j:Nat):Prop:=∃o,full[j]? =some o/\o.dst=some t
def Ws(full:List Oper)(cs:Nat->Cl)(s:Nat)(j:Nat):Prop:=j<full.length/\(cs j).wr s=true
structure Inv(full:List Oper)(cs:Nat->Cl)(vs:Nat->D)(σs:Nat->Env)(bs:Nat->ae)(L:Nat->Prop)(σ:Env)(bx:ae):Prop where
 closed:∀(i:Nat) o,full[i]? =some o->L i->∀e∈o.after,Region.binds .any e=true->L e.on
 lt:∀j,L j->j<full.length
 t:∀t,aQ (Wt full t) L vs (σs 0 t) (σ t)
 s:∀s,aQ (Ws full cs s) L (fun j=>bs (j+1) s) (bs 0 s) (bx s)
section
variable {full:List Oper} {cs:Nat->Cl} {vs:Nat->D} {σs:Nat->Env} {bs:Nat->ae} {L:Nat->Prop}
open Classical in
theorem lH.I_(hR:lH P C full cs vs σs bs)(t m:Nat)(hm:m<=full.length):aQ (Wt full t) (· <m) vs (σs 0 t) (σs m t):=by
 refine aQ.seq (xs:=fun k=>σs k t) m fun k hk=>?_;have hk':k<full.length:=oM;have ho:=List.getElem?_eq_getElem hk';rw[(hR.at_ k _ ho).1];by_cases hw:Wt full t k
 ·rw[if_pos hw];obtain⟨o,ho',hd⟩:=hw;rw[ho]at ho';injection ho' with ho';subst ho';simp[put,hd,ao]
 ·rw[if_neg hw];cases hd:full[k].dst with
  |none=>rfl
  |some d=>
   have:t≠d:=fun e=>hw ⟨_,ho,by rw[hd,e]⟩;simp[put,ao,this]
open Classical in
theorem lH.I9(hR:lH P C full cs vs σs bs)(s m:Nat)(hm:m<=full.length):aQ (Ws full cs s) (· <m) (fun j=>bs (j+1) s) (bs 0 s) (bs m s):=by
 refine aQ.seq (xs:=fun k=>bs k s) m fun k hk=>?_;have hk':k<full.length:=oM;have ho:=List.getElem?_eq_getElem hk';by_cases hw:Ws full cs s k
 ·rw[if_pos hw]
 ·rw[if_neg hw];refine(hR.at_ k _ ho).2.same s ?_;cases h:(cs k).wr s with
  |false=>rfl
  |true=>exact absurd ⟨hk',h⟩ hw
theorem lH.cut(hR:lH P C full cs vs σs bs)(hL:∀(i:Nat) o,full[i]? =some o->L i->∀e∈o.after,Region.binds .any e=true->L e.on){i:Nat}{o:Oper}(hi:full[i]? =some o)(hn:¬L i)
 (he:∀e∈o.after,Region.binds .any e=true->L e.on) {j:Nat} {o':Oper} (hj:full[j]? =some o') (hor:j≠i->ordered (Region.before full.toArray) j i=true):L j<->j<i:=by
 have hL':∀(i:Nat) o,full[i]? =some o->L i->∀e∈o.after,Region.binds .any e=true->L e.on/\e.on<i:=fun i o h1 h2 e h3 h4=>⟨hL i o h1 h2 e h3 h4,hR.back i o h1 e h3 h4⟩
 by_cases hji:j=i
 ·subst hji;exact⟨fun h=>absurd h hn,fun h=>absurd h (Nat.lt_irrefl _)⟩
 ·have hor:=hor hji;unfold ordered at hor;rcases Nat.lt_or_gt_of_ne hji with hlt|hgt
  ·rw[Nat.max_eq_right oM,Nat.min_eq_left oM]at hor;exact⟨fun _=>hlt,fun _=>j_ hL' i o hi (fun e h1 h2=>⟨he e h1 h2,hR.back i o hi e h1 h2⟩) j hor⟩
  ·rw[Nat.max_eq_left oM,Nat.min_eq_right oM]at hor;exact⟨fun h=>absurd (j_ hL' j o' hj (fun e h1 h2=>hL' j o' hj h e h1 h2) i hor) hn,fun h=>by omega⟩
theorem lH.I7(hR:lH P C full cs vs σs bs){i j:Nat}{o:Oper}(hi:full[i]? =some o){t:Nat}(hj:Wt full t j)(ht:t∈tmpsOf full o)(hji:j≠i):ordered (Region.before full.toArray) j i=true:=by
 obtain⟨o',ho',hd⟩:=hj;cases h:ordered (Region.before full.toArray) j i with
 |true=>rfl
 |false=>exact absurd ht ((hR.free j i o o' hi ho' hji h).1 t hd)
theorem lH.I6(hR:lH P C full cs vs σs bs){i j:Nat}{o:Oper}(hi:full[i]? =some o){s:Nat}(hj:Ws full cs s j)(ht:(cs i).rd s=true)(hji:j≠i):ordered (Region.before full.toArray) j i=true:=by
 cases h:ordered (Region.before full.toArray) j i with
 |true=>rfl
 |false=>exact((hR.free j i o _ hi (List.getElem?_eq_getElem hj.1) hji h).2 s hj.2 ht).elim
theorem lH.OB(hR:lH P C full cs vs σs bs)(hI:Inv full cs vs σs bs L σ bx){i:Nat}{o:Oper}(hi:full[i]? =some o)(hn:¬L i)(he:∀e∈o.after,Region.binds .any e=true->L e.on):
 (∀t∈o.looksAt full.toArray,σ t=σs i t)/\∀s,(cs i).rd s=true->bx s=bs i s:=by
 have hlt:=(List.getElem?_eq_some_iff.1 hi).1;refine⟨fun t ht=>?_,fun s hs=>?_⟩
 ·refine(hI.t t).uniq (hR.I_ t i oM) fun j hj=>?_;have hj':=hj;obtain⟨o',ho',_⟩:=hj';exact hR.cut hI.closed hi hn he ho' fun hji=>hR.I7 hi hj (List.mem_append_right _ ht) hji
 ·refine(hI.s s).uniq (hR.I9 s i oM) fun j hj=>?_;exact hR.cut hI.closed hi hn he (List.getElem?_eq_getElem hj.1) fun hji=>hR.I6 hi hj hs hji
open Classical in
theorem lH.goes(hR:lH P C full cs vs σs bs)(hI:Inv full cs vs σs bs L σ bx){i:Nat}{o:Oper}(hi:full[i]? =some o)(hn:¬L i)(he:∀e∈o.after,Region.binds .any e=true->L e.on){L':Nat->Prop}(hL':∀j,L' j<->L j\/j=i):
 Inv full cs vs σs bs L' (put σ o.dst (vs i)) (eo (cs i) (bs (i+1)) bx):=by
 have hlt:=(List.getElem?_eq_some_iff.1 hi).1;refine⟨fun k o' hk hLk e hem hb=>?_,fun j hj=>?_,fun t=>?_,fun s=>?_⟩
 ·rcases(hL' k).1 hLk with h|rfl
  ·exact(hL' _).2 (.inl (hI.closed k o' hk h e hem hb))
  ·rw[hi]at hk;injection hk with hk;subst hk;exact(hL' _).2 (.inl (he e hem hb))
 ·rcases(hL' j).1 hj with h|rfl
  ·exact hI.lt j h
  ·exact hlt
 ·have:=(hI.t t).step (i:=i) hL' fun hw j hLj hwj=>by
   have hwj':=hwj;obtain⟨o',ho',_⟩:=hwj';obtain⟨o2,ho2,hd2⟩:=hw;rw[hi]at ho2;injection ho2 with ho2;subst ho2;exact Nat.le_of_lt ((hR.cut hI.closed hi hn he ho' fun hji=>hR.I7 hi hwj (List.mem_append_left _ (by simp[hd2])) hji).1 hLj)
  have e:put σ o.dst (vs i) t=if Wt full t i then vs i else σ t:=by
   by_cases hw:Wt full t i
   ·rw[if_pos hw];obtain⟨o2,ho2,hd2⟩:=hw;rw[hi]at ho2;injection ho2 with ho2;subst ho2;simp[put,hd2,ao]
   ·rw[if_neg hw];cases hd:o.dst with
    |none=>rfl
    |some d=>
     have:t≠d:=fun e=>hw ⟨_,hi,by rw[hd,e]⟩;simp[put,ao,this]
  rw[e];exact this
 ·have:=(hI.s s).step (i:=i) hL' fun hw j hLj hwj=>by
   have hrd:(cs i).rd s=true:=by
    have:=hw.2;revert this;cases cs i<;>simp[Cl.wr,Cl.rd]
   exact Nat.le_of_lt ((hR.cut hI.closed hi hn he (List.getElem?_eq_getElem hwj.1) fun hji=>hR.I6 hi hwj hrd hji).1 hLj)
  have e:eo (cs i) (bs (i+1)) bx s=if Ws full cs s i then bs (i+1) s else bx s:=by
   by_cases hw:Ws full cs s i
   ·rw[if_pos hw];simp[eo,hw.2]
   ·rw[if_neg hw];cases h:(cs i).wr s with
    |true=>exact absurd ⟨hlt,h⟩ hw
    |false=>simp[eo,h]
  rw[e];exact this
theorem lH.ends(hR:lH P C full cs vs σs bs)(hI:Inv full cs vs σs bs L σ bx)(hall:∀j,j<full.length->L j):σ=σs full.length/\bx=bs full.length:=by
 refine⟨funext fun t=>(hI.t t).uniq (hR.I_ t _ (Nat.le_refl _)) fun j hj=>?_,funext fun s=>(hI.s s).uniq (hR.I9 s _ (Nat.le_refl _)) fun j hj=>?_⟩
 ·obtain⟨o,ho,_⟩:=hj;have:=(List.getElem?_eq_some_iff.1 ho).1;exact⟨fun _=>this,fun h=>hall j h⟩
 ·exact⟨fun _=>hj.1,fun h=>hall j h⟩
end
theorem EB{ops:Array Oper}{cs:Nat->Cl}{vs:Nat->D}{σs:Nat->Env}{bs:Nat->ae}(hR:lH P C ops.toList cs vs σs bs)(hG:Good P C X)(hrd:∀l,r=some l->X.md=1)(hdst:∀o∈ops.toList,∀t,o.dst=some t->t<X.N)
 {Q:Exit->Act->World->Prop} (hQ:∀a' w' ρ',az X ρ' (σs ops.toList.length) (bs ops.toList.length) a' w'->Q .normal a' w'):∀(fuel:Nat) (listed:Array Bool) (ρ:bN) (σ:Env) (bx:ae) (a:Act) (w:World),listed.size=ops.size->
  ((List.range ops.size).filter fun j=> !listed.getD j false).length<=fuel->Inv ops.toList cs vs σs bs (fun j=>listed.getD j false=true) σ bx->az X ρ σ bx a w->wpAnyIn (Fw r) n P .any ops Q fuel listed a w:=by
 have hdone:∀(listed:Array Bool) (ρ:bN) (σ:Env) (bx:ae) (a:Act) (w:World),Region.ready .any ops listed=[]->Inv ops.toList cs vs σs bs (fun j=>listed.getD j false=true) σ bx->listed.size=ops.size->az X ρ σ bx a w->Q .normal a w:=by
  intro listed ρ σ bx a w hr hI hsz h;have hall:∀j,j<ops.toList.length->listed.getD j false=true:=by
   intro j;induction j using Nat.strongRecOn with
   |_ j ih=>
    intro hj;have hj':j<ops.size:=by simpa using hj
    cases hl:listed.getD j false with
    |true=>rfl
    |false=>
     have ho:ops[j]? =some ops[j]:=Array.getElem?_eq_getElem hj';have:j∈Region.ready .any ops listed:=mem_ready.2 ⟨by
      have hjl:j<listed.size:=oM;simp only[Array.getD,hjl,dif_pos]at hl⊢;exact hl,ops[j],ho,fun e he hb=>by
       have hlt:=hR.back j ops[j] (by rw[Array.getElem?_toList];exact ho) e he hb;exact ih e.on hlt oM⟩
     rw[hr]at this;cases this
  obtain⟨rfl,rfl⟩:=hR.ends hI hall;exact hQ a w ρ h
 intro fuel;induction fuel with
 |zero=>
  intro listed ρ σ bx a w hsz hf hI h;have hnone:Region.ready .any ops listed=[]:=by
   cases hr:Region.ready .any ops listed with
   |nil=>rfl
   |cons i rs=>
    obtain⟨h1,o,h2,_⟩:=mem_ready.1 (show i∈Region.ready .any ops listed by rw[hr];simp);have hi:i<ops.size:=(Array.getElem?_eq_some_iff.1 h2).1;have:i∈(List.range ops.size).filter fun j=> !listed.getD j false:=by
     rw[List.mem_filter,List.mem_range];refine⟨hi,?_⟩;have hil:i<listed.size:=oM;simp only[Array.getD,hil,dif_pos]at h1⊢;simpa using h1
    have:=List.length_pos_of_mem this;omega
  exact⟨hnone,hdone listed ρ σ bx a w hnone hI hsz h⟩
 |succ fuel ih=>
  intro listed ρ σ bx a w hsz hf hI h;refine⟨fun hr=>hdone listed ρ σ bx a w hr hI hsz h,fun i hi=>?_⟩;obtain⟨h1,o,h2,h3⟩:=mem_ready.1 hi;have hio:ops.toList[i]? =some o:=by rw[Array.getElem?_toList];exact h2
  have hi':i<ops.size:=(Array.getElem?_eq_some_iff.1 h2).1;have hil:i<listed.size:=oM;have hn:¬listed.getD i false=true:=by
   have e:listed.getD i true=listed.getD i false:=by simp[Array.getD,hil]
   rw[<-e,h1];simp
  obtain⟨f1,f2⟩:=hR.OB hI hio hn h3;have hset:∀j,(listed.setIfInBounds i true).getD j false=true<->listed.getD j false=true\/j=i:=by
   intro j;by_cases hji:j=i
   ·subst hji;simp[Array.getD,hil]
   ·rw[getD_set_ne false (Ne.symm hji)];simp[hji]
  unfold wpOpIn;rw[h2];dsimp only;refine l9 h hG hrd (hdst o (by rw[Array.mem_toList_iff];exact Array.mem_of_getElem? h2)) ((hR.at_ i o hio).2.run σ bx f1 f2 (fun c σ' bx'=>(∀x,c≠ .pan x)/\σ'=put σ o.dst (vs i)/\bx'=eo (cs i) (bs (i+1)) bx) ⟨(hR.at_ i o hio).2.np,rfl,rfl⟩) ?_ (fun d σ' bx' a' w' ρ' v hk _ _=>absurd rfl (hk.1 d));rintro c σ' bx' a' w' ρ' _ ⟨_,rfl,rfl⟩ h';refine ih _ ρ' _ _ a' w' (by simp[hsz]) ?_ (hR.goes hI hio hn h3 hset) h';have:((List.range ops.size).filter fun j=> !(listed.setIfInBounds i true).getD j false).length<((List.range ops.size).filter fun j=> !listed.getD j false).length:=by
   refine filter_lt (fun j _ hj=>?_) ⟨i,List.mem_range.2 hi',by simpa using hn,?_⟩
   ·cases hl:listed.getD j false with
    |false=>rfl
    |true=>
     have:=(hset j).2 (.inl hl);rw[this]at hj;simp at hj
   ·have:=(hset i).2 (.inr rfl);rw[this];rfl
  omega
theorem nF{full:List Oper}(h:tu full=true):
 (∀(j:Nat) o,full[j]? =some o->o.guard=none/\∀e∈o.after,Region.binds .any e=true->e.on<j)/\
 ∀(i j:Nat) o o',full[j]? =some o->full[i]? =some o'->i≠j->ordered (Region.before full.toArray) i j=false->
  (∀d,o'.dst=some d->d∉tmpsOf full o)/\(∀d,o.dst=some d->d∉tmpsOf full o'):=by
 simp only[tu,List.all_eq_true,Bool.and_eq_true]at h;refine⟨fun j o ho=>⟨?_,fun e he hbe=>?_⟩,fun i j o o' ho ho' hij hord=>?_⟩
 ·have:=(h (o,j) (List.mem_zipIdx_iff_getElem?.2 ho)).1.1;simpa using this
 ·have:=(h (o,j) (List.mem_zipIdx_iff_getElem?.2 ho)).1.2 e (by simpa using he);rw[hbe]at this;simpa using this
 ·have:=(h (o,j) (List.mem_zipIdx_iff_getElem?.2 ho)).2 (o',i) (List.mem_zipIdx_iff_getElem?.2 ho');simp only[Bool.or_eq_true,beq_iff_eq,hij,hord,Bool.false_eq_true,false_or,Bool.and_eq_true]at this;obtain⟨h1,h2⟩:=this;refine⟨fun d hd=>?_,fun d hd=>?_⟩
  ·rw[hd]at h1;simpa using h1
  ·rw[hd]at h2;simpa using h2
theorem jw{full:List Oper}{L:Nat->Bool}{i:Nat}:mZ full L i=true<->L i=false/\∃o,full[i]? =some o/\∀e∈o.after,Region.binds .any e=true->L e.on=true:=by
 unfold mZ;cases hL:L i with
 |true=>simp
 |false=>
  cases ho:full[i]? with
  |none=>simp
  |some o=>
   simp only[Bool.not_false,Bool.true_and,List.all_eq_true,Bool.or_eq_true,Bool.not_eq_true',true_and,Option.some.injEq,exists_eq_left'];constructor
   ·intro h e he hb;rcases h e (by simpa using he)with h|h
    ·rw[hb]at h;cases h
    ·exact h
   ·intro h e he;cases hb:Region.binds .any e with
    |false=>exact .inl rfl
    |true=>exact .inr (h e (by simpa using he) hb)
def pG(full:List Oper)(L:Nat->Bool):Prop:=∀(i:Nat) o,full[i]? =some o->L i=true->∀e∈o.after,Region.binds .any e=true->L e.on=true
theorem oL{L:Nat->Bool}{i k:Nat}:iT L i k=true<->L k=true\/k=i:=by simp[iT,Or.comm]
theorem xm(L:Nat->Bool)(i j:Nat):iT (iT L i) j=iT (iT L j) i:=by funext k;simp only[iT];cases k==i<;>cases k==j<;>rfl
theorem pG.add{full:List Oper}{L:Nat->Bool}(h:pG full L){i:Nat}(hi:mZ full L i=true):pG full (iT L i):=by
 intro k o hk hL e he hb;obtain⟨_,o',ho',ha⟩:=jw.1 hi;refine oL.2 (.inl ?_);rcases oL.1 hL with h1|rfl
 ·exact h k o hk h1 e he hb
 ·rw[ho']at hk;injection hk with hk;subst hk;exact ha e he hb
theorem tf{full:List Oper}{L:Nat->Bool}{i j:Nat}(hj:mZ full L j=true)(hij:j≠i):mZ full (iT L i) j=true:=by
 obtain⟨h1,o,ho,h2⟩:=jw.1 hj;refine jw.2 ⟨?_,o,ho,fun e he hb=>oL.2 (.inl (h2 e he hb))⟩;simp[iT,h1,hij]
theorem uw{full:List Oper}(hT:tu full=true){L:Nat->Bool}(hL:pG full L){i j:Nat}(hi:mZ full L i=true)(hj:mZ full L j=true)(hij:i≠j):ordered (Region.before full.toArray) i j=false:=by
 obtain⟨hb,_⟩:=nF hT;have hL':∀(i:Nat) o,full[i]? =some o->L i=true->∀e∈o.after,Region.binds .any e=true->L e.on=true/\e.on<i:=fun i o h1 h2 e h3 h4=>⟨hL i o h1 h2 e h3 h4,(hb i o h1).2 e h3 h4⟩
 obtain⟨hi1,oi,hi2,hi3⟩:=jw.1 hi;obtain⟨hj1,oj,hj2,hj3⟩:=jw.1 hj;cases h:ordered (Region.before full.toArray) i j with
 |false=>rfl
 |true=>
  unfold ordered at h;rcases Nat.lt_or_gt_of_ne hij with hlt|hgt
  ·rw[Nat.max_eq_right oM,Nat.min_eq_left oM]at h;have:=j_ (L:=fun k=>L k=true) hL' j oj hj2 (fun e h1 h2=>⟨hj3 e h1 h2,(hb j oj hj2).2 e h1 h2⟩) i h;rw[hi1]at this;cases this
  ·rw[Nat.max_eq_left oM,Nat.min_eq_right oM]at h;have:=j_ (L:=fun k=>L k=true) hL' i oi hi2 (fun e h1 h2=>⟨hi3 e h1 h2,(hb i oi hi2).2 e h1 h2⟩) j h;rw[hj1]at this;cases this
theorem Ai{o:Oper}(h:wR o=true):(∀T a,o.op≠ .load T a)/\∀ {σ:Env} {bx:ae} {K:Cl->Env->ae->Prop} {v:D},bR P σ bx o.op=some v->K .n (put σ o.dst v) bx->aZ P C o σ bx K:=by
 obtain⟨dst,op,ty,pos,af,g⟩:=o;cases op<;>first
  |(simp[wR]at h;done)
  |exact⟨by simp,fun hv hK=>by
   simp only[aZ,dN];dsimp only at hv hK;rw[hv];exact hK⟩
theorem BE{o:Oper}(h:Ak o=true):∃T a,o.op= .load T a:=by
 obtain⟨dst,op,ty,pos,af,g⟩:=o;cases op<;>first
  |(simp[Ak]at h;done)
  |exact⟨_,_,rfl⟩
theorem AP{σ:Env}{d d':Option Tmp}{x y:D}(h:∀t,d=some t->d'≠some t):put (put σ d x) d' y=put (put σ d' y) d x:=by
 cases d with
 |none=>rfl
 |some t=>
  cases d' with
  |none=>rfl
  |some t'=>
   have hne:t≠t':=fun e=>h t rfl (by rw[e]);funext k;simp only[put,ao];by_cases h1:k=t<;>by_cases h2:k=t'<;>simp[h1,h2]
   ·exact absurd (h1.symm.trans h2) hne
   ·intro e;exact absurd e hne
   ·intro e;exact absurd e.symm hne
theorem oO{full:List Oper}{o:Oper}{d:Option Tmp}{x:D}(h:∀t,d=some t->t∉tmpsOf full o):Alike σ (put σ d x) o.op/\Alike (put σ d x) σ o.op:=by
 have key:∀t∈o.looksAt full.toArray,put σ d x t=σ t:=by
  intro t ht;cases d with
  |none=>rfl
  |some t'=>
   have:t≠t':=fun e=>h t' rfl (by rw[<-e];exact List.mem_append_right _ ht);simp[put,ao,this]
 exact⟨jG key,jG fun t ht=>(key t ht).symm⟩
theorem xK{base:Nat}{bx bx':ae}:∀ {l:List Nat},qx base bx bx' l->∀s∈l,bx' (base+s)=bx (base+s)
 |[],_,s,hs=>by cases hs
 |s::l,h,s',hs=>by
  rcases List.mem_cons.1 hs with rfl|hs
  ·exact h.1
  ·exact xK h.2 s' hs
theorem pQ{full:List Oper}:∀(t:mh) {L:Nat->Bool} {F F':List (Nat×Nat)} {cov:List Nat},(∀p∈F',p∈F)->cX full L F cov t=true->cX full L F' cov t=true
 | .fin,_,_,_,_,_,h=>h
 | .stop,_,_,_,_,_,h=>h
 | .light i n,L,F,F',cov,hF,h=>by
   simp only[cX,Bool.and_eq_true]at h⊢;exact⟨h.1,pQ n hF h.2⟩
 | .load i s n,L,F,F',cov,hF,h=>by
   simp only[cX,Bool.and_eq_true]at h⊢;refine⟨h.1,pQ n (fun p hp=>?_) h.2⟩;rcases List.mem_cons.1 hp with rfl|hp
   ·exact List.mem_cons_self
   ·exact List.mem_cons_of_mem _ (hF p hp)
 | .both i fy a r,L,F,F',cov,hF,h=>by
   simp only[cX,Bool.and_eq_true,List.all_eq_true]at h⊢;exact⟨⟨⟨h.1.1.1,fun p hp=>h.1.1.2 p (hF p hp)⟩,pQ a hF h.1.2⟩,pQ r hF h.2⟩
theorem Ki(hyl:C.yl=none)(hpn:C.pn=false)(hdf:C.df=false){full:List Oper}(hT:tu full=true){Pn:D->ae->Prop}{Q:Env->ae->Prop}:∀(t:mh) (L:Nat->Bool) (F:List (Nat×Nat)) (cov:List Nat) (σ:Env) (bx:ae),pG full L->
 cX full L F cov t=true->g_ P C full Pn Q t σ bx->∀(j:Nat) o,full[j]? =some o->mZ full L j=true->j∉cov->
 aZ P C o σ bx fun c σ' bx'=>fF c (wX Pn c bx') ((∀p∈F,ordered (Region.before full.toArray) p.1 j=false->bx' (C.base+p.2)=bx (C.base+p.2))/\∃t',cX full (iT L j) F [] t'=true/\g_ P C full Pn Q t' σ' bx'):=by
 intro t;induction t with
 |fin=>
  intro L F cov σ bx hL hok hs j o hj hr hc;simp only[cX,Bool.and_eq_true,List.all_eq_true,List.mem_range]at hok;have:=hok.2 j (List.getElem?_eq_some_iff.1 hj).1;rw[hr]at this;cases this
 |stop=>
  intro L F cov σ bx hL hok hs j o hj hr hc;simp only[cX,Bool.and_eq_true,List.all_eq_true,List.mem_range]at hok;have:=hok.2 j (List.getElem?_eq_some_iff.1 hj).1;rw[hr]at this;exact absurd (by simpa using this) hc
 |light i n ih=>
  intro L F cov σ bx hL hok hs j o hj hr hc;simp only[cX,Bool.and_eq_true]at hok;obtain⟨⟨⟨hcov,hri⟩,hlo⟩,hokn⟩:=hok;obtain⟨_,oi,hi,_⟩:=jw.1 hri;simp only[hi]at hlo;obtain⟨hnl,hst⟩:=Ai (P:=P) (C:=C) hlo;simp only[g_,km,hi]at hs;cases hv:bR P σ bx oi.op with
  |none=>rw[hv]at hs;exact hs.elim
  |some v=>
   rw[hv]at hs;simp only[aI]at hs;by_cases hji:j=i
   ·subst hji;rw[hi]at hj;injection hj with hj;subst hj;exact hst hv ⟨fun _ _ _=>rfl,n,hokn,hs⟩
   ·obtain⟨h1,h2⟩:=(nF hT).2 i j o oi hj hi (Ne.symm hji) (uw hT hL hri hr (Ne.symm hji));have hrec:=ih (iT L i) F [] _ bx (hL.add hri) hokn hs j o hj (tf hr hji) sI;obtain⟨R,hR1,hR2⟩:=wo hyl hpn hdf hrec;refine hR2 σ (oO h1).2 _ fun c x bx' hx=>jI id (fun g=>⟨g.1,?_⟩) (hR1 c x bx' hx);obtain⟨t',ht',hs'⟩:=g.2;refine⟨.light i t',?_,?_⟩
    ·simp only[cX,Bool.and_eq_true];refine⟨⟨⟨rfl,tf hri (Ne.symm hji)⟩,?_⟩,?_⟩
     ·simp only[hi];exact hlo
     ·rw[xm];exact ht'
    ·simp only[g_,km,hi];rw[rm (σ:=σ) (bx:=bx) (oO h2).1 hnl,hv];simp only[aI];rw[AP (fun t e e'=>h2 t e (List.mem_append_left _ (by simp[e'])))];exact hs'
 |load i s n ih=>
  intro L F cov σ bx hL hok hs j o hj hr hc;simp only[cX,Bool.and_eq_true]at hok;obtain⟨⟨⟨hcov,hri⟩,hlo⟩,hokn⟩:=hok;obtain⟨_,oi,hi,_⟩:=jw.1 hri;simp only[hi]at hlo;obtain⟨T,a,hop⟩:=BE hlo;simp only[g_,km,hi,ta,hop]at hs;obtain⟨hsl,hs⟩:=hs;cases hv:fb (ak P T) bx (ev σ a)with
  |none=>rw[hv]at hs;exact hs.elim
  |some v=>
   rw[hv]at hs;simp only[aI]at hs;by_cases hji:j=i
   ·subst hji;rw[hi]at hj;injection hj with hj;subst hj;obtain⟨dst,op,ty,pos,af,g⟩:=oi;dsimp only at hop;subst hop;simp only[aZ,hv,aI];have hnp:=uC (ev σ a);have:∀x y:Prop,y->fF (jQ (ev σ a)) x y:=fun x y hy=>by rw[nX hnp];exact hy
    exact this _ _ ⟨fun _ _ _=>rfl,n,pQ n (fun p hp=>List.mem_cons_of_mem _ hp) hokn,hs⟩
   ·obtain⟨h1,h2⟩:=(nF hT).2 i j o oi hj hi (Ne.symm hji) (uw hT hL hri hr (Ne.symm hji));have hrec:=ih (iT L i) ((i,s)::F) [] _ bx (hL.add hri) hokn hs j o hj (tf hr hji) sI;obtain⟨R,hR1,hR2⟩:=wo hyl hpn hdf hrec;refine hR2 σ (oO h1).2 _ fun c x bx' hx=>jI id (fun g=>⟨fun p hp=>g.1 p (List.mem_cons_of_mem _ hp),?_⟩) (hR1 c x bx' hx);obtain⟨t',ht',hs'⟩:=g.2;have hkp:bx' (C.base+s)=bx (C.base+s):=g.1 (i,s) List.mem_cons_self (uw hT hL hri hr (Ne.symm hji));refine⟨.load i s t',?_,?_⟩
    ·simp only[cX,Bool.and_eq_true];refine⟨⟨⟨rfl,tf hri (Ne.symm hji)⟩,?_⟩,?_⟩
     ·simp only[hi];exact hlo
     ·rw[xm];exact ht'
    ·simp only[g_,km,hi,ta,hop];have hal:=(oO (σ:=σ) (x:=x) h2).1 a (by rw[hop];simp[Op.operands]);rw[hal];refine⟨hsl,?_⟩;rw[tJ (bx:=bx) fun s' hs2=>by
      rcases hsl with e|e<;>rw[e]at hs2
      ·simp[Cl.rd]at hs2
      ·have:s'=C.base+s:=by simpa[Cl.rd]using hs2
       rw[this];exact hkp,hv]
     simp only[aI];rw[AP (fun t e e'=>h2 t e (List.mem_append_left _ (by simp[e'])))];exact hs'
 |both i fy a r iha ihr=>
  intro L F cov σ bx hL hok hs j o hj hr hc;simp only[cX,Bool.and_eq_true]at hok;obtain⟨⟨⟨hri,hkeep⟩,hoka⟩,hokr⟩:=hok;simp only[g_]at hs;by_cases hji:j=i
  ·subst hji;have h:=hs.1;simp only[hj,km]at h;refine ny (fun c σ' bx'=>jI id fun g=>⟨fun p hp ho=>?_,a,hoka,g.2⟩) h;have:=(List.all_eq_true.1 hkeep) p hp;rw[ho]at this;exact xK g.1 p.2 (by simpa using this)
  ·exact ihr L F (i::cov) σ bx hL hokr hs.2 j o hj hr (by simp[hji,hc])
theorem Kj{full:List Oper}{Pn:D->ae->Prop}{Q:Env->ae->Prop}{L:Nat->Bool}{F:List (Nat×Nat)}(hn:∀j,mZ full L j=false):∀ {t:mh},cX full L F [] t=true->g_ P C full Pn Q t σ bx->Q σ bx
 | .fin,_,hs=>hs
 | .stop,h,_=>by simp[cX]at h
 | .light i n,h,_=>by simp only[cX,hn i]at h;simp at h
 | .load i s n,h,_=>by simp only[cX,hn i]at h;simp at h
 | .both i k a r,h,_=>by simp only[cX,hn i]at h;simp at h
theorem Gd{ops:Array Oper}(hyl:C.yl=none)(hpn:C.pn=false)(hdf:C.df=false)(hT:tu ops.toList=true)(hG:Good P C X)(hrd:∀l,r=some l->X.md=1)(hdst:∀o∈ops.toList,∀t,o.dst=some t->t<X.N)
 {Pn:D->ae->Prop} {Qd:Env->ae->Prop} {Q:Exit->Act->World->Prop} (hQ:∀σ bx a' w' ρ',Qd σ bx->az X ρ' σ bx a' w'->Q .normal a' w')
 (hP:∀d σ' bx' a' w' ρ' v,Pn d bx'->az X ρ' σ' bx' a' w'->aE w' (ay X ρ' bx' w') ρ' d v->Q (.panic [pe v]) a' w'):∀(fuel:Nat) (listed:Array Bool) (t:mh) (ρ:bN) (σ:Env) (bx:ae) (a:Act) (w:World),listed.size=ops.size->
  ((List.range ops.size).filter fun j=> !listed.getD j false).length<=fuel->pG ops.toList (fun j=>listed.getD j false)->cX ops.toList (fun j=>listed.getD j false) [] [] t=true->g_ P C ops.toList Pn Qd t σ bx->az X ρ σ bx a w->wpAnyIn (Fw r) n P .any ops Q fuel listed a w:=by
 have hrdy:∀(listed:Array Bool),listed.size=ops.size->∀j,mZ ops.toList (fun j=>listed.getD j false) j=true<->j∈Region.ready .any ops listed:=by
  intro listed hsz j;rw[jw,mem_ready];constructor
  ·rintro⟨h1,o,h2,h3⟩;have hj:j<ops.size:=by
    have:=(List.getElem?_eq_some_iff.1 h2).1;simpa using this
   have hjl:j<listed.size:=oM;refine⟨?_,o,by rw[<-Array.getElem?_toList];exact h2,h3⟩;simp only[Array.getD,hjl,dif_pos]at h1⊢;exact h1
  ·rintro⟨h1,o,h2,h3⟩;have hj:j<ops.size:=(Array.getElem?_eq_some_iff.1 h2).1;have hjl:j<listed.size:=oM;refine⟨?_,o,by rw[Array.getElem?_toList];exact h2,h3⟩;simp only[Array.getD,hjl,dif_pos]at h1⊢;exact h1
 have hdone:∀(listed:Array Bool) (t:mh) (ρ:bN) (σ:Env) (bx:ae) (a:Act) (w:World),listed.size=ops.size->Region.ready .any ops listed=[]->cX ops.toList (fun j=>listed.getD j false) [] [] t=true->g_ P C ops.toList Pn Qd t σ bx->az X ρ σ bx a w->Q .normal a w:=by
  intro listed t ρ σ bx a w hsz hr hok hs h;refine hQ σ bx a w ρ (Kj (fun j=>?_) hok hs) h;cases hj:mZ ops.toList (fun j=>listed.getD j false) j with
  |false=>rfl
  |true=>
   have:=(hrdy listed hsz j).1 hj;rw[hr]at this;cases this
 intro fuel;induction fuel with
 |zero=>
  intro listed t ρ σ bx a w hsz hf hcl hok hs h;have hnone:Region.ready .any ops listed=[]:=by
   cases hr:Region.ready .any ops listed with
   |nil=>rfl
   |cons i rs=>
    obtain⟨h1,o,h2,_⟩:=mem_ready.1 (show i∈Region.ready .any ops listed by rw[hr];simp);have hi:i<ops.size:=(Array.getElem?_eq_some_iff.1 h2).1;have:i∈(List.range ops.size).filter fun j=> !listed.getD j false:=by
     rw[List.mem_filter,List.mem_range];refine⟨hi,?_⟩;have hil:i<listed.size:=oM;simp only[Array.getD,hil,dif_pos]at h1⊢;simpa using h1
    have:=List.length_pos_of_mem this;omega
  exact⟨hnone,hdone listed t ρ σ bx a w hsz hnone hok hs h⟩
 |succ fuel ih=>
  intro listed t ρ σ bx a w hsz hf hcl hok hs h;refine⟨fun hr=>hdone listed t ρ σ bx a w hsz hr hok hs h,fun i hi=>?_⟩;have hri:=(hrdy listed hsz i).2 hi;obtain⟨h1,o,h2,h3⟩:=mem_ready.1 hi;have hio:ops.toList[i]? =some o:=by rw[Array.getElem?_toList];exact h2
  have hi':i<ops.size:=(Array.getElem?_eq_some_iff.1 h2).1;have hil:i<listed.size:=oM;have hn:¬listed.getD i false=true:=by
   have e:listed.getD i true=listed.getD i false:=by simp[Array.getD,hil]
   rw[<-e,h1];simp
  have hset:∀j,(listed.setIfInBounds i true).getD j false=true<->listed.getD j false=true\/j=i:=by
   intro j;by_cases hji:j=i
   ·subst hji;simp[Array.getD,hil]
   ·rw[getD_set_ne false (Ne.symm hji)];simp[hji]
  have hadd:(fun j=>(listed.setIfInBounds i true).getD j false)=iT (fun j=>listed.getD j false) i:=by
   funext j;refine Bool.eq_iff_iff.2 ?_;rw[hset,oL]
  unfold wpOpIn;rw[h2];dsimp only;have hst:=Ki hyl hpn hdf hT t _ [] [] σ bx hcl hok hs i o hio hri sI;refine l9 h hG hrd (hdst o (by rw[Array.mem_toList_iff];exact Array.mem_of_getElem? h2)) (K:=fun c σ' bx'=>fF c (wX Pn c bx') ((∀p∈([]:List (Nat×Nat)),ordered (Region.before ops.toList.toArray) p.1 i=false->bx' (C.base+p.2)=bx (C.base+p.2))/\∃t',cX ops.toList (iT (fun j=>listed.getD j false) i) [] [] t'=true/\g_ P C ops.toList Pn Qd t' σ' bx')) (by
   unfold lZ;rw[((nF hT).1 i o hio).1];exact hst) ?_ (fun d σ' bx' a' w' ρ' v hk h' hr=>hP d σ' bx' a' w' ρ' v hk h' hr)
  intro c σ' bx' a' w' ρ' hc hk h';rw[nX hc]at hk;obtain⟨t',ht',hs'⟩:=hk.2;refine ih _ t' ρ' σ' bx' a' w' (by simp[hsz]) ?_ (by rw[hadd];exact hcl.add hri) (by rw[hadd];exact ht') hs' h';have:((List.range ops.size).filter fun j=> !(listed.setIfInBounds i true).getD j false).length<((List.range ops.size).filter fun j=> !listed.getD j false).length:=by
   refine filter_lt (fun j _ hj=>?_) ⟨i,List.mem_range.2 hi',by simpa using hn,?_⟩
   ·cases hl:listed.getD j false with
    |false=>rfl
    |true=>
     have:=(hset j).2 (.inl hl);rw[this]at hj;simp at hj
   ·have:=(hset i).2 (.inr rfl);rw[this];rfl
  omega
end Go.V
namespace Go.V
open Go.RowKit
variable {P:Program} {C:Calc} {X:Ctx} {ρ:bN} {σ:Env} {bx:ae} {a:Act} {w:World} {r:Option Nat} {n:Nat}
theorem MV{ops:List Oper}{acc:List Cl}{id:Nat}{cs:Nat->Cl}{vs:Nat->D}{σs:Nat->Env}{bs:Nat->ae}{tab:List (Nat×List (Nat×Nat))}(hok:uZ ops (jN tab id)=true)(hacc:acc=((List.range ops.length).map cs).reverse)(hch:xv (jN tab id) acc)
 (hat:∀(k:Nat) o,ops[k]? =some o->σs (k+1)=put (σs k) o.dst (vs k)/\yV P C ops o (σs k) (bs k) (cs k) (vs k) (bs (k+1))):lH P C ops cs vs σs bs:=by
 obtain⟨hback,hfree⟩:=Bu hok;refine⟨hat,hback,fun i j o o' hj hi hij hord=>?_⟩;obtain⟨h1,h2,h3⟩:=hfree i j o o' hj hi hij hord;have hord':ordered (Region.before ops.toArray) j i=false:=by rw[<-hord];simp[ordered,Nat.max_comm,Nat.min_comm]
 obtain⟨_,_,h3'⟩:=hfree j i o' o hi hj (Ne.symm hij) hord';refine⟨h1,fun s hw hr=>?_⟩;have hjl:=(List.getElem?_eq_some_iff.1 hj).1;have hil:=(List.getElem?_eq_some_iff.1 hi).1;have hEi:=(hat i o' hi).2;have hEj:=(hat j o hj).2;have hwi:cZ o'.op=2:=by
  rcases Nat.decEq (cZ o'.op) 2 with hne|he
  ·have:=hEi.le1 hne s;rw[hw]at this;cases this
  ·exact he
 have hwj:cZ o.op≠0:=fun h0=>by
  have:=hEj.le0 h0;rw[this]at hr;simp[Cl.rd]at hr
 have hget:∀k,k<ops.length->acc[ops.length - 1 - k]? =some (cs k):=by
  intro k hk;rw[hacc,List.getElem?_reverse (by simp;omega)];simp only[List.length_map,List.length_range];have:ops.length - 1 - (ops.length - 1 - k)=k:=oM;rw[this,List.getElem?_map,List.getElem?_range hk];rfl
 rcases h3' hwi hwj with hm|hm
 ·have:=zr hch _ _ hm;rw[hget i hil,hget j hjl]at this;exact(y_ this s).1 hw hr
 ·have:=zr hch _ _ hm;rw[hget i hil,hget j hjl]at this;exact(y_ this s).2 hw hr
theorem Good.tF(h:Good P C X):Good P C.tF X:=
 ⟨⟨h.ok.to,fun _ _ _ _ _ _ hf=>hf.elim,fun _ _ _ _ hf=>hf.elim,fun _ _ _ _ _ hf=>hf.elim⟩,h.lo,h.base,(fun _ _ _ hf=>by cases hf),(fun hf=>by cases hf),fun _ _ _ _ _ h=>h,fun _ _ _ _ _ _ h=>h⟩
theorem Good.Va(h:Good P C X):Good P ⟨C.o,C.tab,C.base,C.nxt,C.lo,none,false,false⟩ X:=
 ⟨h.ok,h.lo,h.base,(fun _ _ _ hf=>by cases hf),(fun hf=>by cases hf),h.it,h.itB⟩
theorem kQ(w:World)(l:Nat)(o:Obj):Fr (fun k=>k=l) w (w.putObj l o):=
 ⟨rfl,rfl,rfl,by simp,fun k _ hk=>World.putObj_heap_other hk⟩
def XR(w:World)(S:Nat->Prop)(ρ:bN):DX->Exit->Prop
 | .normal,.normal=>True
 | .ret,.ret=>True
 | .exit i,.exit j=>i=j
 | .goto i,.goto j=>i=j
 | .pan d,.panic ch=>∃v,ch=[pe v]/\aE w S ρ d v
 |_,_=>False
theorem XR.cases{S:Nat->Prop}{e:DX}{e':Exit}(h:XR w S ρ e e'):(e= .normal/\e'= .normal)\/(e= .ret/\e'= .ret)\/(∃i,e= .exit i/\e'= .exit i)\/(∃l,e= .goto l/\e'= .goto l)\/∃d v,e= .pan d/\e'= .panic [pe v]/\aE w S ρ d v:=by
 cases e with
 |normal=>cases e'<;>first|exact h.elim|exact .inl ⟨rfl,rfl⟩
 |ret=>cases e'<;>first|exact h.elim|exact .inr (.inl ⟨rfl,rfl⟩)
 |exit i=>cases e' with
  |exit j=>have:i=j:=h;subst this;exact .inr (.inr (.inl ⟨i,rfl,rfl⟩))
  |_=>exact h.elim
 |goto i=>cases e' with
  |goto j=>have:i=j:=h;subst this;exact .inr (.inr (.inr (.inl ⟨i,rfl,rfl⟩)))
  |_=>exact h.elim
 |pan d=>cases e' with
  |panic ch=>obtain⟨v,rfl,hr⟩:=h;exact .inr (.inr (.inr (.inr ⟨d,v,rfl,rfl,hr⟩)))
  |_=>exact h.elim
def Sound(P:Program)(c:Code):Prop:=
 ∀(r:Option Nat) (n:Nat) (C:Calc) (X:Ctx) (Qd:DX->Env->ae->Prop) (Q:Exit->Act->World->Prop) (ρ:bN) (σ:Env) (bx:ae) (a:Act) (w:World),Good P C X->(∀l,r=some l->X.md=1/\∃rc,X.r0.hold l=some (.loop rc)/\¬X.E l)->
  cj C.tab X.N c=true->az X ρ σ bx a w->cR P C c Qd σ bx->(∀e e' σ' bx' a' w' ρ',XR w' (ay X ρ' bx' w') ρ' e e'->Qd e σ' bx'->az X ρ' σ' bx' a' w'->Q e' a' w')->c.wpIn (Fw r) n P Q a w
theorem uR{S:Nat->Prop}:∀(ps:List Tmp) (it:List D) (us:List Value) (σ:Env) (tm:Array Value),us.length=it.length->it.length=ps.length->(∀t∈ps,t<tm.size)->(∀(i:Nat) x v,it[i]? =some x->us[i]? =some v->aE w S ρ x v)->(∀t,aE w S ρ (σ t) (tm.getD t undef))->
 ((ps.zip us).foldl (fun tmps (x:Tmp×Value)=>tmps.setIfInBounds x.1 x.2) tm).size=tm.size/\∀t,aE w S ρ (gD σ ps it t) (((ps.zip us).foldl (fun tmps (x:Tmp×Value)=>tmps.setIfInBounds x.1 x.2) tm).getD t undef)
 |[],it,us,σ,tm,_,h2,_,_,h=>by
  cases it with
  |nil=>exact⟨rfl,h⟩
  |cons _ _=>simp at h2
 |p::ps,it,us,σ,tm,h1,h2,hlt,hr,h=>by
  cases it with
  |nil=>simp at h2
  |cons d it=>
   cases us with
   |nil=>simp at h1
   |cons u us=>
    have:=uR ps it us (ao σ p d) (tm.setIfInBounds p u) (by simpa using h1) (by simpa using h2) (fun t ht=>by simpa using hlt t (List.mem_cons_of_mem _ ht)) (fun i x v hx hv=>hr (i+1) x v (by simpa using hx) (by simpa using hv)) (fun t=>by
     by_cases e:t=p
     ·subst e;have hl:=hlt t (List.mem_cons_self ..);have e2:(tm.setIfInBounds t u).getD t undef=u:=by simp[Array.getD,hl]
      rw[e2];simp only[ao,if_true];exact hr 0 d u rfl rfl
     ·have e2:(tm.setIfInBounds p u).getD t undef=tm.getD t undef:=by simp only[Array.getD_eq_getD_getElem?,Array.getElem?_setIfInBounds_ne (Ne.symm e)]
      rw[e2];simp only[ao,e,if_false];exact h t)
    refine⟨?_,this.2⟩;have h1:=this.1;simp only[List.zip_cons_cons,List.foldl_cons];rw[h1];simp
def yX(nxt:Nat)(Qd:DX->Env->ae->Prop)(σ:Env):Code->ae->Prop
 | .ret,c=>∀bx2,bp nxt bx2=c->Qd .ret σ bx2
 | .exit id,c=>∀bx2,bp nxt bx2=c->Qd (.exit id) σ bx2
 |_,_=>False
theorem sH{assign body:Code}(hA:Sound P assign)(hB:Sound P body){ps:Array Tmp}{l ext:Nat}{rc:Loop}{items:List (List D)}{J:Nat->ae->Prop}{Qd:DX->Env->ae->Prop}(hG:Ok P C.o)(hlo:C.lo=0)(hyl:C.yl=none)
 (hok:(∀t∈ps.toList,t<X.N)/\cj C.tab X.N assign=true/\cj C.tab X.N body=true)
 (hrc:rc.state= .ready/\rc.pending=none/\rc.tmps=a.tmps/\rc.params=ps/\rc.assign=assign/\rc.body=body)
 (hr:∀n it bx1,items[n]? =some it->J n (bp C.nxt bx1)->it.length=ps.size/\
  cR P ⟨C.o,C.tab,C.base,C.nxt+ext,C.lo,C.yl,false,false⟩ assign (cp (cR P ⟨C.o,C.tab,C.base,C.nxt+ext,C.lo,C.yl,false,false⟩ body (lz C.nxt ext J n Qd σ bx1)) xT) (gD σ ps.toList it) bx1):
 wE P X l rc C.nxt ext items J (yX C.nxt Qd σ) σ a:=by
 obtain⟨st,pe,fn,tm,pr,as,bd,df⟩:=rc;obtain⟨hst,hpe,htm,hps,has,hbd⟩:=hrc;simp only at hst hpe htm hps has hbd;subst hst;subst hpe;subst htm;subst hps;subst has;subst hbd;intro n it ρ1 bx1 w1 us hi h hl hJ hul hus;obtain⟨hil,hcr⟩:=hr n it bx1 hi hJ;have hlw:=(h.hold l _ hl).1;have hll:l<w1.heap.size:=(Array.getElem?_eq_some_iff.1 hlw).1;refine⟨fn,_,as,bd,run_yield hlw (by rw[hul,hil]),fun m=>roundIn_of_wpIn trivial ?_⟩;have hlen:(pr.zip us).toList=pr.toList.zip us.toList:=by simp
 obtain⟨hsz,hreps⟩:=uR (w:=w1) (ρ:=ρ1) (S:=ay X ρ1 bx1 w1) pr.toList it us.toList σ a.tmps (by simpa using hul) (by simpa using hil) (fun t ht=>by rw[h.size];exact hok.1 t ht) (fun i x v hx hv=> .pure (hus i x v hx (by simpa using hv))) h.tmps;have e1:(pr.zip us).foldl (fun tmps (x:Tmp×Value)=>tmps.setIfInBounds x.1 x.2) a.tmps=(pr.toList.zip us.toList).foldl (fun tmps (x:Tmp×Value)=>tmps.setIfInBounds x.1 x.2) a.tmps:=by rw[<-hlen,Array.foldl_toList]
 have hE:∀b,b=l->∀o,w1.heap[b]? =some o->Obj.jn o=false:=by
  rintro b rfl o ho;rw[hlw]at ho;injection ho with ho;subst ho;rfl
 have hc:az (X.sub ρ1 bx1 w1 (fun b=>b=l) X.N 0 1) ρ1 (gD σ pr.toList it) bx1 {tmps:=(pr.zip us).foldl (fun tmps (x:Tmp×Value)=>tmps.setIfInBounds x.1 x.2) a.tmps,defers:=[]} w1:=
  h.sub h.nle hE (by rw[e1,hsz];exact h.size) (.inl rfl) (Nat.zero_le _) (by rw[e1];exact hreps)
 generalize hY:X.sub ρ1 bx1 w1 (fun b=>b=l) X.N 0 1=Y at hc;have hYS:Y.S0=X.S0/\Y.n0=X.n0/\Y.w0=w1/\Y.r0=ρ1/\Y.N=X.N/\Y.lo=0/\(Y.E l/\∀b,Y.E b->b=l\/ui ρ1 bx1 b)/\Y.md=1:=by rw[<-hY];exact⟨rfl,rfl,rfl,rfl,rfl,rfl,⟨.inl rfl,fun _ h=>h⟩,rfl⟩
 obtain⟨yS,yn,yw,yr,yN,ylo,yE,ymd⟩:=hYS;have run:∀(c:Code),Sound P c->cj C.tab X.N c=true->∀(Qc:DX->Env->ae->Prop) (Qm:Exit->Act->World->Prop) (ρa:bN) (σa:Env) (bxa:ae) (aa:Act) (wa:World) (rca:Loop),ρa.hold l=some (.loop rca)->az Y ρa σa bxa aa wa->
  cR P ⟨C.o,C.tab,C.base,C.nxt+ext,C.lo,C.yl,false,false⟩ c Qc σa bxa->(∀e e' σ' bx' a' w' ρ',XR w' (ay Y ρ' bx' w') ρ' e e'->Qc e σ' bx'->az Y ρ' σ' bx' a' w'->ρ'.hold l=some (.loop rca)->Qm e' a' w')->c.wpIn (Fw (some l)) m P Qm aa wa:=by
  intro c hS hcok Qc Qm ρa σa bxa aa wa rca hhold hsim hcr hq;have hsub:=hsim.sub (E:=fun _=>False) (N:=X.N) (ml:=Y.ml) (md:=1) (σ':=σa) (a':=aa) h.nle (fun b hb=>hb.elim) (by rw[hsim.size,yN]) (.inl rfl) (Nat.le_trans hsim.mkb hsim.fr.size) hsim.tmps;refine hS (some l) m ⟨C.o,C.tab,C.base,C.nxt+ext,C.lo,C.yl,false,false⟩ (Y.sub ρa bxa wa (fun _=>False) X.N Y.ml 1) Qc Qm ρa σa bxa aa wa ⟨hG,Nat.zero_le _,Nat.zero_le _,(fun i g k hk=>?_),(fun hf=>by cases hf),(fun hf=>by have:(1:Nat)=3:=hf;omega),fun hf=>by have:(1:Nat)=3:=hf;omega⟩ (fun l' hl'=>?_) hcok hsub hcr fun e e' σ' bx' a' w' ρ' h0 h1 h2=>hq e e' σ' bx' a' w' ρ' h0 h1 ?_ (h2.holds0 l _ hhold fun he=>he.elim id (hsim.Ap hhold rfl))
  ·rw[show(Calc.mk C.o C.tab C.base (C.nxt+ext) C.lo C.yl false false).yl=C.yl from rfl,hyl]at hk;cases hk
  ·injection hl' with hl';subst hl';exact⟨rfl,rca,hhold,fun he=>he.elim id (hsim.Ap hhold rfl)⟩
  ·have hb:=hsim.back rfl rfl h2 (fun b hb=>hb.elim) (fun b hb=>hb.elim) (fun b hb=>hb.elim) (hsim.y0 ylo _ _);exact hb.switch (by rw[h2.size,yN];rfl) (.inl ymd) h2.tmps
 have setl:∀(ρa:bN) (σa:Env) (bxa:ae) (aa:Act) (wa:World) (rca:Loop) (o':Loop),ρa.hold l=some (.loop rca)->az Y ρa σa bxa aa wa->az Y ⟨ρa.at_,fun k=>if k=l then some (.loop o')else ρa.hold k⟩ σa bxa aa (wa.putObj l (.loop o')):=fun ρa σa bxa aa wa rca o' hhold hsim=>
  hsim.xe hhold (.inl yE.1) (.inr yE.1) sI rfl rfl (kQ wa l _) (World.putObj_heap_same (Array.getElem?_eq_some_iff.1 (hsim.hold l _ hhold).1).1) (hsim.y0 ylo _ _)
 refine run as hA hok.2.1 _ _ ρ1 _ bx1 _ w1 _ hl hc hcr fun e e' σa bxa aa wa ρa hx hq hsa hla=>?_;rcases hx.cases with⟨rfl,rfl⟩|⟨rfl,rfl⟩|⟨_,rfl,rfl⟩|⟨_,rfl,rfl⟩|⟨_,_,rfl,rfl,_⟩
 rotate_left
 ·exact hq.elim
 ·exact hq.elim
 ·exact hq.elim
 ·exact hq.elim
 ·skip
  refine⟨_,run_beginRound (hsa.hold l _ hla).1 rfl,?_⟩;have hsb:=setl ρa σa bxa aa wa _ ⟨.busy,none,fn,a.tmps,pr,as,bd,df⟩ hla hsa;refine run bd hB hok.2.2 _ _ _ σa bxa aa _ ⟨.busy,none,fn,a.tmps,pr,as,bd,df⟩ sI hsb hq fun e e' σc bxc ac wc ρc hx2 hq2 hsc hlc=>?_;have fin:∀(jump:Option Code),(jump=none->J (n+1) (bp C.nxt bxc))->(∀j,jump=some j->yX C.nxt Qd σ j (bp C.nxt bxc))->∃v w',(Instr.endRound l jump).run P wc= .ok v w'/\∃ρ2 bx2 b,Ending.returned v= .returned (.bool b)/\(∀s,C.nxt<=s->s<C.nxt+ext->bx2 s=bx1 s)/\
   (∀(X1:Ctx) (σ1:Env) (a1:Act),X1.S0=X.S0->X1.n0=X.n0->X1.E l->az X1 ρ1 σ1 bx1 a1 w1->X1.Y (bp X1.lo bx2) ρ2.hold->az X1 ρ2 σ1 bx2 a1 w')/\(∀k o,k≠l->ρ1.hold k=some o->Obj.xJ o=false->ρ2.hold k=some o)/\
   ((b=true/\ρ2.hold l=some (.loop ⟨.ready,none,fn,a.tmps,pr,as,bd,df⟩)/\J (n+1) (bp C.nxt bx2))\/(b=false/\∃jump,ρ2.hold l=some (.loop ⟨.done,some jump,fn,a.tmps,pr,as,bd,df⟩)/\yX C.nxt Qd σ jump (bp C.nxt bx2))):=by
   intro jump hj1 hj2;have hsd:=setl ρc σc bxc ac wc _ ⟨if jump.isNone then .ready else .done,jump,fn,a.tmps,pr,as,bd,df⟩ hlc hsc;refine⟨_,_,run_endRound jump (hsc.hold l _ hlc).1,⟨ρc.at_,fun k=>if k=l then some (.loop ⟨if jump.isNone then .ready else .done,jump,fn,a.tmps,pr,as,bd,df⟩)else ρc.hold k⟩,bxc,jump.isNone,rfl,hq2.1,fun X1 σ1 a1 g1 g2 g3 g4 g5=>?_,fun k o hk ho hno=>?_,?_⟩
   ·rw[<-hY]at hsd;exact g4.back g1 g2 hsd (fun b hb=>by subst hb;exact .inl g3) (fun b hb=>by subst hb;rw[hl];simp) (fun b hb=>by subst hb;exact .inr g3) g5
   ·have:=hsd.holds0 k o (by rw[yr];exact ho) (fun he=>(yE.2 k he).elim hk (h.Ap ho hno));exact this
   ·cases jump with
    |none=>
     exact .inl ⟨rfl,by simp,hj1 rfl⟩
    |some j=>exact .inr ⟨rfl,j,by simp,hj2 j rfl⟩
  rcases hx2.cases with⟨rfl,rfl⟩|⟨rfl,rfl⟩|⟨id,rfl,rfl⟩|⟨_,rfl,rfl⟩|⟨_,_,rfl,rfl,_⟩
  ·exact fin none (fun _=>hq2.2) (fun j hj=>by cases hj)
  ·exact fin (some .ret) (fun hj=>by cases hj) (fun j hj=>by injection hj with hj;subst hj;exact hq2.2)
  ·exact fin (some (.exit id)) (fun hj=>by cases hj) (fun j hj=>by injection hj with hj;subst hj;exact hq2.2)
  ·exact hq2.2.elim
  ·exact hq2.2.elim
end Go.V
namespace Go.V
open Go.RowKit
variable {P:Program} {C:Calc} {X:Ctx} {ρ:bN} {σ:Env} {bx:ae} {a:Act} {w:World} {r:Option Nat} {n:Nat}
theorem Mk.marked{S:Nat->Prop}{md ml:Nat}{d:D}{ds:List Deferred}{q:Nat}(h:Mk w S ρ md ml d ds)(h3':md≠3)(hh:md≠1->ρ.hold q=some (.deferred (some []))/\ml<=q/\eQ q∉ds):Mk w S ρ md ml d (eQ q::ds):=by
 by_cases hmd:md=1
 ·exact .inl hmd
 ·obtain⟨h1,h2,h3⟩:=hh hmd;exact .inr ⟨.mark h1 h2 h3 (h.resolve_left hmd).1,fun h=>absurd h h3'⟩
theorem tG(h:az X ρ σ bx a w)(h3:X.md≠3)(hr:∀l,r=some l->X.md=1/\∃rc,X.r0.hold l=some (.loop rc)/\¬X.E l)(fn:FuncId)(ps:Array Tmp)(assign body:Code):
 ∃l mark df w1 ρ2,(Instr.enterLoop fn a.tmps ps assign body r).run P w= .ok (l,mark) w1/\az X ρ2 σ bx {a with defers:=mark++a.defers} w1/\ρ2.at_=ρ.at_/\Below w.heap.size w w1/\
  ρ2.hold l=some (.loop ⟨.ready,none,fn,a.tmps,ps,assign,body,df⟩)/\X.w0.heap.size<=l:=by
 cases r with
 |none=>
  have h1:=h.tc (o:=.deferred (some [])) rfl;have h2:=h1.tc (o:=.loop ⟨.ready,none,fn,a.tmps,ps,assign,body,w.heap.size⟩) rfl;refine⟨_,_,w.heap.size,_,_,run_enterLoop_outer fn a.tmps ps assign body,h2.switch (a':={a with defers:=[eQ w.heap.size]++a.defers}) h2.size (h2.marks.marked h3 fun hmd=>⟨by simp,Nat.le_trans h.mkb h.fr.size,fun hmem=>?_⟩) h2.tmps,rfl,((Below.refl w.heap.size w).alloc (Nat.le_refl _) _).alloc sI _,by simp,?_⟩
  ·have hm:=(h.marks.resolve_left hmd).1;have:=(Array.getElem?_eq_some_iff.1 (h.hold _ _ (hm.mem _ hmem)).1).1;omega
  ·have:=h.fr.size;omega
 |some l0=>
  obtain⟨_,rc,h0,hE⟩:=hr l0 rfl;have hl0:=(h.hold l0 _ (h.holds0 l0 _ h0 hE)).1;have h2:=h.tc (o:=.loop ⟨.ready,none,fn,a.tmps,ps,assign,body,rc.defers⟩) rfl;refine⟨w.heap.size,[],rc.defers,_,_,?_,h2,rfl,(Below.refl w.heap.size w).alloc (Nat.le_refl _) _,by simp,h.fr.size⟩;unfold Instr.enterLoop;simp only[Sem.run_bind,run_getLoop hl0,run_newObj_alloc,Result.andThen,Sem.run_pure]
theorem AQ{g:Operand}{ps:Array Tmp}{assign body:Code}(hA:Sound P assign)(hB:Sound P body){Qd:DX->Env->ae->Prop}{Q:Exit->Act->World->Prop}(hG:Good P C X)(hr:∀l,r=some l->X.md=1/\∃rc,X.r0.hold l=some (.loop rc)/\¬X.E l)
 (hok:cj C.tab X.N (.rangeFunc g ps assign body)=true) (h:az X ρ σ bx a w) (hlo:C.lo=0) (hyl:C.yl=none) {f:FuncId} {t e:Nat} {b:Bx} {items:List (List D)} {pd:Option D} {ext:Nat} {J:Nat->ae->Prop}
 (hg:ev σ g= .fn (.func f) [.loc t e 0 0]) (htn:t<C.nxt) (hbt:bx t=⟨e,1,b.sz,b.ty,b.es⟩) (hit:C.o.itB f b items pd ext) (hJ0:J 0 (bp C.nxt (ao bx t {bx t with k:=0})))
 (hround:∀n it bx1,items[n]? =some it->J n (bp C.nxt bx1)->it.length=ps.size/\
  cR P ⟨C.o,C.tab,C.base,C.nxt+ext,C.lo,C.yl,false,false⟩ assign (cp (cR P ⟨C.o,C.tab,C.base,C.nxt+ext,C.lo,C.yl,false,false⟩ body (lz C.nxt ext J n Qd σ bx1)) xT) (gD σ ps.toList it) bx1)
 (hend:∀bx1,J items.length (bp C.nxt bx1)->wW Qd σ bx1 pd)
 (hQ:∀e e' σ' bx' a' w' ρ',XR w' (ay X ρ' bx' w') ρ' e e'->Qd e σ' bx'->az X ρ' σ' bx' a' w'->Q e' a' w'):(Code.rangeFunc g ps assign body).wpIn (Fw r) n P Q a w:=by
 have xlo:X.lo=0:=by have:=hG.lo;omega
 simp only[cj,Bool.and_eq_true,List.all_eq_true,decide_eq_true_eq]at hok;have hgv:=h.ev g;rw[hg]at hgv;obtain⟨vs,hval,hvl,hv⟩:=hgv.pO;obtain⟨u,rfl⟩:∃u,vs= #[u]:=by
  obtain⟨l⟩:=vs
  match l,hvl with
  |[u],_=>exact⟨u,rfl⟩
 have hu:aE w (ay X ρ bx w) ρ (.loc t e 0 0) u:=hv 0 _ u rfl rfl;obtain⟨p,hp,rfl⟩:=hu.iq;refine wpIn_rangeFunc fun fn _=>?_;obtain⟨l,mark,df,w1,ρ2,he,h2,hat,hb,hl,hwl⟩:=tG (P:=P) h (fun h3=>hG.itB h3 _ _ _ _ _ hit) hr fn ps assign body;have hS1:az X ρ2 σ (ao bx (C.nxt+1) {bx (C.nxt+1)with k:=0}) {a with defers:=mark++a.defers} w1:=h2.less fun s=>by
  by_cases e:s=C.nxt+1
  ·subst e;exact .inr ⟨by omega,by simp[ao],by simp[ao],by simp[ao,CC],by simp[ao]⟩
  ·exact .inl (by simp[ao,e])
 have hts:t≠C.nxt+1:=oM;have hbt1:ao bx (C.nxt+1) {bx (C.nxt+1)with k:=0} t=⟨e,1,b.sz,b.ty,b.es⟩:=by rw[<-hbt];simp[ao,hts]
 obtain⟨ρ3,h3,_,hmv,hhold⟩:=hS1.CM xlo hts (by rw[hbt1]) (by simp[ao]) (fun _=>false);have hb3:fM t (C.nxt+1) (fun _=>false) (ao bx (C.nxt+1) {bx (C.nxt+1)with k:=0}) (C.nxt+1)=⟨(bx (C.nxt+1)).ep+1,1,b.sz,b.ty,b.es⟩:=by
  unfold fM;rw[if_pos rfl,hbt1];simp[ao]
 have hcut:bp C.nxt (fM t (C.nxt+1) (fun _=>false) (ao bx (C.nxt+1) {bx (C.nxt+1)with k:=0}))=bp C.nxt (ao bx t {bx t with k:=0}):=gE fun s hs=>by
  have h1:s≠C.nxt+1:=oM;by_cases hst:s=t
  ·subst hst;simp[fM,ao,h1]
  ·simp[fM,ao,h1,hst]
 have hp3:ρ3 (C.nxt+1) ((bx (C.nxt+1)).ep+1)=some p:=by
  have:=hmv p (by rw[hbt1];show ρ2.at_ t e=some p;rw[hat];exact hp);simpa[ao]using this
 generalize fM t (C.nxt+1) (fun _=>false) (ao bx (C.nxt+1) {bx (C.nxt+1)with k:=0})=bx3 at h3 hb3 hcut;rw[<-hcut]at hJ0;have hI:=hG.ok.itB f b items pd ext hit X ρ3 σ bx3 _ w1 l C.nxt ((bx (C.nxt+1)).ep+1) ⟨.ready,none,fn,a.tmps,ps,assign,body,df⟩ (.pointer (some ⟨p.b,0 * p.sz+0,none⟩)) J (yX C.nxt Qd σ) h3 xlo (by rw[hhold];exact hl) hwl (by
  cases h0:X.r0.hold l with
  |none=>rfl
  |some o=>have:=h.h0lt l o h0;omega) hb3 (.loc hp3 rfl) hJ0
  (sH hA hB (a:={a with defers:=mark++a.defers}) hG.ok hlo hyl ⟨hok.1.1,hok.1.2,hok.2⟩ ⟨rfl,rfl,rfl,rfl,rfl,rfl⟩ hround)
 obtain⟨hcf,hcalls⟩:=hI;refine⟨l,mark,w1,{target:=.fn (.func f) #[.pointer (some ⟨p.b,0 * p.sz+0,none⟩)],args:= #[.func (.yield l) #[] #[]]},w1,f,_,w1,he,by
  simp only[resolve,rangeCall,List.map_toArray,List.map_cons,List.map_nil];rw[hval];rfl,fun _ _=>trivial,hcf,fun h=>by simp[Fence.wide]at h,qn (Calls.mono hcalls ?_)⟩
 rintro e w' (⟨v,ρ',bx',rfl,h',hJ⟩|⟨d,v,ρ',bx',hpd,rfl,h',hrep,hJ⟩)
 ·have hlw:∀rc,ρ'.hold l=some (.loop rc)->w'.heap[l]? =some (.loop rc):=fun rc hh=>(h'.hold l _ hh).1;have setl:∀rc o',ρ'.hold l=some (.loop rc)->az X ⟨ρ'.at_,fun k=>if k=l then some (.loop o')else ρ'.hold k⟩ σ bx' {a with defers:=mark++a.defers} (w'.putObj l (.loop o')):=fun rc o' hh=>
   h'.xe hh (.inr hwl) (by
    cases h0:X.r0.hold l with
    |none=>exact .inl rfl
    |some o=>have:=h.h0lt l o h0;omega) sI rfl rfl (kQ w' l _) (World.putObj_heap_same (Array.getElem?_eq_some_iff.1 (hlw rc hh)).1) (h'.y0 xlo _ _)
  rcases hJ with⟨hn,hh,hJ⟩|⟨jump,hh,hJ⟩
  ·have hq:=hend bx' hJ;rw[hn]at hq;exact⟨none,_,run_endLoop (hlw _ hh) sI,hQ .normal .normal _ _ _ _ _ trivial hq (setl _ _ hh)⟩
  ·refine⟨some jump,_,run_endLoop (hlw _ hh) sI,?_⟩;cases jump with
   |ret=>exact wpIn_ret (hQ .ret .ret _ _ _ _ _ trivial (hJ bx' rfl) (setl _ _ hh))
   |exit id=>exact wpIn_exit (hQ (.exit id) (.exit id) _ _ _ _ _ rfl (hJ bx' rfl) (setl _ _ hh))
   |_=>exact hJ.elim
 ·have hq:=hend bx' hJ;rw[hpd]at hq;exact hQ (.pan d) (.panic [pe v]) _ _ _ _ _ ⟨v,rfl,hrep⟩ hq h'
theorem BJ{g:Operand}{ps:Array Tmp}{assign body:Code}(hA:Sound P assign)(hB:Sound P body):Sound P (.rangeFunc g ps assign body):=by
 intro r n C X Qd Q ρ σ bx a w hG hr hok h hc hQ;obtain⟨hlo,hyl,⟨f,caps,items,ext,hg,hp,hit,J,hJ0,hround,hend⟩|⟨f,t,e,b,items,pd,ext,hg,htn,hbt,hit,J,hJ0,hround,hend⟩⟩:=hc
 case inr=>exact AQ hA hB hG hr hok h hlo hyl hg htn hbt hit hJ0 hround hend hQ
 have xlo:X.lo=0:=by have:=hG.lo;omega
 simp only[cj,Bool.and_eq_true,List.all_eq_true,decide_eq_true_eq]at hok;have hgv:=h.ev g;rw[hg]at hgv;obtain⟨vs,hval,hvl,hv⟩:=hgv.pO;refine wpIn_rangeFunc fun fn _=>?_;obtain⟨l,mark,df,w1,ρ2,he,h2,hat,hb,hl,hwl⟩:=tG h (fun h3=>hG.it h3 _ _ _ _ hit) hr fn ps assign body;have hI:=hG.ok.it f caps items ext hit X ρ2 σ bx _ w1 l C.nxt ⟨.ready,none,fn,a.tmps,ps,assign,body,df⟩ vs J (yX C.nxt Qd σ) h2 xlo hl hwl (by
  cases h0:X.r0.hold l with
  |none=>rfl
  |some o=>have:=h.h0lt l o h0;omega) hvl (fun i x v hx hv'=>((hv i x v hx hv').dK (o6 _ hp i x hx)).mono (fun b hb'=>hb.block b hb'.1) (fun b hb'=>⟨Nat.lt_of_lt_of_le hb'.1 hb.size,hb'.2.1,by rw[hat];exact hb'.2.2⟩)) hJ0
  (sH hA hB (a:={a with defers:=mark++a.defers}) hG.ok hlo hyl ⟨hok.1.1,hok.1.2,hok.2⟩ ⟨rfl,rfl,rfl,rfl,rfl,rfl⟩ hround)
 obtain⟨hcf,hcalls⟩:=hI;refine⟨l,mark,w1,{target:=.fn (.func f) vs,args:= #[.func (.yield l) #[] #[]]},w1,f,_,w1,he,by
  simp only[resolve,rangeCall,List.map_toArray,List.map_cons,List.map_nil];rw[hval];rfl,fun _ _=>trivial,hcf,fun h=>by simp[Fence.wide]at h,qn (Calls.mono hcalls ?_)⟩
 rintro e w' ⟨v,ρ',bx',rfl,h',hJ⟩;have hlw:∀rc,ρ'.hold l=some (.loop rc)->w'.heap[l]? =some (.loop rc):=fun rc hh=>(h'.hold l _ hh).1;have setl:∀rc o',ρ'.hold l=some (.loop rc)->az X ⟨ρ'.at_,fun k=>if k=l then some (.loop o')else ρ'.hold k⟩ σ bx' {a with defers:=mark++a.defers} (w'.putObj l (.loop o')):=fun rc o' hh=>
  h'.xe hh (.inr hwl) (by
   cases h0:X.r0.hold l with
   |none=>exact .inl rfl
   |some o=>have:=h.h0lt l o h0;omega) sI rfl rfl (kQ w' l _) (World.putObj_heap_same (Array.getElem?_eq_some_iff.1 (hlw rc hh)).1) (h'.y0 xlo _ _)
 rcases hJ with⟨hh,hJ⟩|⟨jump,hh,hJ⟩
 ·exact⟨none,_,run_endLoop (hlw _ hh) sI,hQ .normal .normal _ _ _ _ _ trivial (hend bx' hJ) (setl _ _ hh)⟩
 ·refine⟨some jump,_,run_endLoop (hlw _ hh) sI,?_⟩;cases jump with
  |ret=>exact wpIn_ret (hQ .ret .ret _ _ _ _ _ trivial (hJ bx' rfl) (setl _ _ hh))
  |exit id=>exact wpIn_exit (hQ (.exit id) (.exit id) _ _ _ _ _ rfl (hJ bx' rfl) (setl _ _ hh))
  |_=>exact hJ.elim
theorem Er{F:Fence}{n:Nat}{Q:Exit->Act->World->Prop}{c:Code}(h:c.wpIn F n P (Exit.noGoto Q) a w):(Code.scope c).wpIn F n P Q a w:=by
 intro b k cs hro hb hr;have hs:step P (lone (b.atR a (.code (.scope c)::k)) cs w)= .next (lone (b.atR a (.code c:: .inScope c::k)) cs w):=step_lone_go (by simp[stepG,stepG.exec,Frame.atR])
 have hs':∀a w,step P (lone (b.atR a (.inScope c::k)) cs w)= .next (lone (b.atR a k) cs w):=fun a w=>step_lone_go (by simp[stepG,stepG.exec,Frame.atR])
 have h0:(lone (b.atR a (.code (.scope c)::k)) cs w).fenced P F:=fenced_calm hb hr rfl;obtain⟨e,a₁,w₁,hq,harr⟩:=h b (.inScope c::k) cs hro hb hr;cases e with
 |normal=>exact⟨.normal,a₁,w₁,hq,.head h0 hs (StepsIn.trans harr (.one (fenced_calm hb hr rfl) (hs' _ _)))⟩
 |exit id=>
  have hx:exitTo id (.inScope c::k)=exitTo id k:=by simp[exitTo]
  exact⟨_,a₁,w₁,hq,fun k' hk=> .head h0 hs (harr.1 k' (by rw[hx];exact hk)),
   fun hr' hk=>let ⟨k₁,h1,h2⟩:=harr.2 hr' (by rw[hx];exact hk);⟨k₁,h1,.head h0 hs h2⟩⟩
 |goto l=>exact hq.elim
 |ret=>exact⟨_,a₁,w₁,hq,.of_steps (.one h0 hs) harr⟩
 |panic ch=>exact⟨_,a₁,w₁,hq,.of_steps (.one h0 hs) harr⟩
 |outgrown=>exact⟨_,a₁,w₁,hq,.of_steps (.one h0 hs) harr⟩
theorem aE.FB{S:Nat->Prop}{v:Value}(h:aE w S ρ .abool v):∃b,v= .bool b:=by
 cases h with
 |pure h=>cases h with|abool b=>exact⟨b,rfl⟩
theorem cx(hm:P.follows .mixedOrders=true):∀(c:Code),Sound P c
 | .skip=>fun r n C X Qd Q ρ σ bx a w hG hr hok h hc hQ=>wpIn_skip (hQ .normal .normal _ _ _ _ _ trivial hc h)
 | .label _=>fun r n C X Qd Q ρ σ bx a w hG hr hok h hc hQ=>wpIn_label (hQ .normal .normal _ _ _ _ _ trivial hc h)
 | .exit id=>fun r n C X Qd Q ρ σ bx a w hG hr hok h hc hQ=>wpIn_exit (hQ (.exit id) (.exit id) _ _ _ _ _ rfl hc h)
 | .ret=>fun r n C X Qd Q ρ σ bx a w hG hr hok h hc hQ=>wpIn_ret (hQ .ret .ret _ _ _ _ _ trivial hc h)
 | .seq x y=>fun r n C X Qd Q ρ σ bx a w hG hr hok h hc hQ=>by
   simp only[cj,Bool.and_eq_true]at hok;refine wpIn_seq (cx hm x r n C X _ _ ρ σ bx a w hG hr hok.1 h hc fun e e' σ' bx' a' w' ρ' hx hq h'=>?_);rcases hx.cases with⟨rfl,rfl⟩|⟨rfl,rfl⟩|⟨_,rfl,rfl⟩|⟨_,rfl,rfl⟩|⟨_,_,rfl,rfl,_⟩
   ·exact cx hm y r n C X _ _ ρ' σ' bx' a' w' hG hr hok.2 h' hq hQ
   all_goals exact hQ _ _ _ _ _ _ _ hx hq h'
 | .cond c x y=>fun r n C X Qd Q ρ σ bx a w hG hr hok h hc hQ=>by
   simp only[cj,Bool.and_eq_true]at hok;have hcv:=h.ev c;simp only[cR]at hc;cases hd:ev σ c with
   |bool t=>
    rw[hd]at hc hcv;refine wpIn_cond hcv.fX ?_;cases t with
    |true=>exact cx hm x r n C X _ _ ρ σ bx a w hG hr hok.1 h hc hQ
    |false=>exact cx hm y r n C X _ _ ρ σ bx a w hG hr hok.2 h hc hQ
   |abool=>
    rw[hd]at hc hcv;obtain⟨b,hb⟩:=hcv.FB;refine wpIn_cond hb ?_;cases b with
    |true=>exact cx hm x r n C X _ _ ρ σ bx a w hG hr hok.1 h hc.1 hQ
    |false=>exact cx hm y r n C X _ _ ρ σ bx a w hG hr hok.2 h hc.2 hQ
   |_=>rw[hd]at hc;exact hc.elim
 | .block id c=>fun r n C X Qd Q ρ σ bx a w hG hr hok h hc hQ=>by
   refine wpIn_block (cx hm c r n C X _ _ ρ σ bx a w hG hr hok h hc fun e e' σ' bx' a' w' ρ' hx hq h'=>?_);rcases hx.cases with⟨rfl,rfl⟩|⟨rfl,rfl⟩|⟨id',rfl,rfl⟩|⟨_,rfl,rfl⟩|⟨_,_,rfl,rfl,_⟩
   rotate_left 2
   ·simp only[mn]at hq;simp only[Exit.inBlock];split at hq
    ·rename_i he;rw[if_pos he];exact hQ .normal .normal _ _ _ _ _ trivial hq h'
    ·rename_i he;rw[if_neg he];exact hQ _ _ _ _ _ _ _ hx hq h'
   all_goals exact hQ _ _ _ _ _ _ _ hx hq h'
 | .loop c=>fun r n C X Qd Q ρ σ bx a w hG hr hok h hc hQ=>by
   obtain⟨I,μ,h0,hl⟩:=hc;refine wpIn_loop_ghost (fun m a w=>∃ρ σ bx,az X ρ σ bx a w/\I σ bx/\μ σ bx=m) (μ σ bx) ⟨ρ,σ,bx,h,h0,rfl⟩ ?_;rintro m a w ⟨ρ,σ,bx,h,hI,rfl⟩;obtain⟨bx0,hmelt,hl0⟩:=hl σ bx hI;have h0:az X ρ σ bx0 a w:=by
    rcases hmelt with rfl|⟨hlo,s,es,hk,ho,rfl⟩
    ·exact h
    ·exact h.FH (by have:=hG.lo;omega) hk ho
   refine cx hm c r n C X _ _ ρ σ bx0 a w hG hr hok h0 hl0 fun e e' σ' bx' a' w' ρ' hx hq h'=>?_;rcases hx.cases with⟨rfl,rfl⟩|⟨rfl,rfl⟩|⟨_,rfl,rfl⟩|⟨_,rfl,rfl⟩|⟨_,_,rfl,rfl,_⟩
   ·exact⟨_,hq.2,ρ',σ',bx',h',hq.1,rfl⟩
   all_goals exact hQ _ _ _ _ _ _ _ hx hq h'
 | .region id ops draw=>fun r n C X Qd Q ρ σ bx a w hG hr hok h hc hQ=>by
   simp only[cj,Bool.and_eq_true,List.all_eq_true]at hok;obtain⟨hdst,hok⟩:=hok;have hdst:∀o∈ops.toList,∀t,o.dst=some t->t<X.N:=fun o ho t ht=>by
    have:=hdst o ho;rw[ht]at this;simpa using this
   cases draw with
   |false=>
    simp only[cR]at hc;refine wpIn_region ?_;have:=DR (r:=r) (n:=n) (Q:=Q) hG (fun l hl=>(hr l hl).1) hdst (K:=fun acc σ' bx'=>pE Qd acc σ' bx') (fun acc σ' bx' a' w' ρ' hacc hK h'=>hQ .normal .normal _ _ _ _ _ trivial (by
     cases acc with
     |nil=>exact hK
     |cons c l=>cases c<;>first|exact hK|exact absurd rfl (hacc _ _)) h') (fun d acc σ' bx' a' w' ρ' v hK h' hr'=>hQ (.pan d) (.panic [pe v]) _ _ _ _ _ ⟨v,rfl,hr'⟩ hK h') (jN C.tab (4000000+id)) ops.toList [] [] ρ σ bx a w rfl (by intro d l;simp) h hc
    rw[List.range_eq_range'];simpa using this
   |true=>
    simp only[cR,ku]at hc;refine wpIn_region_any hm ?_;split at hc
    ·obtain⟨t,hot,hst⟩:=hc;simp only[vI,Bool.and_eq_true]at hot;refine Gd rfl rfl rfl hot.1 hG.Va (fun l hl=>(hr l hl).1) hdst (fun σ bx a' w' ρ' hq h'=>hQ .normal .normal _ _ _ _ _ trivial hq h') (fun d σ' bx' a' w' ρ' v hp h' hr'=>hQ (.pan d) (.panic [pe v]) _ _ _ _ _ ⟨v,rfl,hr'⟩ (hp σ') h') _ _ t ρ σ bx a _ sI ?_ ?_ ?_ hst (h.ext ⟨rfl,rfl,rfl,Nat.le_refl _,fun _ _=>rfl⟩)
     ·exact Nat.le_trans (List.length_filter_le _ _) sI
     ·intro k o _ hL;exfalso;simp[Array.getD]at hL
     ·have:(fun j=>(Array.replicate ops.size false).getD j false)=fun _=>false:=by funext j;simp[Array.getD]
      rw[this];exact hot.2
    rename_i hnd;simp only[Bool.not_true,Bool.false_or,Bool.or_eq_true,hnd,false_or]at hok;obtain⟨cs,vs,σs,bs,hs0,hb0,hat,hch,hQd⟩:=vL (C:=C.tF) (fun _ _ _ _ _ _ hf=>hf) rfl rfl rfl _ _ _ _ hc;have hR:=MV (C:=C.tF) (id:=id) (tab:=C.tab) (by simpa using hok) rfl (by simpa using hch) hat;subst hs0;subst hb0;refine EB hR hG.tF (fun l hl=>(hr l hl).1) hdst (fun a' w' ρ' h'=>hQ .normal .normal _ _ _ _ _ trivial hQd h') _ _ ρ (σs 0) (bs 0) a _ sI ?_ ⟨fun i o ho hL=>?_,fun j hj=>?_,fun t=> .inr ⟨fun j hj=>?_,rfl⟩,fun s=> .inr ⟨fun j hj=>?_,rfl⟩⟩ (h.ext ⟨rfl,rfl,rfl,Nat.le_refl _,fun _ _=>rfl⟩)
    ·exact Nat.le_trans (List.length_filter_le _ _) sI
    all_goals
     exfalso;simp[Array.getD]at *
 | .rangeFunc g ps assign body=>BJ (cx hm assign) (cx hm body)
 | .scope c=>fun r n C X Qd Q ρ σ bx a w hG hr hok h hc hQ=>by
   refine Er (cx hm c r n C X _ _ ρ σ bx a w hG hr hok h hc fun e e' σ' bx' a' w' ρ' hx hq h'=>?_);rcases hx.cases with⟨rfl,rfl⟩|⟨rfl,rfl⟩|⟨_,rfl,rfl⟩|⟨_,rfl,rfl⟩|⟨_,_,rfl,rfl,_⟩
   rotate_left 3
   ·exact hq.elim
   all_goals exact hQ _ _ _ _ _ _ _ hx hq h'
 | .goto _=>fun r n C X Qd Q ρ σ bx a w hG hr hok h hc hQ=>hc.elim
 | .refuse _=>fun r n C X Qd Q ρ σ bx a w hG hr hok h hc hQ=>hc.elim
end Go.V
namespace Go.V
open Go.RowKit
variable {P:Program} {C:Calc} {X:Ctx} {ρ:bN} {σ:Env} {bx:ae} {a:Act} {w:World} {r:Option Nat} {n:Nat}
def pS(tmps:Array Value):ResultVar->Sem Value
 | .tmp t=>pure (tmps.getD t undef)
 | .cell a t=>do loadVar t (<-asAddr (tmps.getD a undef))
theorem yf(h:az X ρ σ bx a w):∀(rv:List ResultVar) (rs:List D),fN P σ bx rv=some rs->∃vs:List Value,(rv.mapM (pS a.tmps)).run P w= .ok vs w/\vs.length=rs.length/\∀(i:Nat) d v,rs[i]? =some d->vs[i]? =some v->aE w (ay X ρ bx w) ρ d v
 |[],rs,hr=>by
  simp only[fN,Option.some.injEq]at hr;subst hr;exact⟨[],by simp,rfl,fun i d v hd=>by simp at hd⟩
 |x::rv,rs,hr=>by
  simp only[fN]at hr;obtain⟨y,ys,h1,h2,rfl⟩:=kJ hr;obtain⟨vs,g1,g2,g3⟩:=yf h rv ys h2;have hx:∃v,(pS a.tmps x).run P w= .ok v w/\aE w (ay X ρ bx w) ρ y v:=by
   cases x with
   |tmp t=>
    simp only[kB,Option.some.injEq]at h1;subst h1;exact⟨_,by simp only[pS,Sem.run_pure],h.tmps t⟩
   |cell t T=>
    simp only[kB]at h1;obtain⟨ad,v,k1,k2,k3⟩:=tK h (h.tmps t) h1;exact⟨v,by simp only[pS,k1,asAddr,Sem.run_bind,Sem.run_pure,Result.andThen_ok,k2],k3⟩
  obtain⟨v,k1,k2⟩:=hx;refine⟨v::vs,by simp only[List.mapM_cons,Sem.run_bind,k1,Result.andThen_ok,g1,Sem.run_pure],by simp[g2],fun i d u hd hu=>?_⟩;cases i with
  |zero=>simp only[List.getElem?_cons_zero,Option.some.injEq]at hd hu;subst hd;subst hu;exact k2
  |succ i=>exact g3 i d u (by simpa using hd) (by simpa using hu)
theorem mU(h:az X ρ σ bx a w){fn:Func}{rs:List D}(hr:fN P σ bx fn.results.toList=some rs):∃v,(results fn a.tmps).run P w= .ok v w/\aE w (ay X ρ bx w) ρ (iG rs) v:=by
 obtain⟨vs,g1,g2,g3⟩:=yf h _ _ hr;have hrun:(results fn a.tmps).run P w= .ok (if h:vs.toArray.size=1 then vs.toArray[0]else .tuple vs.toArray) w:=by
  have e:results fn a.tmps=(fn.results.mapM (pS a.tmps)>>=fun vs=>pure (if h:vs.size=1 then vs[0]else .tuple vs)):=by
   unfold results
   congr 1
  rw[e,Sem.run_bind,Array.mapM_eq_mapM_toList,Sem.run_map,g1,Result.andThen_ok,Result.andThen_ok,Sem.run_pure]
 refine⟨_,hrun,?_⟩
 match rs,vs,g2,g3 with
 |[],[],_,_=>simp only[iG];exact .tup rfl (fun i d v hd=>by simp at hd)
 |[d],[v],_,g3=>exact g3 0 d v rfl rfl
 |d1::d2::ds,v1::v2::vs,g2,g3=>
  simp only[iG];rw[dif_neg sI];exact .tup (by simpa using g2) (fun i d v hd hv=>g3 i d v hd (by simpa using hv))
theorem qg:∀(ds:List D) (k t:Nat),aR k ds t=if t<k then .raw undef else(ds[t - k]?).getD (.raw undef)
 |[],k,t=>by simp[aR]
 |d::ds,k,t=>by
  simp only[aR,ao];by_cases h:t=k
  ·subst h;simp
  ·rw[if_neg h,qg ds (k+1) t];by_cases h2:t<k
   ·rw[if_pos oM,if_pos h2]
   ·rw[if_neg oM,if_neg h2];have:t - k=(t - (k+1))+1:=oM;rw[this];simp
theorem az.I4(h:az X ρ σ bx a w)(hmd:X.md=0){d:Deferred}{ds:List Deferred}(hd:a.defers=d::ds):∃r,d=eQ r/\ρ.hold r=some (.deferred (some [])):=by
 have hm:=(h.marks.resolve_left oM).1;rw[if_pos hmd,hd]at hm;generalize hl:([]:List D)=l at hm;generalize hx:d::ds=dd at hm;cases hm with
 |nil=>cases hx
 |mark h1=>injection hx with e1 e2;exact⟨_,e1,h1⟩
 |call=>cases hl
theorem j6{fn:Func}{rs:List D}(hlo:X.lo=0)(hml:X.ml=X.w0.heap.size)(hmd:X.md=0){R:Ending->World->Prop}:∀(ds:List Deferred) (a:Act) (ρ:bN) (w:World),a.defers=ds->az X ρ σ bx a w->fN P σ bx fn.results.toList=some rs->
 (∀ρ' w' v,az X ρ' σ bx {a with defers:=[]} w'->(∀b o,ρ.hold b=some o->o≠ .deferred (some [])->ρ'.hold b=some o)->aE w' (ay X ρ' bx w') ρ' (iG rs) v->R (.returned v) w')->LeavesInM Fence.wide n P fn a.tmps R ds .returning w
 |[],a,ρ,w,hd,h,hr,hR=>by
  obtain⟨v,g1,g2⟩:=mU h hr;exact⟨v,g1,hR ρ w v (h.switch h.size (.nil (.inl hmd)) h.tmps) (fun _ _ h _=>h) g2⟩
 |d::ds,a,ρ,w,hd,h,hr,hR=>by
  obtain⟨r,rfl,hh⟩:=h.I4 hmd hd;have hw:=(h.hold r _ hh).1;obtain⟨ρ',h',hk⟩:=h.take hd hml oM (kQ w r (.deferred none)) (World.putObj_heap_same (Array.getElem?_eq_some_iff.1 hw).1) hlo;refine⟨by simp,.inl ⟨r,_,rfl,run_takeDeferred hw,?_⟩⟩;exact j6 hlo hml hmd ds {a with defers:=ds} ρ' _ rfl h' hr fun ρ2 w2 v g1 g2 g3=>hR ρ2 w2 v g1 (fun b o ho hno=>g2 b o (hk b o ho hno) hno) g3
theorem sb{fn:Func}(hlo:X.lo=0)(hml:X.ml=X.w0.heap.size)(hmd:X.md=0){chain:List PanicEntry}{d0:D}{v0:Value}{R:Ending->World->Prop}:∀(ds:List Deferred) (a:Act) (ρ:bN) (w:World),a.defers=ds->az X ρ σ bx a w->aE w (ay X ρ bx w) ρ d0 v0->
 (∀ρ' w',az X ρ' σ bx {a with defers:=[]} w'->aE w' (ay X ρ' bx w') ρ' d0 v0->R (.panicked chain) w')->LeavesInM Fence.wide n P fn a.tmps R ds (.panicking chain) w
 |[],a,ρ,w,hd,h,hr,hR=>hR ρ w (h.switch h.size (.nil (.inl hmd)) h.tmps) hr
 |d::ds,a,ρ,w,hd,h,hr,hR=>by
  obtain⟨r,rfl,hh⟩:=h.I4 hmd hd;have hw:=(h.hold r _ hh).1;obtain⟨ρ',h',hk,hre⟩:=h.Ek hd hml oM (kQ w r (.deferred none)) (World.putObj_heap_same (Array.getElem?_eq_some_iff.1 hw).1) hlo;refine⟨by simp,.inl ⟨r,_,rfl,run_takeDeferred hw,?_⟩⟩;exact sb hlo hml hmd ds {a with defers:=ds} ρ' _ rfl h' (hre _ _ hr) fun ρ2 w2 g1 g3=>hR ρ2 w2 g1 g3
theorem jH{S:Nat->Prop}{ds:List D}{vs:Array Value}{N:Nat}(hl:vs.size=ds.length)(hlen:ds.length<=N)(hv:∀(i:Nat) x v,ds[i]? =some x->vs[i]? =some v->aE w S ρ x v):
 (vs++Array.replicate (N - vs.size) undef).size=N/\∀t,aE w S ρ (aR 0 ds t) ((vs++Array.replicate (N - vs.size) undef).getD t undef):=by
 refine⟨by simp;omega,fun t=>?_⟩;rw[qg];simp only[Nat.not_lt_zero,if_false,Nat.sub_zero];by_cases ht:t<ds.length
 ·have hd:ds[t]? =some ds[t]:=List.getElem?_eq_getElem ht;have htv:t<vs.size:=oM;have hva:vs[t]? =some vs[t]:=Array.getElem?_eq_getElem htv;have:(vs++Array.replicate (N - vs.size) undef).getD t undef=vs[t]:=by rw[Array.getD_eq_getD_getElem?,Array.getElem?_append_left htv,hva];rfl
  rw[this,hd];exact hv t _ _ hd hva
 ·have hd:ds[t]? =none:=List.getElem?_eq_none oM;have:(vs++Array.replicate (N - vs.size) undef).getD t undef=undef:=by
   rw[Array.getD_eq_getD_getElem?,Array.getElem?_append_right oM,Array.getElem?_replicate];split<;>rfl
  rw[this,hd];exact .pure (.raw _)
theorem Hi(hm:P.follows .mixedOrders=true){f:FuncId}{fn:Func}{O:eF}{tab:List (Nat×List (Nat×Nat))}{ds:List D}{d:D}(hf:P.funcs[f]? =some fn)
 (hname:(fn.name== "runtime.NumGoroutine")=false) (hlen:ds.length<=fn.ntmps) (hO:Ok P O) (h:lI P O tab fn ds d):aq P f ds d:=by
 obtain⟨c,hb,hok,hc⟩:=h;obtain⟨hN,hok⟩:fn.ntmps<=cB/\cj tab fn.ntmps c=true:=by simpa[codeOk,cB]using hok
 intro w S vs hS hglo hl hv;refine .inl ⟨Go.MuLone.run_callFunc_enter hf hname hb vs w,callsIn_wide.1 (callsIn_of_wp_marks (F:=Fence.wide) (n:=0) hf hb trivial ?_)⟩;obtain⟨k1,k2⟩:=jH (w:=w) (ρ:=⟨fun _ _=>none,fun _=>none⟩) (S:=fun b=>S b) (N:=fn.ntmps) hl hlen (fun i x v hx hv'=> .pure (hv i x v hx hv'));have h0:az ⟨w,S,w.heap.size,fun _=>False,fun _=>False,fn.ntmps,⟨fun _ _=>none,fun _=>none⟩,w.heap.size,0,fun _ _=>True,0⟩ ⟨fun _ _=>none,fun _=>none⟩ (aR 0 ds) (fun _=> .none) {tmps:=vs++Array.replicate (fn.ntmps - vs.size) undef,defers:=[]} w:=
  ⟨.refl _ _,hS,Nat.le_refl _,fun _ h=>h.elim,fun _ h=>h.elim,k1,.nil (.inl rfl),hN,Nat.le_refl _,fun t=>(k2 t).mono (fun _ _=>rfl) (fun b hb=>⟨hS b hb,.inl hb,fun t ht=>by simp[Bx.none]at ht⟩) (fun _ _ _ h=>h),.pure (hglo.mono (fun _ _=>rfl) (fun b hb=>⟨hS b hb,.inl hb,fun t ht=>by simp[Bx.none]at ht⟩)),fun t ht=>absurd rfl ht.1,fun t t' p p' ht=>by simp[Bx.none]at ht,(fun t e p hp=>by cases hp),(fun t e p hp=>by cases hp),(fun t e hp=>by cases hp),(fun t e hp=>by cases hp),fun _ _ _ _ _=>trivial,trivial,fun _ _ _=>trivial,(fun t e hp=>by cases hp),⟨fun t ht=>by simp[Bx.none]at ht,fun t t' p p' ht=>by simp[Bx.none]at ht⟩⟩
 refine cx hm c none 0 ⟨O,tab,0,fn.ntmps,0,none,false,false⟩ _ _ _ _ _ _ _ w ⟨hO,Nat.le_refl _,Nat.le_refl _,(fun _ _ _ hk=>by cases hk),(fun hf=>by cases hf),(fun hf=>by have:(0:Nat)=3:=hf;omega),fun hf=>by have:(0:Nat)=3:=hf;omega⟩ (fun l hl=>by cases hl) hok h0 hc fun e e' σ' bx' a' w' ρ' hx hq h'=>?_;have fin:(aI (fN P σ' bx' fn.results.toList) fun rs=>aI (bf bx' (iG rs)) fun r=>bk r d)->LeavesInM Fence.wide 0 P fn a'.tmps (fun e w'=>∃v,e= .returned v/\bG w S d v w') a'.defers .returning w':=by
  intro hq;cases hr:fN P σ' bx' fn.results.toList with
  |none=>rw[hr]at hq;exact hq.elim
  |some rs=>
   rw[hr]at hq;simp only[aI]at hq;cases ho:bf bx' (iG rs)with
   |none=>rw[ho]at hq;exact hq.elim
   |some x=>
    rw[ho]at hq;refine j6 rfl rfl rfl a'.defers a' ρ' w' rfl h' hr fun ρ2 w2 v g1 _ g3=>⟨v,rfl,?_,?_⟩
    ·refine aE.pF hq (jO g1 _ _ v ⟨fun b hb=>?_,fun t _ hk p hp=>?_⟩ g3 ho)
     ·rcases hb.2.1 with h1|h1
      ·exact .inl h1
      ·exact .inr ⟨h1,hb.1⟩
     ·obtain⟨p',hp',_,_,hpb,hh⟩:=g1.box t hk;rw[hp]at hp';injection hp' with hp';subst hp';exact .inr ⟨hpb.1,hh.lt⟩
    ·exact⟨g1.fr.os,g1.fr.tape,g1.fr.output,g1.fr.size,fun k hk=>g1.fr.block k hk (fun hm=>hm.elim id id)⟩
 rcases hx.cases with⟨rfl,rfl⟩|⟨rfl,rfl⟩|⟨_,rfl,rfl⟩|⟨_,rfl,rfl⟩|⟨_,_,rfl,rfl,_⟩
 ·exact fin hq
 ·exact fin hq
 all_goals exact hq.elim
theorem Fc(hm:P.follows .mixedOrders=true){f:FuncId}{fn:Func}{O:eF}{tab:List (Nat×List (Nat×Nat))}{base:Nat}{ds:List D}{bx:ae}{Q Qp:D->ae->Prop}(hf:P.funcs[f]? =some fn)
 (hname:(fn.name== "runtime.NumGoroutine")=false) (hlen:ds.length<=fn.ntmps) (hO:Ok P O) (h:iI P O tab fn base ds bx Q Qp):aU P f base ds bx Q Qp:=by
 obtain⟨c,hb,hok,hc⟩:=h;obtain⟨hN,hok⟩:fn.ntmps<=cB/\cj tab fn.ntmps c=true:=by simpa[codeOk,cB]using hok
 intro X ρ σ a w vs hS xlo hl hv;refine .inl ⟨Go.MuLone.run_callFunc_enter hf hname hb vs w,callsIn_wide.1 (callsIn_of_wp_marks (F:=Fence.wide) (n:=0) hf hb trivial ?_)⟩;obtain⟨k1,k2⟩:=jH (N:=fn.ntmps) hl hlen hv;have h0:=hS.sub (E:=fun _=>False) (N:=fn.ntmps) (ml:=w.heap.size) (md:=0) (a':={tmps:=vs++Array.replicate (fn.ntmps - vs.size) undef,defers:=[]}) hN (fun _ h=>h.elim) k1 (.nil (.inl rfl)) (Nat.le_refl _) k2;refine cx hm c none 0 ⟨O,tab,base,base+fn.ntmps,0,none,true,false⟩ _ _ _ _ _ _ _ w ⟨hO,Nat.le_refl _,Nat.zero_le _,(fun _ _ _ hk=>by cases hk),(fun hf=>by cases hf),(fun hf=>by have:(0:Nat)=3:=hf;omega),fun hf=>by have:(0:Nat)=3:=hf;omega⟩ (fun l hl=>by cases hl) hok h0 hc fun e e' σ' bx' a' w' ρ' hx hq h'=>?_;have fin:(aI (fN P σ' bx' fn.results.toList) fun rs=>Q (iG rs) bx')->LeavesInM Fence.wide 0 P fn a'.tmps (fun e w'=>(∃v,e= .returned v/\∃d bx' ρ',Q d bx'/\az X ρ' σ bx' a w'/\aE w' (ay X ρ' bx' w') ρ' d v)\/∃v,e= .panicked [pe v]/\∃d bx' ρ',Qp d bx'/\az X ρ' σ bx' a w'/\aE w' (ay X ρ' bx' w') ρ' d v) a'.defers .returning w':=by
  intro hq;cases hr:fN P σ' bx' fn.results.toList with
  |none=>rw[hr]at hq;exact hq.elim
  |some rs=>
   rw[hr]at hq;exact j6 rfl rfl rfl a'.defers a' ρ' w' rfl h' hr fun ρ2 w2 v g1 _ g3=> .inl ⟨v,rfl,iG rs,bx',ρ2,hq,hS.back rfl rfl g1 (fun _ h=>h.elim) (fun _ h=>h.elim) (fun _ h=>h.elim) (hS.y0 xlo _ _),g3⟩
 rcases hx.cases with⟨rfl,rfl⟩|⟨rfl,rfl⟩|⟨_,rfl,rfl⟩|⟨_,rfl,rfl⟩|⟨d,v,rfl,rfl,hv⟩
 ·exact fin hq
 ·exact fin hq
 ·exact hq.elim
 ·exact hq.elim
 ·exact sb rfl rfl rfl a'.defers a' ρ' w' rfl h' hv fun ρ2 w2 g1 g3=> .inr ⟨v,rfl,d,bx',ρ2,hq,hS.back rfl rfl g1 (fun _ h=>h.elim) (fun _ h=>h.elim) (fun _ h=>h.elim) (hS.y0 xlo _ _),g3⟩
end Go.V
namespace Go.V
open Go.RowKit
variable {P:Program} {X:Ctx} {ρ:bN} {σ:Env} {bx:ae} {a:Act} {w:World}
def gi(gs l:Nat)(rc:Loop)(items:List (List D))(J:Nat->ae->Prop)(Jx:Code->ae->Prop)(c:ae)(h:Nat->Option Obj):Prop:=
 (c gs).k=0/\(((c gs).sz<=items.length/\h l=some (.loop rc)/\J (c gs).sz (bp gs c))\/
  ((c gs).sz=items.length+1/\∃jump,h l=some (.loop {rc with state:=.done,pending:=some jump})/\Jx jump (bp gs c)))
def Ctx.gW(X:Ctx)(lo:Nat)(Y:ae->(Nat->Option Obj)->Prop):Ctx:={X with lo:=lo,Y:=Y}
theorem az.gW(h:az X ρ σ bx a w){lo:Nat}{Y:ae->(Nat->Option Obj)->Prop}(yc:∀c h h',Y c h->(∀b o,h b=some o->h' b=some o)->Y c h')(inv:Y (bp lo bx) ρ.hold)(y0:lo=0->∀c h,Y c h):az (X.gW lo Y) ρ σ bx a w:=
 ⟨h.fr,h.s0,h.nb,h.mb,h.ec,h.size,h.marks,h.nle,h.mkb,h.tmps,h.glo,h.box,h.inj,h.eps,h.r0,h.hold,h.holds0,yc,inv,y0,h.h0lt,h.maps.of (fun _ h=>⟨h,rfl,rfl⟩) (fun _ _ _ h=>h) (fun _ _ _ _ _ h=>h) (fun _ h=>h)⟩
theorem az.FM{lo:Nat}{Y:ae->(Nat->Option Obj)->Prop}(h:az (X.gW lo Y) ρ σ bx a w)(xlo:X.lo=0)(xY:∀c h,X.Y c h):az X ρ σ bx a w:=
 ⟨h.fr,h.s0,h.nb,h.mb,h.ec,h.size,h.marks,h.nle,h.mkb,h.tmps,h.glo,h.box,h.inj,h.eps,h.r0,h.hold,h.holds0,fun _ _ _ _ _=>xY _ _,xY _ _,fun _ c h=>xY c h,h.h0lt,h.maps.of (fun _ h=>⟨h,rfl,rfl⟩) (fun _ _ _ h=>h) (fun _ _ _ _ _ h=>h) (fun _ h=>h)⟩
theorem gF{m n:Nat}(h:m<=n)(bx:ae):bp m (bp n bx)=bp m bx:=by
 funext s;unfold bp;by_cases h1:s<m
 ·have:s<n:=oM;simp[h1,this]
 ·simp[h1]
set_option maxHeartbeats 1000000 in
theorem Fg(hm:P.follows .mixedOrders=true){f:FuncId}{fn:Func}{O:eF}{tab:List (Nat×List (Nat×Nat))}{caps:List D}{items:List (List D)}(hf:P.funcs[f]? =some fn)
 (hname:(fn.name== "runtime.NumGoroutine")=false) (hlen:caps.length+1<=fn.ntmps) (hO:Ok P O) (h:IV P O tab fn caps items):rH P f caps items (fn.ntmps+1):=by
 obtain⟨c,hb,hok,hres,hc⟩:=h;obtain⟨hN,hok⟩:fn.ntmps<=cB/\cj tab fn.ntmps c=true:=by simpa[codeOk,cB]using hok
 intro X ρ σ bx a w gs' gs rc vs J Jx;intro hS xlo hl hwl hr0 hvl hv hJ hround;have hS1:az X ρ σ (ao bx gs {bx gs with k:=0,sz:=0}) a w:=hS.less fun s=>by
  by_cases e:s=gs
  ·subst e;exact .inr ⟨by omega,by simp[ao],by simp[ao],by simp[ao,CC],by simp[ao]⟩
  ·exact .inl (by simp[ao,e])
 have hcut:bp gs (ao bx gs {bx gs with k:=0,sz:=0})=bp gs bx:=gE fun s hs=>by
  have:s≠gs:=oM;simp[ao,this]
 have hst:∀b,ay X ρ bx w b->ay X ρ (ao bx gs {bx gs with k:=0,sz:=0}) w b:=fun b hb'=>⟨hb'.1,hb'.2.1,fun t ht p hp=>by
  by_cases e:t=gs
  ·subst e;simp[ao]at ht
  ·simp only[ao,e,if_false]at ht hp;exact hb'.2.2 t ht p hp⟩
 generalize hbx:ao bx gs {bx gs with k:=0,sz:=0}=bx1 at hS1 hcut hst;have hg1:(bx1 gs).k=0/\(bx1 gs).sz=0:=by rw[<-hbx];simp[ao]
 obtain⟨k1,k2⟩:=jH (w:=w) (ρ:=ρ) (S:=ay X ρ bx1 w) (ds:=.fn (.yield gs') []::caps) (vs:= #[Value.func (.yield gs') #[] #[]]++vs) (N:=fn.ntmps) (by simp[hvl];omega) (by simpa using hlen) (fun i x v hx hv'=>by
  cases i with
  |zero=>
   simp only[List.getElem?_cons_zero,Option.some.injEq]at hx;subst hx;have hv2:v=Value.func (.yield gs') #[] #[]:=by
    rw[Array.getElem?_append_left sI]at hv';injection hv' with hv';exact hv'.symm
   subst hv2;exact .fn rfl sI
  |succ i=>
   simp only[List.getElem?_cons_succ]at hx;rw[Array.getElem?_append_right sI]at hv';have hv2:vs[i]? =some v:=by simpa using hv'
   exact .pure ((hv i x v hx hv2).ig hst))
 have hlw:=(hS.hold gs' _ hl).1;have hE:∀b,b=gs'->∀o,w.heap[b]? =some o->Obj.jn o=false:=by
  rintro b rfl o ho;rw[hlw]at ho;injection ho with ho;subst ho;rfl
 have hsub:=hS1.sub (E:=fun b=>b=gs') (N:=fn.ntmps) (ml:=w.heap.size) (md:=0) (a':={tmps:=(#[Value.func (.yield gs') #[] #[]]++vs)++Array.replicate (fn.ntmps - (#[Value.func (.yield gs') #[] #[]]++vs).size) undef,defers:=[]}) hN hE k1 (.nil (.inl rfl)) (Nat.le_refl _) k2;have pc:∀(c:ae) (h h':Nat->Option Obj),gi gs gs' rc items J Jx c h->(∀b o,h b=some o->h' b=some o)->gi gs gs' rc items J Jx c h':=by
  rintro c h h' ⟨g0,g1|⟨g1,jump,g2,g3⟩⟩ hh
  ·exact⟨g0,.inl ⟨g1.1,hh _ _ g1.2.1,g1.2.2⟩⟩
  ·exact⟨g0,.inr ⟨g1,jump,hh _ _ g2,g3⟩⟩
 have cutgs:∀bx:ae,bp (gs+1) bx gs=bx gs:=fun bx=>by simp[bp]
 have hW:=hsub.gW (lo:=gs+1) (Y:=gi gs gs' rc items J Jx) pc ⟨by rw[cutgs];exact hg1.1,.inl ⟨by rw[cutgs,hg1.2];omega,hl,by rw[cutgs,hg1.2,gF oM,hcut];exact hJ⟩⟩ (fun h0=>by omega);generalize hYd:X.sub ρ bx1 w (fun b=>b=gs') fn.ntmps w.heap.size 0=Y at hsub hW;have hY0:Y.lo=0/\(∀c h,Y.Y c h)/\Y.S0=X.S0/\Y.n0=X.n0/\Y.E gs'/\Y.ml=Y.w0.heap.size/\Y.N=fn.ntmps/\Y.md=0:=by rw[<-hYd];exact⟨rfl,fun _ _=>trivial,rfl,rfl,.inl rfl,rfl,rfl,rfl⟩
 obtain⟨ylo,yY,yS,yn,yE,yml,yN,ymd⟩:=hY0;have back:∀(ρ':bN) (σ':Env) (bx':ae) (a':Act) (w':World),az Y ρ' σ' bx' a' w'->az X ρ' σ bx' a w':=by
  intro ρ' σ' bx' a' w' hs;rw[<-hYd]at hs;exact hS1.back rfl rfl hs (fun b hb=>by subst hb;exact .inr hwl) (fun b hb=>by subst hb;rw[hl];simp) (fun b hb=>by subst hb;exact .inl hr0) (hS.y0 xlo _ _)
 have good:Good P ⟨O,tab,gs+1,gs+1+fn.ntmps,gs+1,some (items,gs,gs'),false,false⟩ (Y.gW (gs+1) (gi gs gs' rc items J Jx)):=by
  refine⟨hO,Nat.le_refl _,Nat.le_refl _,fun it2 g2 l2 hy ρ1 σi bxi ai wi us ds hsi hi hus hrep=>?_,(fun hf=>by cases hf),(fun hf=>by have:Y.md=3:=hf;omega),fun hf=>by have:Y.md=3:=hf;omega⟩;simp only[Option.some.injEq,Prod.mk.injEq]at hy;obtain⟨rfl,rfl,rfl⟩:=hy;have hlt:=(List.getElem?_eq_some_iff.1 hi).1;have hinv:gi gs gs' rc items J Jx (bp (gs+1) bxi) ρ1.hold:=hsi.inv;obtain⟨g0,g1⟩:=hinv;rw[cutgs]at g0 g1;rcases g1 with⟨g1,g2,g3⟩|⟨g1,_⟩
  ·rw[gF oM]at g3;have hsY:=hsi.FM ylo yY;obtain⟨f2,tm,as,bd,hy,hR⟩:=hround (bxi gs).sz ds ρ1 bxi wi us hi (back _ _ _ _ _ hsY) g2 g3 hus (fun i x v hx hv'=>by
    have:=hrep i x v hx hv';have e:ay (Y.gW (gs+1) (gi gs gs' rc items J Jx)) ρ1 bxi wi=ay X ρ1 bxi wi:=by funext b;simp only[ay,Ctx.gW,yS,yn]
    rw[e]at this;exact this)
   refine⟨f2,tm,as,bd,hy,fun m=>(hR m).mono ?_⟩;rintro e w2 ⟨ρ2,bx2,b,rfl,q1,q2,q3,q4⟩;refine⟨ρ2,bx2,b,rfl,?_⟩;have hgs:bx2 gs=bxi gs:=q1 gs (Nat.le_refl _) oM;have hmix:lQ (gs+1) (gs+1+fn.ntmps) bxi bx2=bx2:=by
    funext s;unfold lQ;by_cases hs:gs+1<=s/\s<gs+1+fn.ntmps
    ·rw[if_pos hs];exact(q1 s oM oM).symm
    ·rw[if_neg hs]
   show az _ ρ2 σi (ao (lQ (gs+1) (gs+1+fn.ntmps) bxi bx2) gs _) ai w2;rw[hmix];have h3:=q2 Y σi ai yS yn yE hsY (yY _ _);have h4:az Y ρ2 σi (ao bx2 gs {bxi gs with sz:=if b=true then(bxi gs).sz+1 else items.length+1}) ai w2:=h3.less fun s=>by
    by_cases e:s=gs
    ·subst e;exact .inr ⟨by omega,by simp[ao,g0],by simp[ao,hgs],by simp[ao,g0,CC],by simp[ao,g0]⟩
    ·exact .inl (by simp[ao,e])
   have hcut2:∀b',bp gs (ao bx2 gs b')=bp gs bx2:=fun b'=>gE fun s hs=>by
    have:s≠gs:=oM;simp[ao,this]
   refine h4.gW pc ?_ (fun h0=>by omega);refine⟨by rw[cutgs];simp[ao,g0],?_⟩;rw[cutgs,gF oM,hcut2];simp only[ao,if_true];rcases q4 with⟨rfl,q5,q6⟩|⟨rfl,jump,q5,q6⟩
   ·exact .inl ⟨by simp;omega,q5,by simpa using q6⟩
   ·exact .inr ⟨by simp,jump,q5,q6⟩
  ·omega
 refine⟨Go.MuLone.run_callFunc_enter hf hname hb _ w,callsIn_wide.1 (callsIn_of_wp_marks (F:=Fence.wide) (n:=0) hf hb trivial ?_)⟩;refine cx hm c none 0 ⟨O,tab,gs+1,gs+1+fn.ntmps,gs+1,some (items,gs,gs'),false,false⟩ (Y.gW (gs+1) (gi gs gs' rc items J Jx)) _ _ _ _ _ _ w good (fun l hl=>by cases hl) (by show cj tab Y.N c=true;rw[yN];exact hok) hW (hc gs gs' bx1 hg1.1 hg1.2) fun e e' σ' bx' a' w' ρ' hx hq h'=>?_;have fin:items.length<=(bx' gs).sz->LeavesInM Fence.wide 0 P fn a'.tmps (fun e w'=>∃v ρ' bx',e= .returned v/\az X ρ' σ bx' a w'/\
  ((ρ'.hold gs'=some (.loop rc)/\J items.length (bp gs bx'))\/∃jump,ρ'.hold gs'=some (.loop {rc with state:=.done,pending:=some jump})/\Jx jump (bp gs bx'))) a'.defers .returning w':=by
  intro hq;have hinv:gi gs gs' rc items J Jx (bp (gs+1) bx') ρ'.hold:=h'.inv;obtain⟨g0,g1⟩:=hinv;rw[cutgs,gF oM]at g1;have hsY:=h'.FM ylo yY;refine j6 ylo yml ymd a'.defers a' ρ' w' rfl hsY (rs:=[]) (by rw[hres];rfl) fun ρ2 w2 v s1 s2 _=>⟨v,ρ2,bx',rfl,back _ _ _ _ _ s1,?_⟩
  rcases g1 with⟨g1,g2,g3⟩|⟨g1,jump,g2,g3⟩
  ·have e:(bx' gs).sz=items.length:=oM;rw[e]at g3;exact .inl ⟨s2 _ _ g2 sI,g3⟩
  ·exact .inr ⟨jump,s2 _ _ g2 sI,g3⟩
 rcases hx.cases with⟨rfl,rfl⟩|⟨rfl,rfl⟩|⟨_,rfl,rfl⟩|⟨_,rfl,rfl⟩|⟨_,_,rfl,rfl,_⟩
 ·exact fin hq
 ·exact fin hq
 all_goals exact hq.elim
set_option maxHeartbeats 1000000 in
theorem Dn(hm:P.follows .mixedOrders=true){f:FuncId}{fn:Func}{O:eF}{tab:List (Nat×List (Nat×Nat))}{b:Bx}{items:List (List D)}{pd:Option D}(hf:P.funcs[f]? =some fn)
 (hname:(fn.name== "runtime.NumGoroutine")=false) (hlen:2<=fn.ntmps) (hO:Ok P O) (h:Hh P O tab fn b items pd):sU P f b items pd (fn.ntmps+2):=by
 obtain⟨c,hb,hok,hres,hc⟩:=h;obtain⟨hN,hok⟩:fn.ntmps<=cB/\cj tab fn.ntmps c=true:=by simpa[codeOk,cB]using hok
 intro X ρ σ bx a w gs' gs ep rc u J Jx;intro hS xlo hl hwl hr0 hbo hu hJ hround;have hS1:az X ρ σ (ao bx gs {bx gs with k:=0,sz:=0}) a w:=hS.less fun s=>by
  by_cases e:s=gs
  ·subst e;exact .inr ⟨by omega,by simp[ao],by simp[ao],by simp[ao,CC],by simp[ao]⟩
  ·exact .inl (by simp[ao,e])
 have hcut:bp gs (ao bx gs {bx gs with k:=0,sz:=0})=bp gs bx:=gE fun s hs=>by
  have:s≠gs:=oM;simp[ao,this]
 have hst:∀b,ay X ρ bx w b->ay X ρ (ao bx gs {bx gs with k:=0,sz:=0}) w b:=fun b hb'=>⟨hb'.1,hb'.2.1,fun t ht p hp=>by
  by_cases e:t=gs
  ·subst e;simp[ao]at ht
  ·simp only[ao,e,if_false]at ht hp;exact hb'.2.2 t ht p hp⟩
 have hbo1:ao bx gs {bx gs with k:=0,sz:=0} (gs+1)=⟨ep,1,b.sz,b.ty,b.es⟩:=by rw[<-hbo];simp[ao]
 have hu1:=hu.mono (w':=w) (S':=ay X ρ (ao bx gs {bx gs with k:=0,sz:=0}) w) (ρ':=ρ) (fun _ _=>rfl) hst (fun _ _ _ h=>h);generalize hbx:ao bx gs {bx gs with k:=0,sz:=0}=bx1 at hS1 hcut hst hbo1 hu1;have hg1:(bx1 gs).k=0/\(bx1 gs).sz=0:=by rw[<-hbx];simp[ao]
 obtain⟨k1,k2⟩:=jH (w:=w) (ρ:=ρ) (S:=ay X ρ bx1 w) (ds:=[.fn (.yield gs') [],.loc (gs+1) ep 0 0]) (vs:= #[Value.func (.yield gs') #[] #[],u]) (N:=fn.ntmps) rfl hlen (fun i x v hx hv'=>by
  rcases i with _|_|i
  ·simp at hx hv';subst hx;subst hv';exact .fn rfl sI
  ·simp at hx hv';subst hx;subst hv';exact hu1
  ·simp at hx)
 have hlw:=(hS.hold gs' _ hl).1;have hE:∀b,b=gs'->∀o,w.heap[b]? =some o->Obj.jn o=false:=by
  rintro b rfl o ho;rw[hlw]at ho;injection ho with ho;subst ho;rfl
 have hsub:=hS1.sub (E:=fun b=>b=gs') (N:=fn.ntmps) (ml:=w.heap.size) (md:=0) (a':={tmps:= #[Value.func (.yield gs') #[] #[],u]++Array.replicate (fn.ntmps - #[Value.func (.yield gs') #[] #[],u].size) undef,defers:=[]}) hN hE k1 (.nil (.inl rfl)) (Nat.le_refl _) k2;have pc:∀(c:ae) (h h':Nat->Option Obj),gi gs gs' rc items J Jx c h->(∀b o,h b=some o->h' b=some o)->gi gs gs' rc items J Jx c h':=by
  rintro c h h' ⟨g0,g1|⟨g1,jump,g2,g3⟩⟩ hh
  ·exact⟨g0,.inl ⟨g1.1,hh _ _ g1.2.1,g1.2.2⟩⟩
  ·exact⟨g0,.inr ⟨g1,jump,hh _ _ g2,g3⟩⟩
 have cutgs:∀bx:ae,bp (gs+1) bx gs=bx gs:=fun bx=>by simp[bp]
 have hW:=hsub.gW (lo:=gs+1) (Y:=gi gs gs' rc items J Jx) pc ⟨by rw[cutgs];exact hg1.1,.inl ⟨by rw[cutgs,hg1.2];omega,hl,by rw[cutgs,hg1.2,gF oM,hcut];exact hJ⟩⟩ (fun h0=>by omega);generalize hYd:X.sub ρ bx1 w (fun b=>b=gs') fn.ntmps w.heap.size 0=Y at hsub hW;have hY0:Y.lo=0/\(∀c h,Y.Y c h)/\Y.S0=X.S0/\Y.n0=X.n0/\Y.E gs'/\Y.ml=Y.w0.heap.size/\Y.N=fn.ntmps/\Y.md=0:=by rw[<-hYd];exact⟨rfl,fun _ _=>trivial,rfl,rfl,.inl rfl,rfl,rfl,rfl⟩
 obtain⟨ylo,yY,yS,yn,yE,yml,yN,ymd⟩:=hY0;have back:∀(ρ':bN) (σ':Env) (bx':ae) (a':Act) (w':World),az Y ρ' σ' bx' a' w'->az X ρ' σ bx' a w':=by
  intro ρ' σ' bx' a' w' hs;rw[<-hYd]at hs;exact hS1.back rfl rfl hs (fun b hb=>by subst hb;exact .inr hwl) (fun b hb=>by subst hb;rw[hl];simp) (fun b hb=>by subst hb;exact .inl hr0) (hS.y0 xlo _ _)
 have good:Good P ⟨O,tab,gs+2,gs+2+fn.ntmps,gs+1,some (items,gs,gs'),true,false⟩ (Y.gW (gs+1) (gi gs gs' rc items J Jx)):=by
  refine⟨hO,Nat.le_refl _,(by show gs+1<=gs+2;omega),fun it2 g2 l2 hy ρ1 σi bxi ai wi us ds hsi hi hus hrep=>?_,(fun hf=>by cases hf),(fun hf=>by have:Y.md=3:=hf;omega),fun hf=>by have:Y.md=3:=hf;omega⟩;simp only[Option.some.injEq,Prod.mk.injEq]at hy;obtain⟨rfl,rfl,rfl⟩:=hy;have hlt:=(List.getElem?_eq_some_iff.1 hi).1;have hinv:gi gs gs' rc items J Jx (bp (gs+1) bxi) ρ1.hold:=hsi.inv;obtain⟨g0,g1⟩:=hinv;rw[cutgs]at g0 g1;rcases g1 with⟨g1,g2,g3⟩|⟨g1,_⟩
  ·rw[gF oM]at g3;have hsY:=hsi.FM ylo yY;obtain⟨f2,tm,as,bd,hy,hR⟩:=hround (bxi gs).sz ds ρ1 bxi wi us hi (back _ _ _ _ _ hsY) g2 g3 hus (fun i x v hx hv'=>by
    have:=hrep i x v hx hv';have e:ay (Y.gW (gs+1) (gi gs gs' rc items J Jx)) ρ1 bxi wi=ay X ρ1 bxi wi:=by funext b;simp only[ay,Ctx.gW,yS,yn]
    rw[e]at this;exact this)
   refine⟨f2,tm,as,bd,hy,fun m=>(hR m).mono ?_⟩;rintro e w2 ⟨ρ2,bx2,b,rfl,q1,q2,q3,q4⟩;refine⟨ρ2,bx2,b,rfl,?_⟩;have hgs:bx2 gs=bxi gs:=q1 gs (Nat.le_refl _) oM;have hmix:lQ (gs+1) (gs+2+fn.ntmps) bxi bx2=bx2:=by
    funext s;unfold lQ;by_cases hs:gs+1<=s/\s<gs+2+fn.ntmps
    ·rw[if_pos hs];exact(q1 s oM oM).symm
    ·rw[if_neg hs]
   show az _ ρ2 σi (ao (lQ (gs+1) (gs+2+fn.ntmps) bxi bx2) gs _) ai w2;rw[hmix];have h3:=q2 Y σi ai yS yn yE hsY (yY _ _);have h4:az Y ρ2 σi (ao bx2 gs {bxi gs with sz:=if b=true then(bxi gs).sz+1 else items.length+1}) ai w2:=h3.less fun s=>by
    by_cases e:s=gs
    ·subst e;exact .inr ⟨by omega,by simp[ao,g0],by simp[ao,hgs],by simp[ao,g0,CC],by simp[ao,g0]⟩
    ·exact .inl (by simp[ao,e])
   have hcut2:∀b',bp gs (ao bx2 gs b')=bp gs bx2:=fun b'=>gE fun s hs=>by
    have:s≠gs:=oM;simp[ao,this]
   refine h4.gW pc ?_ (fun h0=>by omega);refine⟨by rw[cutgs];simp[ao,g0],?_⟩;rw[cutgs,gF oM,hcut2];simp only[ao,if_true];rcases q4 with⟨rfl,q5,q6⟩|⟨rfl,jump,q5,q6⟩
   ·exact .inl ⟨by simp;omega,q5,by simpa using q6⟩
   ·exact .inr ⟨by simp,jump,q5,q6⟩
  ·omega
 refine⟨Go.MuLone.run_callFunc_enter hf hname hb _ w,callsIn_wide.1 (callsIn_of_wp_marks (F:=Fence.wide) (n:=0) hf hb trivial ?_)⟩;refine cx hm c none 0 ⟨O,tab,gs+2,gs+2+fn.ntmps,gs+1,some (items,gs,gs'),true,false⟩ (Y.gW (gs+1) (gi gs gs' rc items J Jx)) _ _ _ _ _ _ w good (fun l hl=>by cases hl) (by show cj tab Y.N c=true;rw[yN];exact hok) hW (hc gs gs' ep bx1 hg1.1 hg1.2 hbo1) fun e e' σ' bx' a' w' ρ' hx hq h'=>?_;have fin:(items.length<=(bx' gs).sz/\(pd=none\/items.length<(bx' gs).sz))->LeavesInM Fence.wide 0 P fn a'.tmps (fun e w'=>(∃v ρ' bx',e= .returned v/\az X ρ' σ bx' a w'/\
  ((pd=none/\ρ'.hold gs'=some (.loop rc)/\J items.length (bp gs bx'))\/∃jump,ρ'.hold gs'=some (.loop {rc with state:=.done,pending:=some jump})/\Jx jump (bp gs bx')))\/
  ∃d v ρ' bx',pd=some d/\e= .panicked [pe v]/\az X ρ' σ bx' a w'/\aE w' (ay X ρ' bx' w') ρ' d v/\J items.length (bp gs bx')) a'.defers .returning w':=by
  rintro⟨hq,hq2⟩;have hinv:gi gs gs' rc items J Jx (bp (gs+1) bx') ρ'.hold:=h'.inv;obtain⟨g0,g1⟩:=hinv;rw[cutgs,gF oM]at g1;have hsY:=h'.FM ylo yY;refine j6 ylo yml ymd a'.defers a' ρ' w' rfl hsY (rs:=[]) (by rw[hres];rfl) fun ρ2 w2 v s1 s2 _=> .inl ⟨v,ρ2,bx',rfl,back _ _ _ _ _ s1,?_⟩;rcases g1 with⟨g1,g2,g3⟩|⟨g1,jump,g2,g3⟩
  ·have e:(bx' gs).sz=items.length:=oM;rw[e]at g3;exact .inl ⟨hq2.resolve_right oM,s2 _ _ g2 sI,g3⟩
  ·exact .inr ⟨jump,s2 _ _ g2 sI,g3⟩
 rcases hx.cases with⟨rfl,rfl⟩|⟨rfl,rfl⟩|⟨_,rfl,rfl⟩|⟨_,rfl,rfl⟩|⟨d,v,rfl,rfl,hv⟩
 ·exact fin hq
 ·exact fin hq
 ·exact hq.elim
 ·exact hq.elim
 ·obtain⟨hpd,hz⟩:=hq;have hinv:gi gs gs' rc items J Jx (bp (gs+1) bx') ρ'.hold:=h'.inv;obtain⟨g0,g1⟩:=hinv;rw[cutgs,gF oM]at g1;have hsY:=h'.FM ylo yY;have eS:ay (Y.gW (gs+1) (gi gs gs' rc items J Jx)) ρ' bx' w'=ay Y ρ' bx' w':=by funext b;simp only[ay,Ctx.gW]
  rw[eS]at hv;refine sb ylo yml ymd a'.defers a' ρ' w' rfl hsY hv fun ρ2 w2 s1 s3=> .inr ⟨d,v,ρ2,bx',hpd,rfl,back _ _ _ _ _ s1,?_,?_⟩
  ·have eX:ay Y ρ2 bx' w2=ay X ρ2 bx' w2:=by funext b;simp only[ay,yS,yn]
   rw[eX]at s3;exact s3
  ·rcases g1 with⟨_,_,g3⟩|⟨g1,_⟩
   ·rw[hz]at g3;exact g3
   ·omega
def bK(P:Program):eF:=⟨aq P,aU P,rH P,sU P⟩
theorem nL(P:Program):Ok P (bK P):=⟨fun _ _ _ h=>h,fun _ _ _ _ _ _ h=>h,fun _ _ _ _ h=>h,fun _ _ _ _ _ h=>h⟩
theorem av(hm:P.follows .mixedOrders=true){f:FuncId}{fn:Func}{tab:List (Nat×List (Nat×Nat))}{ds:List D}{d:D}(h:lI P (bK P) tab fn ds d)(hf:P.funcs[f]? =some fn)
 (hname:(fn.name== "runtime.NumGoroutine")=false) (hlen:decide (ds.length<=fn.ntmps)=true):aq P f ds d:=Hi hm hf hname (of_decide_eq_true hlen) (nL P) h
theorem aG(hm:P.follows .mixedOrders=true){f:FuncId}{fn:Func}{tab:List (Nat×List (Nat×Nat))}{base:Nat}{ds:List D}{bx:ae}{Q Qp:D->ae->Prop}(h:iI P (bK P) tab fn base ds bx Q Qp)(hf:P.funcs[f]? =some fn)
 (hname:(fn.name== "runtime.NumGoroutine")=false) (hlen:decide (ds.length<=fn.ntmps)=true):aU P f base ds bx Q Qp:=Fc hm hf hname (of_decide_eq_true hlen) (nL P) h
theorem Fe(hm:P.follows .mixedOrders=true){f:FuncId}{fn:Func}{tab:List (Nat×List (Nat×Nat))}{caps:List D}{items:List (List D)}(h:IV P (bK P) tab fn caps items)(hf:P.funcs[f]? =some fn)
 (hname:(fn.name== "runtime.NumGoroutine")=false) (hlen:decide (caps.length+1<=fn.ntmps)=true):rH P f caps items (fn.ntmps+1):=Fg hm hf hname (of_decide_eq_true hlen) (nL P) h
theorem vl(hm:P.follows .mixedOrders=true){f:FuncId}{fn:Func}{tab:List (Nat×List (Nat×Nat))}{b:Bx}{items:List (List D)}{pd:Option D}(h:Hh P (bK P) tab fn b items pd)(hf:P.funcs[f]? =some fn)
 (hname:(fn.name== "runtime.NumGoroutine")=false) (hlen:decide (2<=fn.ntmps)=true):sU P f b items pd (fn.ntmps+2):=Dn hm hf hname (of_decide_eq_true hlen) (nL P) h
end Go.V
