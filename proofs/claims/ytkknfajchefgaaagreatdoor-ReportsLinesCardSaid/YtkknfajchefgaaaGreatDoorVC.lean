/- Lemmas on plain data and programs: part VC. -/
import Derived.Test.YtkknfajchefgaaaGreatDoorVM
import Derived.Sort.LoopGhostIn
import Derived.Conc.MuLone
import Derived.RangeFuncRecord
import Derived.RangeFuncIn
import Derived.Scope
import Derived.RangeFuncLeaves
set_option linter.all false
set_option maxHeartbeats 8000000
namespace Go.V
open Go.RowKit
mutual
def lX(s e s' e':Nat):D->D
 | .loc t k i j=>if t=s/\k=e then .loc s' e' i j else .loc t k i j
 | .ba t k sz o n=>if t=s/\k=e then .ba s' e' sz o n else .ba t k sz o n
 | .ic t k i j n=>if t=s/\k=e then .ic s' e' i j n else .ic t k i j n
 | .agg ds=> .agg (vC s e s' e' ds)
 | .aL ds=> .aL (vC s e s' e' ds)
 | .fn f ds=> .fn f (vC s e s' e' ds)
 | .fW f ds=> .fW f (vC s e s' e' ds)
 | .bK t d=> .bK t (lX s e s' e' d)
 |d=>d
def vC(s e s' e':Nat):List D->List D
 |[]=>[]
 |d::ds=>lX s e s' e' d::vC s e s' e' ds
end
section
variable (s e s' e':Nat)
theorem Ba:∀ds:List D,vC s e s' e' ds=ds.map (lX s e s' e')
 |[]=>by simp[vC]
 |d::ds=>by simp[vC,Ba ds]
theorem K4(d:D):(lX s e s' e' d).cells=d.cells.map (lX s e s' e'):=by cases d<;>grind [lX,D.cells,Ba]
end
variable {P:Program} {X:Ctx} {ρ ρ':bX} {σ:Env} {bx:ab} {a:Act} {w:World} {s e s' e':Nat} {S:Nat->Prop} {d:D} {v:Value}
theorem bc.BN(h:bc w S d v):lX s e s' e' d=d:=by
 have hL:∀(ds:List D) (vs:Array Value),vs.size=ds.length->(∀(i:Nat) d v,ds[i]? =some d->vs[i]? =some v->lX s e s' e' d=d)->vC s e s' e' ds=ds:=by
  intro ds vs hl h;rw[Ba];refine agO fun i=>?_;rw[aaZ];cases hd:ds[i]? with
  |none=>rfl
  |some d=>
   have hi:i<vs.size:=awN
   rw[aec,h i d _ hd (abd hi)]
 induction h<;>grind [lX]
theorem aG.BN(h:aG w S ρ d v)(h1:∀t k p,ρ t k=some p->ρ' t k=some p)(h2:∀p,ρ s e=some p->ρ' s' e'=some p):aG w S ρ' (lX s e s' e' d) v:=by
 have hL:∀(ds:List D) (vs:Array _),vs.size=ds.length->(∀(i:Nat) d v,ds[i]? =some d->vs[i]? =some v->aG w S ρ' (lX s e s' e' d) v)->vs.size=(vC s e s' e' ds).length/\∀(i:Nat) d v,(vC s e s' e' ds)[i]? =some d->vs[i]? =some v->aG w S ρ' d v:=by
  intro ds vs hl h;rw[Ba]
  exact awN
 induction h with
 |pure h=>rw[h.BN];exact .pure h
 |@loc t k i j q p hp hq=>
  simp[lX];split
  ·rename_i hc;obtain⟨rfl,rfl⟩:=hc;exact .loc (h2 _ hp) hq
  ·exact .loc (h1 _ _ _ hp) hq
 |@ba t k sz o n off cap p hp bz h0 ek hn cU=>
  simp[lX];split
  ·rename_i hc;obtain⟨rfl,rfl⟩:=hc;exact .ba (h2 _ hp) bz h0 ek hn cU
  ·exact .ba (h1 _ _ _ hp) bz h0 ek hn cU
 |@ic t k i j n off cap p hp ek hn cU=>
  simp[lX];split
  ·rename_i hc;obtain⟨rfl,rfl⟩:=hc;exact .ic (h2 _ hp) ek hn cU
  ·exact .ic (h1 _ _ _ hp) ek hn cU
 |omap hp=>exact .omap (h1 _ _ _ hp)
 |agg hl _ ih=>exact .agg (hL _ _ hl ih).1 (hL _ _ hl ih).2
 |aL hl _ ih=>exact .aL (hL _ _ hl ih).1 (hL _ _ hl ih).2
 |fn hl _ ih=>exact .fn (hL _ _ hl ih).1 (hL _ _ hl ih).2
 |fW hl _ ih=>exact .fW (hL _ _ hl ih).1 (hL _ _ hl ih).2
 |bK _ ih=>exact .bK ih
def jR(s s':Nat)(rQ:Nat->Bool)(bx:ab):ab:=fun t=>
 if t=s' then⟨(bx s').ep+1,1,(bx s).sz,(bx s).ty,(bx s).es⟩else if t=s then {bx s with k:=0}
 else if rQ t then {bx t with es:=(bx t).es.map (lX s (bx s).ep s' ((bx s').ep+1))}else bx t
theorem Holds.BN{p:Place}{es:List D}(h:Holds w S ρ p es)(h1:∀t k p,ρ t k=some p->ρ' t k=some p)(h2:∀p,ρ s e=some p->ρ' s' e'=some p):Holds w S ρ' p (es.map (lX s e s' e')):=by
 obtain⟨⟨cur,hc,hs,us,hu⟩,hl,hm,hz⟩:=h;refine⟨⟨cur,hc,hs,us,fun i d j c hi hj=>?_⟩,awN,hm,fun i d hi=>?_⟩
 ·rw[aaZ,aav]at hi;obtain⟨d0,hi,rfl⟩:=hi;rw[K4,aaZ,aav]at hj;obtain⟨c0,hj,rfl⟩:=hj;obtain⟨g1,g2,g3⟩:=hu i d0 j c0 hi hj;exact⟨g1,g2.BN h1 h2,g3⟩
 ·grind [K4]
theorem gy.BN{ds:List D}{es:List MapEntry}(h:gy ds es):ds.map (lX s e s' e')=ds:=by
 induction h with
 |nil=>rfl
 |cons hk hv _ ih=>
  rw[abk,ih];simp[lX,vC,bc.BN (hk.rep (w:=default) (S:=fun _=>True)),bc.BN (hv.rep (w:=default) (S:=fun _=>True))]
theorem pW.BN{ρ:bX}{o:Obj}{es:List D}(h:pW ρ o es):es.map (lX s e s' e')=es:=by
 cases h with
 |@map dw clock es h=>
  rw[abk,h.BN];simp[lX]
 |@iter m k p since last seen hp=>
  simp_all[lX]
theorem aw.Rx(h:aw X ρ σ bx a w)(bC:X.lo=0)(bh:s≠s')(hk:(bx s).k=1)(dZ:(bx s').k=0)(rQ:Nat->Bool):
 ∃ρ',aw X ρ' σ (jR s s' rQ bx) a w/\(∀d v,aG w (ay X ρ bx w) ρ d v->aG w (ay X ρ' (jR s s' rQ bx) w) ρ' d v)/\(∀p,ρ s (bx s).ep=some p->ρ' s' ((bx s').ep+1)=some p)/\ρ'.hold=ρ.hold:=by
 have hρ:∀t k p,ρ t k=some p->(if t=s'/\k=(bx s').ep+1 then ρ s (bx s).ep else ρ t k)=some p:=by
  intro t k p hp;rw[aaw]
  ·exact hp
  ·rintro⟨rfl,rfl⟩;have:=h.oD _ _ _ hp;exact awO
 have hR:∀p,ρ s (bx s).ep=some p->(if s'=s'/\(bx s').ep+1=(bx s').ep+1 then ρ s (bx s).ep else ρ s' ((bx s').ep+1))=some p:=fun p hp=>awN
 have live:∀t,t≠s'->lv (jR s s' rQ bx t).k->t≠s/\(jR s s' rQ bx t).k=(bx t).k/\(jR s s' rQ bx t).ep=(bx t).ep/\(jR s s' rQ bx t).sz=(bx t).sz/\(jR s s' rQ bx t).ty=(bx t).ty:=by
  intro t ht hk;unfold jR at hk⊢;simp only[ht,aa_]at hk⊢;by_cases hs:t=s
  ·grind [lv0]
  exact awN
 have at':jR s s' rQ bx s'=⟨(bx s').ep+1,1,(bx s).sz,(bx s).ty,(bx s).es⟩:=by simp[jR]
 refine⟨⟨fun t k=>if t=s'/\k=(bx s').ep+1 then ρ s (bx s).ep else ρ t k,ρ.hold⟩,?_⟩;have hS:∀b,ay X ρ bx w b->ay X ⟨fun t k=>if t=s'/\k=(bx s').ep+1 then ρ s (bx s).ep else ρ t k,ρ.hold⟩ (jR s s' rQ bx) w b:=by
  intro b hb;refine⟨hb.1,hb.2.1,fun t ht p hp=>?_⟩;by_cases pR:t=s'
  ·subst pR;rw[at']at hp;simp only[ajD,abo]at hp;exact hb.2.2 s hk p hp
  ·obtain⟨_,g1,g2,_⟩:=live t pR av1;rw[g1]at ht;rw[g2]at hp;simp only[pR,aga,aa_]at hp;exact hb.2.2 t ht p hp
 have hD:∀d v,aG w (ay X ρ bx w) ρ d v->aG w (ay X ⟨fun t k=>if t=s'/\k=(bx s').ep+1 then ρ s (bx s).ep else ρ t k,ρ.hold⟩ (jR s s' rQ bx) w) ⟨fun t k=>if t=s'/\k=(bx s').ep+1 then ρ s (bx s).ep else ρ t k,ρ.hold⟩ d v:=
  fun d v hr=>hr.mono (fun _ _=>rfl) hS hρ
 refine⟨⟨h.fr,h.s0,h.nb,h.mb,h.ec,h.size,h.marks.mono (fun _ _=>rfl) hS hρ (fun _ h=>h),h.qA,h.sP,fun t=>hD _ _ (h.tmps t),hD _ _ h.fN,fun t ht=>?_,fun t t' p p' ht rC htt hp bu=>?_,fun t k p hp=>?_,fun t k p hp=>hρ t k p (h.r0 t k p hp),h.hold,h.gB,h.yc,h.y0 bC _ _,h.y0,h.lU,h.maps.of (fun t ht=>?_) hρ (fun _ _ _ _ _ h=>h) (fun _ h=>h)⟩,hD,fun p hp=>awN,rfl⟩
 ·by_cases pR:t=s'
  ·subst pR;obtain⟨p,hp,h2,h3,h4,h5⟩:=h.box s awN;rw[at'];exact⟨p,awN,h2,h3,⟨h4.1,fun _=>h4.2 hk⟩,h5.mono rfl (fun _ _=>rfl) hS hρ⟩
  ·obtain⟨g0,g1,g2,g3,g4⟩:=live t pR ht;obtain⟨p,hp,h2,h3,h4,h5⟩:=h.box t awN;refine⟨p,?_,h2.trans g3.symm,h3.trans g4.symm,⟨h4.1,fun nx=>h4.2 (g1▸nx)⟩,?_⟩
   ·exact awN
   ·have h6:=h5.mono (w':=w) rfl (fun _ _=>rfl) hS (ρ':=ρ) (fun _ _ _ h=>h);unfold jR;simp only[pR,g0,aa_];split
    ·exact h6.BN hρ hR
    ·exact h6.mono rfl (fun _ _=>rfl) (fun _ h=>h) hρ
 ·by_cases pR:t=s'
  ·subst pR;obtain⟨g0,g1,g2,_⟩:=live t' (Ne.symm htt) rC;rw[at']at hp;rw[g2]at bu;simp only[ajD,abo]at hp;simp only[Ne.symm htt,aga,aa_]at bu;exact h.inj s t' p p' hk awN (Ne.symm g0) hp bu
  ·obtain⟨g0,g1,g2,_⟩:=live t pR av1;rw[g2]at hp;simp only[pR,aga,aa_]at hp;by_cases Za:t'=s'
   ·subst Za;rw[at']at bu;simp only[ajD,abo]at bu;exact h.inj t s p p' awN awN g0 hp bu
   ·obtain⟨k0,k1,k2,_⟩:=live t' Za rC;rw[k2]at bu;simp only[Za,aga,aa_]at bu;exact h.inj t t' p p' awN awN htt hp bu
 ·by_cases pR:t=s'
  ·subst pR;rw[at'];simp only[true_and]at hp;split at hp
   ·exact awN
   ·have:=h.oD _ _ _ hp;exact awN
  ·simp only[pR,aga,aa_]at hp;have:=h.oD _ _ _ hp;unfold jR
   exact awN
 ·unfold jR at ht⊢;by_cases pR:t=s'
  ·exact awN
  ·simp only[pR,aa_]at ht⊢;by_cases hs:t=s
   ·exact awN
   ·simp only[hs,aa_]at ht⊢;by_cases anu:rQ t=true
    ·simp only[anu,abo]at ht⊢;obtain⟨p,o,_,_,_,g4⟩:=h.maps.has t ht;refine⟨ht,?_,?_⟩<;>first|trivial|rfl|exact g4.BN
    exact awN
theorem aw.rename(h:aw X ρ σ bx a w)(bC:X.lo=0)(bh:s≠s')(hk:(bx s).k=1)(dZ:(bx s').k=0)(rQ:Nat->Bool):
 ∃ρ',aw X ρ' σ (jR s s' rQ bx) a w/\(∀d v,aG w (ay X ρ bx w) ρ d v->aG w (ay X ρ' (jR s s' rQ bx) w) ρ' d v):=
 let ⟨ρ',h1,h2,_⟩:=h.Rx bC bh hk dZ _
 ⟨ρ',h1,h2⟩
end Go.V
namespace Go.V
open Go.RowKit
variable {P:Program} {C:Calc} {X:Ctx} {ρ:bX} {σ:Env} {bx:ab} {a:Act} {w:World} {r:Option Nat} {n:Nat}
def oc(P:Program)(C:Calc)(full:List Oper)(o:Oper)(σ:Env)(bx:ab)(K:Cl->Env->ab->Prop):Prop:=
 match o.guard with
 |none=>a_ P C o σ bx K
 |some (j,want)=>aJ (kx full[j]? σ) fun g=>gK g want (a_ P C o σ bx K) (K .n (put σ o.dst (.raw undef)) bx)
theorem tH{c:Cl}{x y:Prop}(h:∀d,c≠ .cd d):iN c x y=y:=by cases c<;>first|rfl|grind
structure RY(P:Program)(C:Calc)(full:List Oper)(o:Oper)(σ:Env)(bx:ab)(c:Cl)(v:D)(bx':ab):Prop where
 np:∀x,c≠ .cd x
 same:∀s,c.wr s=false->bx' s=bx s
 le0:eV o.op=0->c= .n
 Wb:eV o.op≠2->∀s,c.wr s=false
 run:∀σ₂ bx₂,(∀t∈o.looksAt full.toArray,σ₂ t=σ t)->(∀s,c.rd s=true->bx₂ s=bx s)->∀K:Cl->Env->ab->Prop,K c (put σ₂ o.dst v) (gX c bx' bx₂)->oc P C full o σ₂ bx₂ K
def pa{full:List Oper}{o:Oper}{σ₂:Env}(h:∀t∈o.looksAt full.toArray,σ₂ t=σ t):Alike σ σ₂ o.op:=fun x hx=>Yw fun t ht=>h t (by
 subst ht;exact agc _ (List.mem_filterMap.2 ⟨.tmp t,hx,rfl⟩))
def Vg(hT:∀f b ds bx Q Qp,¬C.o.pT f b ds bx Q Qp)(oN:C.yl=none)(xV:C.pn=false)(pN:C.df=false){full:List Oper}{o:Oper}{K:Cl->Env->ab->Prop}(hs:oc P C full o σ bx K):∃c v bx',K c (put σ o.dst v) bx'/\RY P C full o σ bx c v bx':=by
 unfold oc at hs;split at hs
 ·rename_i hg;obtain⟨c,v,bx',hK,he⟩:=Dr hT oN xV pN hs;refine⟨c,v,bx',hK,⟨he.np,he.same,he.le0,he.Wb,fun σ₂ bx₂ h1 h2 K hK=>?_⟩⟩;unfold oc;rw[hg];exact he.run _ _ (pa h1) h2 K hK
 ·rename_i j want hg;cases hz:kx _ σ with
  |none=>rw[hz]at hs;exact hs.elim
  |some g=>
   rw[hz]at hs;have hgu:∀σ₂,(∀t∈o.looksAt full.toArray,σ₂ t=σ t)->kx full[j]? σ₂=some g:=by
    intro σ₂ h1;rw[<-hz];unfold kx;cases hj:full[j]? with
    |none=>rfl
    |some o'=>
     dsimp only;cases hd:o'.dst with
     |none=>rfl
     |some d=>
      dsimp only;rw[h1 d];refine akc _ ?_
      exact awN
   simp[aJ,gK]at hs;by_cases hw:g=some want
   ·rw[aaO hw]at hs;obtain⟨c,v,bx',hK,he⟩:=Dr hT oN xV pN hs;refine⟨c,v,bx',hK,⟨he.np,he.same,he.le0,he.Wb,fun σ₂ bx₂ h1 h2 K hK=>?_⟩⟩;unfold oc;rw[hg];simp[hgu _ h1,aJ,gK,hw,abo];exact he.run _ _ (pa h1) h2 K hK
   ·rw[aaw hw]at hs;refine⟨_,_,_,hs,⟨awN,fun _ _=>rfl,fun _=>rfl,fun _ _=>rfl,fun σ₂ bx₂ h1 h2 K hK=>?_⟩⟩;unfold oc;rw[hg];simp[hgu _ h1,aJ,gK,hw,aa_];rwa[lG (fun _=>rfl)]at hK
def nM{ops:Array Oper}(h:aw X ρ σ bx a w)(hG:Good P C X)(pQ:∀l,r=some l->X.md=1){o:Oper}(bV:∀t,o.dst=some t->t<X.N){K:Cl->Env->ab->Prop}(hs:oc P C ops.toList o σ bx K)
 {next:Act->World->Prop} {Q:Exit->Act->World->Prop} (hK:∀c σ' bx' a' w' ρ',(∀x,c≠ .cd x)->K c σ' bx'->aw X ρ' σ' bx' a' w'->next a' w')
 (hP:∀d σ' bx' a' w' ρ' v,K (.cd d) σ' bx'->aw X ρ' σ' bx' a' w'->aG w' (ay X ρ' bx' w') ρ' d v->Q (.panic [pe v]) a' w'):
 if Region.wanted o (yielded ops a.tmps)=true then o.wpIn (Fw r) n P a w next Q else(∀f,o.about P w a.eval=some f->(Fw r).fn f)/\next (a.put o.dst undef) w:=by
 unfold oc at hs;split at hs
 ·rename_i hg;rw[aaO (by simp[Region.wanted,hg])]
  grind [HO]
 ·rename_i j want hg;cases hz:kx ops.toList[j]? σ with
  |none=>rw[hz]at hs;exact hs.elim
  |some g=>
   rw[hz]at hs;have hy:yielded ops a.tmps j=g:=by
    unfold kx at hz;split at hz
    ·rename_i o' rA;split at hz
     ·rename_i d hd;have ht:=h.tmps d;have GQ:ops[j]? =some o':=awN
      unfold ze at hz;split at hz
      ·rename_i b hb;rw[hb]at ht;have:=ht.kA;injection hz with hz;subst hz;have au:d<a.tmps.size:=by
        rcases aqv d a.tmps.size with h1|h1
        ·exact h1
        ·rw[aeE,Array.getElem?_eq_none h1]at this;cases this
       simp_all[yielded]
      ·rename_i vs hb;rw[hb]at ht;have:=ht.IJ;split at hz
       ·injection hz with hz;subst hz;rw[aeE]at this
        grind [yielded]
       ·cases hz
      ·cases hz
     ·cases hz
    ·cases hz
   simp only[aJ,gK]at hs;by_cases hw:g=some want
   ·rw[aaO hw]at hs;rw[aaO (by grind [Region.wanted])]
    grind [HO]
   ·rw[aaw hw]at hs;rw[aaw (by grind [Region.wanted])];exact⟨fun _ _=>trivial,hK _ _ _ _ _ _ awN hs (h.put bV (.pure (.raw _)))⟩
theorem KH{ops:Array Oper}(hG:Good P C X)(pQ:∀l,r=some l->X.md=1)(bV:∀o∈ops.toList,∀t,o.dst=some t->t<X.N){Q:Exit->Act->World->Prop}{K:List Cl->Env->ab->Prop}
 (hQ:∀acc σ' bx' a' w' ρ',(∀d l,acc≠ .cd d::l)->K acc σ' bx'->aw X ρ' σ' bx' a' w'->Q .normal a' w')
 (hP:∀d acc σ' bx' a' w' ρ' v,K (.cd d::acc) σ' bx'->aw X ρ' σ' bx' a' w'->aG w' (ay X ρ' bx' w') ρ' d v->Q (.panic [pe v]) a' w'):∀(rest done:List Oper) (acc:List Cl) (ρ:bX) (σ:Env) (bx:ab) (a:Act) (w:World),ops.toList=done++rest->(∀d l,acc≠ .cd d::l)->aw X ρ σ bx a w->xu P C ops.toList rest acc σ bx K->
  wpOpsIn (Fw r) n P ops Q (List.range' done.length rest.length) a w
 |[],done,acc,ρ,σ,bx,a,w,hl,vz,h,hs=>hQ _ _ _ _ _ _ vz hs h
 |o::rest,done,acc,ρ,σ,bx,a,w,hl,vz,h,hs=>by
  have ho:ops[done.length]? =some o:=by rw[<-aba,hl];simp
  simp[aa5,ajE,wpOpsIn,ho];exact nM h hG pQ (bV o awN) hs (fun c σ' bx' a' w' ρ' hc hK h'=>by
   rw[tH hc]at hK;have:=KH hG pQ bV hQ hP _ (done++[o]) _ _ _ _ a' w' awN (fun d l e=>hc d awc) h' hK
   grind) (fun d σ' bx' a' w' ρ' v hK h' hr=>hP _ _ _ _ _ _ _ _ hK h' hr)
def acI{acc:List Cl}{x y:Prop}(h:∀d l,acc≠ .cd d::l):xv acc x y=y:=by simp_all[xv]
theorem EF{ops:Array Oper}(hG:Good P C X)(pQ:∀l,r=some l->X.md=1)(bV:∀o∈ops.toList,∀t,o.dst=some t->t<X.N){Q:Exit->Act->World->Prop}{K:List Cl->Env->ab->Prop}
 (hQ:∀acc σ' bx' a' w' ρ',(∀d l,acc≠ .cd d::l)->K acc σ' bx'->aw X ρ' σ' bx' a' w'->Q .normal a' w')
 (hP:∀d acc σ' bx' a' w' ρ' v,K (.cd d::acc) σ' bx'->aw X ρ' σ' bx' a' w'->aG w' (ay X ρ' bx' w') ρ' d v->Q (.panic [pe v]) a' w') {ps:List (Nat×Nat)}:∀(rest done:List Oper) (i:Nat) (acc:List Cl) (ρ:bX) (σ:Env) (bx:ab) (a:Act) (w:World),ops.toList=done++rest->(∀d l,acc≠ .cd d::l)->aw X ρ σ bx a w->ya P C ops.toList ps i rest acc σ bx K->
  wpOpsIn (Fw r) n P ops Q (List.range' done.length rest.length) a w
 |[],done,i,acc,ρ,σ,bx,a,w,hl,vz,h,hs=>hQ _ _ _ _ _ _ vz hs h
 |o::rest,done,i,acc,ρ,σ,bx,a,w,hl,vz,h,hs=>by
  simp[ya]at hs;cases hz:pt _ _ σ bx with
  |none=>rw[hz]at hs;exact hs.elim
  |some s=>
   rw[hz]at hs;have h:=yt hG.lo _ h hz;have ho:ops[done.length]? =some o:=by rw[<-aba,hl];simp
   simp[aa5,ajE,wpOpsIn,ho];exact nM h hG pQ (bV o awN) hs (fun c σ' bx' a' w' ρ' hc hK h'=>by
    have hn:∀d l,c::acc≠ .cd d::l:=fun d l e=>hc d awc;rw[tH hc]at hK;simp[xu,acI hn]at hK;have:=EF hG pQ bV hQ hP _ (done++[o]) _ _ _ _ _ a' w' awN hn h' hK
    grind) (fun d σ' bx' a' w' ρ' v hK h' hr=>hP _ _ _ _ _ _ _ _ hK h' hr)
def Tn{ops:Array Oper}(hG:Good P C X)(pQ:∀l,r=some l->X.md=1)(bV:∀o∈ops.toList,∀t,o.dst=some t->t<X.N){Q:Exit->Act->World->Prop}{K:List Cl->Env->ab->Prop}
 (hQ:∀acc σ' bx' a' w' ρ',(∀d l,acc≠ .cd d::l)->K acc σ' bx'->aw X ρ' σ' bx' a' w'->Q .normal a' w')
 (hP:∀d acc σ' bx' a' w' ρ' v,K (.cd d::acc) σ' bx'->aw X ρ' σ' bx' a' w'->aG w' (ay X ρ' bx' w') ρ' d v->Q (.panic [pe v]) a' w') (ps:List (Nat×Nat)) (rest done:List Oper) (acc:List Cl) (ρ:bX) (σ:Env) (bx:ab) (a:Act) (w:World) (hl:ops.toList=done++rest) (vz:∀d l,acc≠ .cd d::l) (h:aw X ρ σ bx a w) (hs:C8 P C ops.toList ps rest acc σ bx K):
  wpOpsIn (Fw r) n P ops Q (List.range' done.length rest.length) a w:=by
 cases ps with
 |nil=>exact KH hG pQ bV hQ hP _ _ _ ρ σ bx a w hl vz h hs
 |cons p ps=>exact EF hG pQ bV hQ hP _ _ 0 _ ρ σ bx a w hl vz h hs
theorem AV(hT:∀f b ds bx Q Qp,¬C.o.pT f b ds bx Q Qp)(oN:C.yl=none)(xV:C.pn=false)(pN:C.df=false){full:List Oper}{K:List Cl->Env->ab->Prop}:∀(rest:List Oper) (acc:List Cl) (σ:Env) (bx:ab),xu P C full rest acc σ bx K->
 ∃(cs:Nat->Cl) (vs:Nat->D) (σs:Nat->Env) (bs:Nat->ab),σs 0=σ/\bs 0=bx/\(∀(k:Nat) o,rest[k]? =some o->σs (k+1)=put (σs k) o.dst (vs k)/\RY P C full o (σs k) (bs k) (cs k) (vs k) (bs (k+1)))/\
  K (((List.range rest.length).map cs).reverse++acc) (σs rest.length) (bs rest.length)
 |[],acc,σ,bx,h=>⟨fun _=> .n,fun _=> .undef,fun _=>σ,fun _=>bx,rfl,rfl,fun k o ho=>by simp at ho,h⟩
 |o::rest,acc,σ,bx,h=>by
  obtain⟨c,v,bx',hK,he⟩:=Vg hT oN xV pN h;rw[tH he.np]at hK;obtain⟨cs,vs,σs,bs,h1,h2,h3,h4⟩:=AV hT oN xV pN _ _ _ _ hK;refine⟨fun k=>match k with|0=>c|k+1=>cs k,fun k=>match k with|0=>v|k+1=>vs k,fun k=>match k with|0=>σ|k+1=>σs k,fun k=>match k with|0=>bx|k+1=>bs k,rfl,rfl,fun k o' ho=>?_,?_⟩
  ·exact awN
  ·simp[aa5,List.range_succ_eq_map,abk,agw,List.reverse_cons,aaU,List.singleton_append];exact h4
def xI{α:Type}(W:Nat->Prop)(L:Nat->Prop)(val:Nat->α)(init x:α):Prop:=
 (∃j,L j/\W j/\(∀j',L j'->W j'->j'<=j)/\x=val j)\/((∀j,L j->¬W j)/\x=init)
theorem xI.seq{α:Type}{W:Nat->Prop}[DecidablePred W]{val:Nat->α}{xs:Nat->α}(m:Nat)(h:∀k,k<m->xs (k+1)=if W k then val k else xs k):xI W (· <m) val (xs 0) (xs m):=by
 induction m with
 |zero=>exact .inr ⟨fun j hj=>absurd hj (ald j),rfl⟩
 |succ m ih=>
  have ih:=ih fun k hk=>h k oM;have hm:=h m oM;by_cases hw:W m
  ·rw[aaO hw]at hm;exact .inl ⟨m,Nat.lt_succ_self m,hw,fun j' hj _=>Nat.le_of_lt_succ hj,hm⟩
  ·rw[aaw hw]at hm;rw[hm];rcases ih with⟨j,h1,h2,h3,h4⟩|⟨h1,h2⟩
   ·refine .inl ⟨j,Nat.lt_succ_of_lt h1,h2,fun j' hj eL=>?_,h4⟩
    exact awN
   ·refine .inr ⟨fun j hj eL=>?_,h2⟩
    exact awN
theorem xI.uniq{α:Type}{W L L':Nat->Prop}{val:Nat->α}{init x y:α}(h:xI W L val init x)(h':xI W L' val init y)(hL:∀j,W j->(L j<->L' j)):x=y:=by
 rcases h with⟨j,h1,h2,h3,rfl⟩|⟨h1,rfl⟩
 ·exact arH
 ·exact arH
theorem xI.step{α:Type}{W L:Nat->Prop}[DecidablePred W]{val:Nat->α}{init x:α}{i:Nat}{L':Nat->Prop}(h:xI W L val init x)(w_:∀j,L' j<->L j\/j=i)(ho:W i->∀j,L j->W j->j<=i):
 xI W L' val init (if W i then val i else x):=by
 by_cases hw:W i
 ·rw[aaO hw];refine .inl ⟨i,(w_ i).2 (.inr rfl),hw,fun j hj Ex=>?_,rfl⟩
  exact awN
 ·rw[aaw hw];rcases h with⟨j,h1,h2,h3,rfl⟩|⟨h1,rfl⟩
  ·refine .inl ⟨j,(w_ j).2 (.inl h1),h2,fun j' hj Ex=>?_,rfl⟩
   exact awN
  ·refine .inr ⟨fun j hj Ex=>?_,rfl⟩
   exact awN
def Mc{c c':Cl}(h:apart c c')(s:Nat):(c.wr s=true->c'.rd s=true->False)/\(c'.wr s=true->c.rd s=true->False):=by cases c<;>cases c'<;>simp_all[apart,Cl.wr,Cl.rd]<;>grind
theorem Ms:∀ {ps:List (Nat×Nat)} {acc:List Cl},j_ ps acc->∀i j,(i,j)∈ps->FX acc[i]? acc[j]?
 |[],_,_,i,j,hm=>by cases hm
 |(i',j')::ps,acc,h,i,j,hm=>by
  rcases aaQ.1 hm with e|hm
  ·cases e;exact h.1
  ·exact Ms h.2 i j hm
end Go.V
namespace Go.V
open Go.RowKit
variable {P:Program} {C:Calc} {X:Ctx} {ρ:bX} {σ:Env} {bx:ab} {a:Act} {w:World} {r:Option Nat} {n:Nat}
def Ef(ops:List Oper)(acc:Array Nat):(ops.foldl (fun acc o=>acc.push (o.after.foldl (fun s e=>if Region.binds .any e then s|||2 ^ e.on|||acc.getD e.on 0 else s) 0)) acc).size=acc.size+ops.length:=by induction ops generalizing acc<;>grind
def mg(acc:Array Nat)(o:Oper):Nat:=o.after.foldl (fun s e=>if Region.binds .any e then s|||2 ^ e.on|||acc.getD e.on 0 else s) 0
def FZ(ops:List Oper)(acc:Array Nat)(k:Nat)(hk:k<acc.size):(ops.foldl (fun acc o=>acc.push (mg acc o)) acc)[k]? =acc[k]?:=by induction ops generalizing acc<;>grind
def Ph(ops:List Oper)(o:Oper):(ops++[o]).foldl (fun acc o=>acc.push (mg acc o)) #[]=(ops.foldl (fun acc o=>acc.push (mg acc o)) #[]).push (mg (ops.foldl (fun acc o=>acc.push (mg acc o)) #[]) o):=awN
def Uk{acc:Array Nat}{L:Nat->Prop}{o:Oper}(hL:∀e∈o.after,Region.binds .any e=true->L e.on/\∀j,(acc.getD e.on 0).testBit j=true->L j){j:Nat}(h:(mg acc o).testBit j=true):L j:=by
 unfold mg at h;rw[<-Array.foldl_toList]at h;have key:∀(es:List _) (s:Nat),(∀e∈es,Region.binds .any e=true->L e.on/\∀j,(acc.getD e.on 0).testBit j=true->L j)->(s.testBit j=true->L j)->
  (es.foldl (fun s e=>if Region.binds .any e then s|||2 ^ e.on|||acc.getD e.on 0 else s) s).testBit j=true->L j:=by
  intro es;induction es with
  |nil=>grind
  |cons e es ih=>
   intro s he hs h;refine ih _ (fun e' Ep=>he e' (aa2 _ Ep)) ?_ h
   exact awN
 exact awN
def qH{ops:List Oper}{L:Nat->Prop}(hL:∀(i:Nat) o,ops[i]? =some o->L i->∀e∈o.after,Region.binds .any e=true->L e.on/\e.on<i):
 ∀(i:Nat) o,ops[i]? =some o->(∀e∈o.after,Region.binds .any e=true->L e.on/\e.on<i)->∀j,((Region.before ops.toArray).getD i 0).testBit j=true->L j:=by
 have hb:Region.before ops.toArray=ops.foldl (fun acc o=>acc.push (mg acc o)) #[]:=by
  unfold Region.before;rw[List.foldl_toArray];rfl
 rw[hb];intro i;induction i using Nat.strongRecOn with
 |_ i ih=>
  intro o ho he j hj;have hi:=(aaL.1 ho).1;have afp:ops=ops.take i++[o]++ops.drop (i+1):=by grind [List.take_append_drop,List.drop_eq_getElem_cons]
  have vz:∀k,k<i->((ops.take i).foldl (fun acc o=>acc.push (mg acc o)) #[]).getD k 0=(ops.foldl (fun acc o=>acc.push (mg acc o)) #[]).getD k 0:=by
   intro k hk;rw[aeE,aeE]
   congr 1
   conv=>rhs;rw[<-aeZ i ops,List.foldl_append]
   refine(FZ _ _ _ ?_).symm;have:=Ef (ops.take i) #[];unfold mg
   exact awN
  have kY:(ops.foldl (fun acc o=>acc.push (mg acc o)) #[]).getD i 0=mg ((ops.take i).foldl (fun acc o=>acc.push (mg acc o)) #[]) o:=by
   have bz:((ops.take i).foldl (fun acc o=>acc.push (mg acc o)) #[]).size=i:=by
    have:=Ef (ops.take i) #[];unfold mg
    exact awN
   rw[aeE]
   conv=>lhs;rw[afp,List.foldl_append]
   rw[FZ _ _ _ awN,Ph,Array.getElem?_push,aaO bz.symm];rfl
  rw[kY]at hj;refine Uk (fun e zo hb=>?_) hj;obtain⟨g1,g2⟩:=he e zo hb;refine⟨g1,fun j' vP=>?_⟩;rw[vz _ g2]at vP;exact ih _ g2 ops[e.on] (aaS _) (hL _ _ (aaS _) g1) j' vP
end Go.V
namespace Go.V
open Go.RowKit
variable {P:Program} {C:Calc} {X:Ctx} {ρ:bX} {σ:Env} {bx:ab} {a:Act} {w:World} {r:Option Nat} {n:Nat}
def Pp{full:List Oper}{ps:List (Nat×Nat)}(h:Cb full ps=true):
 (∀(j:Nat) o,full[j]? =some o->∀e∈o.after,Region.binds .any e=true->e.on<j)/\
 ∀(i j:Nat) o o',full[j]? =some o->full[i]? =some o'->i≠j->ordered (Region.before full.toArray) i j=false->
  (∀d,o'.dst=some d->d∉tmpsOf full o)/\(∀d,o.dst=some d->d∉tmpsOf full o')/\
  (eV o.op=2->eV o'.op≠0->(full.length - 1 - j,full.length - 1 - i)∈ps\/(full.length - 1 - i,full.length - 1 - j)∈ps):=by
 simp only[Cb,aaI,aas]at h;refine⟨fun j o ho e he hbe=>?_,fun i j o o' ho rA Et Y4=>?_⟩
 ·have:=(h (o,j) (ae7.2 ho)).1 e awN
  exact awN
 ·have:=(h (o,j) (ae7.2 ho)).2 (o',i) (ae7.2 rA)
  exact awN
theorem filter_le{α:Type}{p q:α->Bool}:∀ {l:List α},(∀x∈l,q x=true->p x=true)->(l.filter q).length<=(l.filter p).length
 |[],_=>aaN _
 |z::l,h1=>by
  have ih:=filter_le (fun x hx=>h1 x (aa2 _ hx))
  exact awN
theorem filter_lt{α:Type}{p q:α->Bool}:∀ {l:List α},(∀x∈l,q x=true->p x=true)->(∃x∈l,p x=true/\q x=false)->(l.filter q).length<(l.filter p).length
 |[],_,h=>awN
 |y::l,h1,h2=>by
  have hle:=filter_le fun x hx=>h1 x (aa2 _ hx);obtain⟨x,hx,hp,hq⟩:=h2;rcases aaQ.1 hx with rfl|hx
  ·exact awN
  ·have ih:=filter_lt (fun x hx=>h1 x (aa2 _ hx)) ⟨x,hx,hp,hq⟩
   exact awN
structure sa(P:Program)(C:Calc)(full:List Oper)(cs:Nat->Cl)(vs:Nat->D)(σs:Nat->Env)(bs:Nat->ab):Prop where
 at_:∀(k:Nat) o,full[k]? =some o->σs (k+1)=put (σs k) o.dst (vs k)/\RY P C full o (σs k) (bs k) (cs k) (vs k) (bs (k+1))
 back:∀(j:Nat) o,full[j]? =some o->∀e∈o.after,Region.binds .any e=true->e.on<j
 free:∀(i j:Nat) o o',full[j]? =some o->full[i]? =some o'->i≠j->ordered (Region.before full.toArray) i j=false->
  (∀d,o'.dst=some d->d∉tmpsOf full o)/\(∀s,(cs i).wr s=true->(cs j).rd s=true->False)
def Wt(full:List Oper)(t:Nat)(j:Nat):Prop:=∃o,full[j]? =some o/\o.dst=some t
def Ws(full:List Oper)(cs:Nat->Cl)(s:Nat)(j:Nat):Prop:=j<full.length/\(cs j).wr s=true
structure Inv(full:List Oper)(cs:Nat->Cl)(vs:Nat->D)(σs:Nat->Env)(bs:Nat->ab)(L:Nat->Prop)(σ:Env)(bx:ab):Prop where
 closed:∀(i:Nat) o,full[i]? =some o->L i->∀e∈o.after,Region.binds .any e=true->L e.on
 lt:∀j,L j->j<full.length
 t:∀t,xI (Wt full t) L vs (σs 0 t) (σ t)
 s:∀s,xI (Ws full cs s) L (fun j=>bs (j+1) s) (bs 0 s) (bx s)
section
variable {full:List Oper} {cs:Nat->Cl} {vs:Nat->D} {σs:Nat->Env} {bs:Nat->ab} {L:Nat->Prop}
open Classical in
theorem sa.TO(hR:sa P C full cs vs σs bs)(t m:Nat)(hm:m<=full.length):xI (Wt full t) (· <m) vs (σs 0 t) (σs m t):=by
 refine xI.seq (xs:=fun k=>σs k t) m fun k hk=>?_;have dZ:k<full.length:=oM;have ho:=aaS dZ;rw[(hR.at_ k _ ho).1];by_cases hw:Wt full t k
 ·rw[aaO hw];obtain⟨o,rA,hd⟩:=hw;simp_all[put,ah]
 ·rw[aaw hw];cases hd:full[k].dst with
  |none=>rfl
  |some d=>
   have:t≠d:=fun e=>hw ⟨_,ho,by rw[hd,e]⟩;simp[put,ah,this]
open Classical in
theorem sa.TN(hR:sa P C full cs vs σs bs)(s m:Nat)(hm:m<=full.length):xI (Ws full cs s) (· <m) (fun j=>bs (j+1) s) (bs 0 s) (bs m s):=by
 refine xI.seq (xs:=fun k=>bs k s) m fun k hk=>?_;have dZ:k<full.length:=oM;have ho:=aaS dZ;by_cases hw:Ws full cs s k
 ·exact awJ
 ·rw[aaw hw];refine(hR.at_ k _ ho).2.same s ?_;cases h:(cs k).wr s with
  |false=>rfl
  |true=>exact absurd ⟨dZ,h⟩ hw
theorem sa.cut(hR:sa P C full cs vs σs bs)(hL:∀(i:Nat) o,full[i]? =some o->L i->∀e∈o.after,Region.binds .any e=true->L e.on){i:Nat}{o:Oper}(hi:full[i]? =some o)(hn:¬L i)
 (he:∀e∈o.after,Region.binds .any e=true->L e.on) {j:Nat} {o':Oper} (hj:full[j]? =some o') (Cz:j≠i->ordered (Region.before full.toArray) j i=true):L j<->j<i:=by
 have w_:∀(i:Nat) o,full[i]? =some o->L i->∀e∈o.after,Region.binds _ e=true->L _/\e.on<i:=fun i o h1 h2 e h3 h4=>⟨hL i o h1 h2 e h3 h4,hR.back i o h1 e h3 h4⟩
 by_cases lB:j=i
 ·exact awN
 ·have Cz:=Cz lB;unfold ordered at Cz;rcases akV lB with au|VI
  ·rw[Nat.max_eq_right oM,aks oM]at Cz;exact⟨fun _=>au,fun _=>qH w_ i o hi (fun e h1 h2=>⟨he e h1 h2,hR.back i o hi e h1 h2⟩) j Cz⟩
  ·rw[Nat.max_eq_left oM,Nat.min_eq_right oM]at Cz;exact⟨fun h=>absurd (qH w_ j o' hj (fun e h1 h2=>w_ j o' hj h e h1 h2) i Cz) hn,fun h=>awO⟩
theorem sa.abm(hR:sa P C full cs vs σs bs){i j:Nat}{o:Oper}(hi:full[i]? =some o){t:Nat}(hj:Wt full t j)(ht:t∈tmpsOf full o)(lB:j≠i):ordered (Region.before full.toArray) j i=true:=by
 obtain⟨o',rA,hd⟩:=hj;cases h:ordered _ j i with
 |true=>rfl
 |false=>exact absurd ht ((hR.free j i o o' hi rA lB h).1 t hd)
theorem sa.abl(hR:sa P C full cs vs σs bs){i j:Nat}{o:Oper}(hi:full[i]? =some o){s:Nat}(hj:Ws full cs s j)(ht:(cs i).rd s=true)(lB:j≠i):ordered (Region.before full.toArray) j i=true:=by
 cases h:ordered _ j i with
 |true=>rfl
 |false=>exact((hR.free j i o _ hi (aaS hj.1) lB h).2 s hj.2 ht).elim
theorem sa.aaG(hR:sa P C full cs vs σs bs)(hI:Inv full cs vs σs bs L σ bx){i:Nat}{o:Oper}(hi:full[i]? =some o)(hn:¬L i)(he:∀e∈o.after,Region.binds .any e=true->L e.on):
 (∀t∈o.looksAt full.toArray,σ t=σs i t)/\∀s,(cs i).rd s=true->bx s=bs i s:=by
 have au:=(aaL.1 hi).1;refine⟨fun t ht=>?_,fun s hs=>?_⟩
 ·refine(hI.t t).uniq (hR.TO t i oM) fun j hj=>?_;have vP:=hj;obtain⟨o',rA,_⟩:=vP;exact hR.cut hI.closed hi hn he rA fun lB=>hR.abm hi hj (akc _ ht) lB
 ·refine(hI.s s).uniq (hR.TN s i oM) fun j hj=>?_;exact hR.cut hI.closed hi hn he (aaS hj.1) fun lB=>hR.abl hi hj hs lB
open Classical in
theorem sa.goes(hR:sa P C full cs vs σs bs)(hI:Inv full cs vs σs bs L σ bx){i:Nat}{o:Oper}(hi:full[i]? =some o)(hn:¬L i)(he:∀e∈o.after,Region.binds .any e=true->L e.on){L':Nat->Prop}(w_:∀j,L' j<->L j\/j=i):
 Inv full cs vs σs bs L' (put σ o.dst (vs i)) (gX (cs i) (bs (i+1)) bx):=by
 have au:=(aaL.1 hi).1;refine⟨fun k o' hk hLk e zo hb=>?_,fun j hj=>?_,fun t=>?_,fun s=>?_⟩
 ·rcases(w_ k).1 hLk with h|rfl
  ·exact(w_ _).2 (.inl (hI.closed k o' hk h e zo hb))
  exact awN
 ·rcases(w_ j).1 hj with h|rfl
  ·exact hI.lt j h
  exact awN
 ·have:=(hI.t t).step w_ fun hw j hLj Ex=>by
   have anz:=Ex;obtain⟨o',rA,_⟩:=anz;obtain⟨o2,GQ,Np⟩:=hw;rw[hi]at GQ;cases GQ;exact ak_ ((hR.cut hI.closed hi hn he rA fun lB=>hR.abm hi Ex (agc _ (by simp[Np])) lB).1 hLj)
  have e:put σ o.dst (vs i) t=if Wt full t i then vs i else σ t:=by
   by_cases hw:Wt full t i
   ·rw[aaO hw];obtain⟨o2,GQ,Np⟩:=hw;simp_all[put,ah]
   ·rw[aaw hw];cases hd:o.dst with
    |none=>rfl
    |some d=>
     have:t≠d:=fun e=>hw ⟨_,hi,by rw[hd,e]⟩;simp[put,ah,this]
  exact awN
 ·have:=(hI.s s).step w_ fun hw j hLj Ex=>by
   have pQ:(cs i).rd s=true:=by
    have:=hw.2;revert this;cases cs i<;>simp[Cl.wr,Cl.rd]
   exact ak_ ((hR.cut hI.closed hi hn he (aaS Ex.1) fun lB=>hR.abl hi Ex pQ lB).1 hLj)
  simp_all[gX,Ws]
theorem sa.ends(hR:sa P C full cs vs σs bs)(hI:Inv full cs vs σs bs L σ bx)(eB:∀j,j<full.length->L j):σ=σs full.length/\bx=bs full.length:=by
 refine⟨funext fun t=>(hI.t t).uniq (hR.TO t _ (aaN _)) fun j hj=>?_,funext fun s=>(hI.s s).uniq (hR.TN s _ (aaN _)) fun j hj=>?_⟩
 ·obtain⟨o,ho,_⟩:=hj
  exact awN
 ·exact⟨fun _=>hj.1,fun h=>eB j h⟩
end
def Ug{ops:Array Oper}{cs:Nat->Cl}{vs:Nat->D}{σs:Nat->Env}{bs:Nat->ab}(hR:sa P C ops.toList cs vs σs bs)(hG:Good P C X)(pQ:∀l,r=some l->X.md=1)(bV:∀o∈ops.toList,∀t,o.dst=some t->t<X.N)
 {Q:Exit->Act->World->Prop} (hQ:∀a' w' ρ',aw X ρ' (σs ops.toList.length) (bs ops.toList.length) a' w'->Q .normal a' w'):∀(fuel:Nat) (listed:Array Bool) (ρ:bX) (σ:Env) (bx:ab) (a:Act) (w:World),listed.size=ops.size->
  ((List.range ops.size).filter fun j=> !listed.getD j false).length<=fuel->Inv ops.toList cs vs σs bs (fun j=>listed.getD j false=true) σ bx->aw X ρ σ bx a w->wpAnyIn (Fw r) n P .any ops Q fuel listed a w:=by
 have GF:∀(listed:Array Bool) (ρ:bX) (σ:Env) (bx:ab) (a:Act) (w:World),Region.ready .any ops listed=[]->Inv ops.toList cs vs σs bs (fun j=>listed.getD j false=true) σ bx->listed.size=ops.size->aw X ρ σ bx a w->Q .normal a w:=by
  intro listed ρ σ bx a w hr hI bz h;have eB:∀j,j<ops.toList.length->listed.getD j false=true:=by
   intro j;induction j using Nat.strongRecOn with
   |_ j ih=>
    intro hj;have vP:j<ops.size:=awN
    cases hl:listed.getD j false with
    |true=>rfl
    |false=>
     have ho:ops[j]? =some ops[j]:=abd vP;have:j∈Region.ready .any ops listed:=ake.2 ⟨by
      grind,ops[j],ho,fun e he hb=>by
       have au:=hR.back j ops[j] awN e he hb
       grind⟩
     exact awN
  obtain⟨rfl,rfl⟩:=hR.ends hI eB
  exact awN
 intro fuel;induction fuel with
 |zero=>
  intro listed ρ σ bx a w bz hf hI h;have GP:Region.ready .any ops listed=[]:=by
   cases hr:Region.ready .any ops listed with
   |nil=>rfl
   |cons i rs=>
    exact aqu
  exact⟨GP,GF listed ρ σ bx a w GP hI bz h⟩
 |succ fuel ih=>
  intro listed ρ σ bx a w bz hf hI h;refine⟨fun hr=>GF listed ρ σ bx a w hr hI bz h,fun i hi=>?_⟩;obtain⟨h1,o,h2,h3⟩:=ake.1 hi;have Cv:ops.toList[i]? =some o:=awN
  have pP:i<ops.size:=(aaW.1 h2).1;have qv:i<listed.size:=oM;have hn:¬listed.getD i false=true:=awN
  obtain⟨f1,f2⟩:=hR.aaG hI Cv hn h3;have fk:∀j,(listed.setIfInBounds i true).getD j false=true<->listed.getD j false=true\/j=i:=by
   intro j;by_cases lB:j=i
   ·exact awy
   simp_all[Ne.symm]
  unfold wpOpIn;rw[h2];dsimp only;refine nM h hG pQ (bV o awN) ((hR.at_ i o Cv).2.run σ bx f1 f2 (fun c σ' bx'=>(∀x,c≠ .cd x)/\σ'=put σ o.dst (vs i)/\bx'=gX (cs i) (bs (i+1)) bx) ⟨(hR.at_ i o Cv).2.np,rfl,rfl⟩) ?_ (fun d σ' bx' a' w' ρ' v hk _ _=>absurd rfl (hk.1 d));rintro c σ' bx' a' w' ρ' _ ⟨_,rfl,rfl⟩ h';refine ih _ ρ' _ _ a' w' (by simp[bz]) ?_ (hR.goes hI Cv hn h3 fk) h';have:((List.range ops.size).filter fun j=> !(listed.setIfInBounds i true).getD j false).length<((List.range ops.size).filter fun j=> !listed.getD j false).length:=by
   refine filter_lt (fun j _ hj=>?_) ⟨i,af_.2 pP,awN,?_⟩
   ·exact awN
   exact awN
  exact awO
theorem wx{full:List Oper}(h:Ea full=true):
 (∀(j:Nat) o,full[j]? =some o->o.guard=none/\∀e∈o.after,Region.binds .any e=true->e.on<j)/\
 ∀(i j:Nat) o o',full[j]? =some o->full[i]? =some o'->i≠j->ordered (Region.before full.toArray) i j=false->
  (∀d,o'.dst=some d->d∉tmpsOf full o)/\(∀d,o.dst=some d->d∉tmpsOf full o'):=by
 simp only[Ea,aaI,aas]at h;refine⟨fun j o ho=>⟨?_,fun e he hbe=>?_⟩,fun i j o o' ho rA Et Y4=>?_⟩
 ·have:=(h (o,j) (ae7.2 ho)).1.1;exact awy
 ·have:=(h (o,j) (ae7.2 ho)).1.2 e awN
  exact awN
 ·have:=(h (o,j) (ae7.2 ho)).2 (o',i) (ae7.2 rA)
  exact awN
theorem qZ{full:List Oper}{L:Nat->Bool}{i:Nat}:xz full L i=true<->L i=false/\∃o,full[i]? =some o/\∀e∈o.after,Region.binds .any e=true->L e.on=true:=by
 unfold xz
 exact awN
def yO(full:List Oper)(L:Nat->Bool):Prop:=∀(i:Nat) o,full[i]? =some o->L i=true->∀e∈o.after,Region.binds .any e=true->L e.on=true
def BX{L:Nat->Bool}{i k:Nat}:nQ L i k=true<->L k=true\/k=i:=by simp[nQ,Or.comm]
def Jt(L:Nat->Bool)(i j:Nat):nQ (nQ L i) j=nQ (nQ L j) i:=by grind [nQ]
theorem yO.add{full:List Oper}{L:Nat->Bool}(h:yO full L){i:Nat}(hi:xz full L i=true):yO full (nQ L i):=by
 intro k o hk hL e he hb;obtain⟨_,o',rA,ha⟩:=qZ.1 hi;refine BX.2 (.inl ?_);rcases BX.1 hL with h1|rfl
 ·exact h k o hk h1 e he hb
 exact awN
def D3{full:List Oper}{L:Nat->Bool}{i j:Nat}(hj:xz full L j=true)(Et:j≠i):xz full (nQ L i) j=true:=by grind [qZ,nQ]
def Fu{full:List Oper}(hT:Ea full=true){L:Nat->Bool}(hL:yO full L){i j:Nat}(hi:xz full L i=true)(hj:xz full L j=true)(Et:i≠j):ordered (Region.before full.toArray) i j=false:=by
 obtain⟨hb,_⟩:=wx hT;have w_:∀(i:Nat) o,full[i]? =some o->L i=true->∀e∈o.after,Region.binds _ e=true->L _=true/\e.on<i:=fun i o h1 h2 e h3 h4=>⟨hL i o h1 h2 e h3 h4,(hb i o h1).2 e h3 h4⟩
 obtain⟨QQ,oi,oH,hi3⟩:=qZ.1 hi;obtain⟨vQ,oj,GH,hj3⟩:=qZ.1 hj;cases h:ordered _ i j with
 |false=>rfl
 |true=>
  unfold ordered at h;rcases akV Et with au|VI
  ·rw[Nat.max_eq_right oM,aks oM]at h;have:=qH w_ j oj GH (fun e h1 h2=>⟨hj3 e h1 h2,(hb j oj GH).2 e h1 h2⟩) i h
   exact awN
  ·rw[Nat.max_eq_left oM,Nat.min_eq_right oM]at h;have:=qH w_ i oi oH (fun e h1 h2=>⟨hi3 e h1 h2,(hb i oi oH).2 e h1 h2⟩) j h
   exact awN
theorem N0{o:Oper}(h:IU o=true):(∀T a,o.op≠ .load T a)/\∀ {σ:Env} {bx:ab} {K:Cl->Env->ab->Prop} {v:D},cv P σ bx o.op=some v->K .n (put σ o.dst v) bx->a_ P C o σ bx K:=by
 obtain⟨dst,op,ty,pos,af,g⟩:=o;cases op<;>first
  |(simp[IU]at h;done)
  |exact⟨awP,fun hv hK=>by
   simp[a_,gu];rw[hv];exact hK⟩
theorem Pz{o:Oper}(h:N1 o=true):∃T a,o.op= .load T a:=by
 obtain⟨dst,op,ty,pos,af,g⟩:=o;cases op<;>first
  |(simp[N1]at h;done)
  |grind
theorem Oq{σ:Env}{d d':Option Tmp}{x y:D}(h:∀t,d=some t->d'≠some t):put (put σ d x) d' y=put (put σ d' y) d x:=by
 cases d with
 |none=>rfl
 |some t=>
  cases d' with
  |none=>rfl
  |some t'=>
   funext k;simp[put,ah]
   exact awN
def xJ{full:List Oper}{o:Oper}{d:Option Tmp}{x:D}(h:∀t,d=some t->t∉tmpsOf full o):Alike σ (put σ d x) o.op/\Alike (put σ d x) σ o.op:=by
 have key:∀t∈o.looksAt full.toArray,put σ d x t=σ t:=by
  intro t ht;cases d with
  |none=>rfl
  |some t'=>
   have:t≠t':=fun e=>h t' rfl (by rw[<-e];exact akc _ ht);simp[put,ah,this]
 exact⟨pa key,pa fun t ht=>(key t ht).symm⟩
theorem Ks{base:Nat}{bx bx':ab}:∀ {l:List Nat},AA base bx bx' l->∀s∈l,bx' (base+s)=bx (base+s)
 |[],_,s,hs=>by cases hs
 |s::l,h,s',hs=>by
  rcases aaQ.1 hs with rfl|hs
  ·exact h.1
  ·exact Ks h.2 s' hs
theorem zM{full:List Oper}:∀(t:sc) {L:Nat->Bool} {F F':List (Nat×Nat)} {oA:List Nat},(∀p∈F',p∈F)->iU full L F oA t=true->iU full L F' oA t=true
 | .fin,_,_,_,_,_,h=>h
 | .stop,_,_,_,_,_,h=>h
 | .aD i n,L,F,F',oA,hF,h=>by
   simp[iU,aas]at h⊢;exact⟨h.1,zM n hF h.2⟩
 | .load i s n,L,F,F',oA,hF,h=>by
   simp[iU,aas]at h⊢;refine⟨h.1,zM n (fun p hp=>?_) h.2⟩
   exact awN
 | .both i _ a r,L,F,F',oA,hF,h=>by
   simp only[iU,aas,aaI]at h⊢;exact⟨⟨⟨h.1.1.1,fun p hp=>h.1.1.2 p (hF p hp)⟩,zM a hF h.1.2⟩,zM r hF h.2⟩
def acZ(oN:C.yl=none)(xV:C.pn=false)(pN:C.df=false){full:List Oper}(hT:Ea full=true){Pn:D->ab->Prop}{Q:Env->ab->Prop}:∀(t:sc) (L:Nat->Bool) (F:List (Nat×Nat)) (oA:List Nat) (σ:Env) (bx:ab),yO full L->
 iU full L F oA t=true->lY P C full Pn Q t σ bx->∀(j:Nat) o,full[j]? =some o->xz full L j=true->j∉oA->
 a_ P C o σ bx fun c σ' bx'=>iN c (ug Pn c bx') ((∀p∈F,ordered (Region.before full.toArray) p.1 j=false->bx' (C.base+p.2)=bx (C.base+p.2))/\∃t',iU full (nQ L j) F [] t'=true/\lY P C full Pn Q t' σ' bx'):=by
 intro t;induction t with
 |fin=>
  simp_all[iU,aaL]
 |stop=>
  intro L F oA σ bx hL bm hs j o hj hr hc;simp only[iU,aas,aaI,af_]at bm
  exact awN
 |aD i n ih=>
  intro L F oA σ bx hL bm hs j o hj hr hc;simp only[iU,aas]at bm;obtain⟨⟨⟨anc,CC⟩,bC⟩,Nv⟩:=bm;obtain⟨_,oi,hi,_⟩:=qZ.1 CC;simp only[hi]at bC;obtain⟨Cy,bI⟩:=N0 (P:=P) (C:=C) bC;simp only[lY,qT,hi]at hs;cases hv:cv P σ bx oi.op with
  |none=>rw[hv]at hs;exact hs.elim
  |some v=>
   rw[hv]at hs;simp only[aJ]at hs;by_cases lB:j=i
   ·subst lB;rw[hi]at hj;injection hj with hj;subst hj;exact bI hv ⟨fun _ _ _=>rfl,n,Nv,hs⟩
   ·obtain⟨h1,h2⟩:=(wx hT).2 i j o oi hj hi (Ne.symm lB) (Fu hT hL CC hr (Ne.symm lB));have Ay:=ih (nQ L i) F [] _ bx (hL.add CC) Nv hs j o hj (D3 hr lB) sI;obtain⟨R,Vl,Vm⟩:=HN oN xV pN Ay;refine Vm σ (xJ h1).2 _ fun c x bx' hx=>mW id (fun g=>⟨g.1,?_⟩) (Vl c x bx' hx);obtain⟨t',rC,dq⟩:=g.2;refine⟨.aD i t',?_,?_⟩
    ·simp_all[iU,D3,Ne.symm,Jt]
    ·simp only[lY,qT,hi];rw[Bq (σ:=σ) (bx:=bx) (xJ h2).1 Cy,hv];simp only[aJ];rw[Oq (fun t e e'=>h2 t e (agc _ (by simp[e'])))];exact dq
 |load i s n ih=>
  intro L F oA σ bx hL bm hs j o hj hr hc;simp only[iU,aas]at bm;obtain⟨⟨⟨anc,CC⟩,bC⟩,Nv⟩:=bm;obtain⟨_,oi,hi,_⟩:=qZ.1 CC;simp only[hi]at bC;obtain⟨T,a,xU⟩:=Pz bC;simp only[lY,qT,hi,DW,xU]at hs;obtain⟨uW,hs⟩:=hs;cases hv:jh (aj P T) bx (ev σ a)with
  |none=>rw[hv]at hs;exact hs.elim
  |some v=>
   rw[hv]at hs;simp only[aJ]at hs;by_cases lB:j=i
   ·subst lB;rw[hi]at hj;injection hj with hj;subst hj;obtain⟨dst,op,ty,pos,af,g⟩:=oi;dsimp only at xU;subst xU;simp only[a_,hv,aJ];have hnp:=FF (ev σ a);have:∀x y:Prop,y->iN (pE (ev σ a)) x y:=fun x y hy=>by grind [tH]
    exact this _ _ ⟨fun _ _ _=>rfl,n,zM n (fun p hp=>aa2 _ hp) Nv,hs⟩
   ·obtain⟨h1,h2⟩:=(wx hT).2 i j o oi hj hi (Ne.symm lB) (Fu hT hL CC hr (Ne.symm lB));have Ay:=ih (nQ L i) ((i,s)::F) [] _ bx (hL.add CC) Nv hs j o hj (D3 hr lB) sI;obtain⟨R,Vl,Vm⟩:=HN oN xV pN Ay;refine Vm σ (xJ h1).2 _ fun c x bx' hx=>mW id (fun g=>⟨fun p hp=>g.1 p (aa2 _ hp),?_⟩) (Vl c x bx' hx);obtain⟨t',rC,dq⟩:=g.2;have hkp:bx' (C.base+s)=bx (C.base+s):=g.1 (i,s) aeY (Fu hT hL CC hr (Ne.symm lB));refine⟨.load i s t',?_,?_⟩
    ·simp_all[iU,D3,Ne.symm,Jt]
    ·simp only[lY,qT,hi,DW,xU];have cQ:=(xJ (σ:=σ) (x:=x) h2).1 a avd;rw[cQ];refine⟨uW,?_⟩;rw[Ez (bx:=bx) fun s' tB=>by rcases uW with e|e<;>rw[e]at tB<;>grind [Cl.rd],hv];simp only[aJ];rw[Oq (fun t e e'=>h2 t e (agc _ (by simp[e'])))];exact dq
 |both i nd a r iha ihr=>
  intro L F oA σ bx hL bm hs j o hj hr hc;simp only[iU,aas]at bm
  grind [lY,qT,s_,mW,Ks]
theorem ac0{full:List Oper}{Pn:D->ab->Prop}{Q:Env->ab->Prop}{L:Nat->Bool}{F:List (Nat×Nat)}(hn:∀j,xz full L j=false):∀ {t:sc},iU full L F [] t=true->lY P C full Pn Q t σ bx->Q σ bx
 | .fin,_,hs=>hs
 | .stop,h,_=>by simp[iU]at h
 | .aD i n,h,_=>by grind [iU]
 | .load i s n,h,_=>by grind [iU]
 | .both i k a r,h,_=>by grind [iU]
def W8{ops:Array Oper}(oN:C.yl=none)(xV:C.pn=false)(pN:C.df=false)(hT:Ea ops.toList=true)(hG:Good P C X)(pQ:∀l,r=some l->X.md=1)(bV:∀o∈ops.toList,∀t,o.dst=some t->t<X.N)
 {Pn:D->ab->Prop} {Qd:Env->ab->Prop} {Q:Exit->Act->World->Prop} (hQ:∀σ bx a' w' ρ',Qd σ bx->aw X ρ' σ bx a' w'->Q .normal a' w')
 (hP:∀d σ' bx' a' w' ρ' v,Pn d bx'->aw X ρ' σ' bx' a' w'->aG w' (ay X ρ' bx' w') ρ' d v->Q (.panic [pe v]) a' w'):∀(fuel:Nat) (listed:Array Bool) (t:sc) (ρ:bX) (σ:Env) (bx:ab) (a:Act) (w:World),listed.size=ops.size->
  ((List.range ops.size).filter fun j=> !listed.getD j false).length<=fuel->yO ops.toList (fun j=>listed.getD j false)->iU ops.toList (fun j=>listed.getD j false) [] [] t=true->lY P C ops.toList Pn Qd t σ bx->aw X ρ σ bx a w->wpAnyIn (Fw r) n P .any ops Q fuel listed a w:=by
 have anq:∀(listed:Array Bool),listed.size=ops.size->∀j,xz ops.toList (fun j=>listed.getD j false) j=true<->j∈Region.ready .any ops listed:=by
  intro listed bz j;rw[qZ,ake]
  exact awN
 have GF:∀(listed:Array Bool) (t:sc) (ρ:bX) (σ:Env) (bx:ab) (a:Act) (w:World),listed.size=ops.size->Region.ready .any ops listed=[]->iU ops.toList (fun j=>listed.getD j false) [] [] t=true->lY P C ops.toList Pn Qd t σ bx->aw X ρ σ bx a w->Q .normal a w:=by grind [ac0]
 intro fuel;induction fuel with
 |zero=>
  intro listed t ρ σ bx a w bz hf bS bm hs h;have GP:Region.ready .any ops listed=[]:=by
   cases hr:Region.ready .any ops listed with
   |nil=>rfl
   |cons i rs=>
    exact aqu
  exact⟨GP,GF listed t ρ σ bx a w bz GP bm hs h⟩
 |succ fuel ih=>
  intro listed t ρ σ bx a w bz hf bS bm hs h;refine⟨fun hr=>GF listed t ρ σ bx a w bz hr bm hs h,fun i hi=>?_⟩;have CC:=(anq listed bz i).2 hi;obtain⟨h1,o,h2,h3⟩:=ake.1 hi;have Cv:ops.toList[i]? =some o:=awN
  have pP:i<ops.size:=(aaW.1 h2).1;have qv:i<listed.size:=oM;have hn:¬listed.getD i false=true:=awN
  have fk:∀j,(listed.setIfInBounds i true).getD j false=true<->listed.getD j false=true\/j=i:=by
   intro j;by_cases lB:j=i
   ·exact awy
   simp_all[Ne.symm]
  have aeJ:(fun j=>(listed.setIfInBounds i true).getD j false)=nQ (fun j=>listed.getD j false) i:=by
   funext j;refine abu.2 ?_;rw[fk,BX]
  unfold wpOpIn;rw[h2];dsimp only;have bI:=acZ oN xV pN hT t _ [] [] σ bx bS bm hs i o Cv CC sI;refine nM h hG pQ (bV o awN) (K:=fun c σ' bx'=>iN c (ug Pn c bx') ((∀p∈([]:List (Nat×Nat)),ordered (Region.before ops.toList.toArray) p.1 i=false->bx' (C.base+p.2)=bx (C.base+p.2))/\∃t',iU ops.toList (nQ (fun j=>listed.getD j false) i) [] [] t'=true/\lY P C ops.toList Pn Qd t' σ' bx')) (by
   grind [oc,wx]) ?_ (fun d σ' bx' a' w' ρ' v hk h' hr=>hP d σ' bx' a' w' ρ' v hk h' hr)
  intro c σ' bx' a' w' ρ' hc hk h';rw[tH hc]at hk;obtain⟨t',rC,dq⟩:=hk.2;refine ih _ t' ρ' σ' bx' a' w' (by simp[bz]) ?_ (by rw[aeJ];exact bS.add CC) awN dq h';have:((List.range ops.size).filter fun j=> !(listed.setIfInBounds i true).getD j false).length<((List.range ops.size).filter fun j=> !listed.getD j false).length:=by
   refine filter_lt (fun j _ hj=>?_) ⟨i,af_.2 pP,awN,?_⟩
   ·exact awN
   exact awN
  exact awO
theorem Gh:∀ {l:List Oper},l≠[]->∃pre o,l=pre++[o]/\sn l=pre++[mh o]/\S2 l=o.guard.isNone/\∀(P:Program) (C:Calc) (σ:Env) (bx:ab) (K:Cl->Env->ab->Prop),wj P C l σ bx K=a_ P C o σ bx K
 |[],h=>absurd rfl h
 |[o],_=>⟨[],o,rfl,rfl,rfl,fun _ _ _ _ _=>rfl⟩
 |o::p::l,_=>by
  obtain⟨pre,q,h1,h2,h3,h4⟩:=Gh (l:=p::l) sI;refine⟨o::pre,q,awN,?_,h3,h4⟩
  grind [sn]
def SJ{full SG:List Oper}{o:Oper}{K:Cl->Env->ab->Prop}(h:∀j:Nat,kx SG[j]? σ=kx full[j]? σ\/kx SG[j]? σ=none)(hs:oc P C SG o σ bx K):oc P C full o σ bx K:=by
 unfold oc at hs⊢;split at hs
 ·exact hs
 ·rename_i j want hg;rcases h j with e|e
  ·exact awN
  ·rw[e]at hs;exact hs.elim
def S3{ops:Array Oper}{pre:List Oper}{o1:Oper}{cs:Nat->Cl}{vs:Nat->D}{σs:Nat->Env}{bs:Nat->ab}{C2:Calc}(Ax:ops.toList=pre++[o1])(hg1:o1.guard=none)(hR:sa P C (pre++[mh o1]) cs vs σs bs)(hG:Good P C X)(hG2:Good P C2 X)(pQ:∀l,r=some l->X.md=1)(bV:∀o∈ops.toList,∀t,o.dst=some t->t<X.N)
 (Cz:∀j,j<pre.length->ordered (Region.before (pre++[mh o1]).toArray) j pre.length=true) {Pn:D->Env->ab->Prop} {Qd:Env->ab->Prop} (bI:a_ P C2 o1 (σs pre.length) (bs pre.length) fun c σ' bx'=>iN c (ug (fun d bx=>Pn d σ' bx) c bx') (Qd σ' bx'))
 {Q:Exit->Act->World->Prop} (hQ:∀σ bx a' w' ρ',Qd σ bx->aw X ρ' σ bx a' w'->Q .normal a' w')
 (hP:∀d σ' bx' a' w' ρ' v,Pn d σ' bx'->aw X ρ' σ' bx' a' w'->aG w' (ay X ρ' bx' w') ρ' d v->Q (.panic [pe v]) a' w'):∀(fuel:Nat) (listed:Array Bool) (ρ:bX) (σ:Env) (bx:ab) (a:Act) (w:World),listed.size=ops.size->listed.getD pre.length false=false->
  ((List.range ops.size).filter fun j=> !listed.getD j false).length<=fuel->Inv (pre++[mh o1]) cs vs σs bs (fun j=>listed.getD j false=true) σ bx->aw X ρ σ bx a w->wpAnyIn (Fw r) n P .any ops Q fuel listed a w:=by
 have bz:ops.size=pre.length+1:=by
  have:=aaR List.length Ax
  exact awN
 have au:∀(i:Nat),i<pre.length->(pre++[mh o1])[i]? =ops[i]?:=fun i hi=>by rw[<-aba,Ax,aeU hi,aeU hi]
 have BG:(pre++[mh o1])[pre.length]? =some (mh o1):=awP
 have hlb:ops[pre.length]? =some o1:=by rw[<-aba,Ax];simp
 have aio:∀(σ:Env) (j:Nat),kx (pre++[mh o1])[j]? σ=kx ops.toList[j]? σ\/kx (pre++[mh o1])[j]? σ=none:=fun σ j=>by
  rcases Nat.lt_trichotomy j pre.length with h|h|h
  ·exact awN
  ·right;subst h;rw[BG];rfl
  exact awN
 intro fuel;induction fuel with
 |zero=>
  intro listed ρ σ bx a w VM qw hf hI h;exact awy
 |succ fuel ih=>
  intro listed ρ σ bx a w VM qw hf hI h;have nF:pre.length<listed.size:=oM;refine⟨fun hr=>?_,fun i hi=>?_⟩
  ·exfalso;have eB:∀j,j<ops.size->listed.getD j false=true:=by
    intro j;induction j using Nat.strongRecOn with
    |_ j ihj=>
     intro hj;cases hl:listed.getD j false with
     |true=>rfl
     |false=>
      have ho:ops[j]? =some ops[j]:=abd hj;have:j∈Region.ready .any ops listed:=ake.2 ⟨by
       grind,ops[j],ho,fun e he hb=>by
        have hbk:e.on<j:=by
         rcases aqv j pre.length with hjp|hjp
         ·exact hR.back j ops[j] awN e he hb
         ·have hjp:j=pre.length:=oM;subst hjp;rw[hlb]at ho;injection ho with ho;exact hR.back pre.length (mh o1) BG e (by rw[<-ho]at he;exact he) hb
        grind⟩
      exact awN
   exact awN
  obtain⟨h1,o,h2,h3⟩:=ake.1 hi;have pP:i<ops.size:=(aaW.1 h2).1;have qv:i<listed.size:=oM;have hn:¬listed.getD i false=true:=awN
  have fk:∀j,(listed.setIfInBounds i true).getD j false=true<->listed.getD j false=true\/j=i:=by
   intro j;by_cases lB:j=i
   ·exact awy
   simp_all[Ne.symm]
  have hflt:((List.range ops.size).filter fun j=> !(listed.setIfInBounds i true).getD j false).length<((List.range ops.size).filter fun j=> !listed.getD j false).length:=by
   refine filter_lt (fun j _ hj=>?_) ⟨i,af_.2 pP,awN,?_⟩
   ·exact awN
   exact awN
  unfold wpOpIn;rw[h2];dsimp only;rcases aqv i pre.length with hip|hip
  ·have Cv:(pre++[mh o1])[i]? =some o:=awN
   obtain⟨f1,f2⟩:=hR.aaG hI Cv hn h3;refine nM h hG pQ (bV o awN) (SJ (aio σ) ((hR.at_ i o Cv).2.run σ bx f1 f2 (fun c σ' bx'=>(∀x,c≠ .cd x)/\σ'=put σ o.dst (vs i)/\bx'=gX (cs i) (bs (i+1)) bx) ⟨(hR.at_ i o Cv).2.np,rfl,rfl⟩)) ?_ (fun d σ' bx' a' w' ρ' v hk _ _=>absurd rfl (hk.1 d));rintro c σ' bx' a' w' ρ' _ ⟨_,rfl,rfl⟩ h';refine ih _ ρ' _ _ a' w' (by simp[VM]) ?_ oM (hR.goes hI Cv hn h3 fk) h'
   exact awN
  ·have hip:i=pre.length:=oM;subst hip;rw[hlb]at h2;injection h2 with h2;subst h2;have hL:∀j,j<pre.length->listed.getD j false=true:=fun j hj=>by
    obtain⟨oj,hjo⟩:∃oj,(pre++[mh o1])[j]? =some oj:=⟨_,aaS awe⟩
    exact(hR.cut hI.closed BG hn (fun e he hb=>h3 e he hb) hjo fun _=>Cz j hj).2 hj
   have hLi:∀j,j<pre.length+1->(listed.getD j false=true<->j<pre.length):=fun j hj=>awN
   have hσ:σ=σs pre.length:=funext fun t=>(hI.t t).uniq (hR.TO t pre.length sI) fun j hj=>by
    obtain⟨o,ho,_⟩:=hj;have:=(aaL.1 ho).1;exact awy
   have gV:bx=bs pre.length:=funext fun s=>(hI.s s).uniq (hR.TN s pre.length sI) fun j hj=>hLi j (by simpa using hj.1);subst hσ;subst gV;have VG:oc P C2 ops.toList o1 (σs pre.length) (bs pre.length) fun c σ' bx'=>iN c (ug (fun d bx=>Pn d σ' bx) c bx') (Qd σ' bx'):=by grind [oc]
   refine nM h hG2 pQ (bV o1 awN) VG ?_ (fun d σ' bx' a' w' ρ' v hk h' hr=>hP d σ' bx' a' w' ρ' v hk h' hr);intro c σ' bx' a' w' ρ' hnp hk h';rw[tH hnp]at hk;have cH:∀j,j∉Region.ready .any ops (listed.setIfInBounds pre.length true):=fun j hj=>by
    obtain⟨g1,o',g2,_⟩:=ake.1 hj
    exact awN
   have VY:Region.ready .any ops (listed.setIfInBounds pre.length true)=[]:=by
    cases hr:Region.ready .any ops (listed.setIfInBounds pre.length true)with
    |nil=>rfl
    |cons j js=>exact absurd awN (cH j)
   cases fuel with
   |zero=>exact⟨VY,hQ _ _ a' w' ρ' hk h'⟩
   |succ fuel=>exact⟨fun _=>hQ _ _ a' w' ρ' hk h',fun j hj=>absurd hj (cH j)⟩
end Go.V
namespace Go.V
open Go.RowKit
variable {P:Program} {C:Calc} {X:Ctx} {ρ:bX} {σ:Env} {bx:ab} {a:Act} {w:World} {r:Option Nat} {n:Nat}
def W5{ops:List Oper}{acc:List Cl}{id:Nat}{cs:Nat->Cl}{vs:Nat->D}{σs:Nat->Env}{bs:Nat->ab}{tab:List (Nat×List (Nat×Nat))}(bm:Cb ops (mj tab id)=true)(vz:acc=((List.range ops.length).map cs).reverse)(QL:j_ (mj tab id) acc)
 (iu:∀(k:Nat) o,ops[k]? =some o->σs (k+1)=put (σs k) o.dst (vs k)/\RY P C ops o (σs k) (bs k) (cs k) (vs k) (bs (k+1))):sa P C ops cs vs σs bs:=by
 obtain⟨wg,aaT⟩:=Pp bm;refine⟨iu,wg,fun i j o o' hj hi Et Y4=>?_⟩;obtain⟨h1,h2,h3⟩:=aaT i j o o' hj hi Et Y4;have ait:ordered (Region.before ops.toArray) j i=false:=by grind [ordered]
 obtain⟨_,_,Vi⟩:=aaT j i o' o hi hj (Ne.symm Et) ait;refine⟨h1,fun s hw hr=>?_⟩;have xc:=(aaL.1 hj).1;have qv:=(aaL.1 hi).1;have hEi:=(iu i o' hi).2;have hEj:=(iu j o hj).2;have hwi:eV o'.op=2:=by
  rcases Nat.decEq (eV o'.op) 2 with bh|he
  ·have:=hEi.Wb bh s;exact awN
  ·exact he
 have Ex:eV o.op≠0:=fun h0=>by
  have:=hEj.le0 h0
  grind [Cl.rd]
 have eC:∀k,k<ops.length->acc[ops.length - 1 - k]? =some (cs k):=awN
 rcases Vi hwi Ex with hm|hm
 ·have:=Ms QL _ _ hm;rw[eC i qv,eC j xc]at this;exact(Mc this s).1 hw hr
 ·have:=Ms QL _ _ hm;rw[eC i qv,eC j xc]at this;exact(Mc this s).2 hw hr
theorem P6.shut{C':Calc}(h:P6 P C X)(hy:C'.yl=none):P6 P C' X:=
 let ⟨E,h1,h2,h3,h4,_⟩:=h
 ⟨E,h1,h2,h3,h4,fun _ _ _ _ e=>awN⟩
theorem Good.wN(h:Good P C X):Good P C.wN X:=
 ⟨⟨h.ok.to,fun _ _ _ _ _ _ hf=>hf.elim,fun _ _ _ _ hf=>hf.elim,fun _ _ _ _ _ hf=>hf.elim⟩,h.lo,h.base,h.RW.shut rfl,(fun hf=>awE),fun _ _ _ _ _ h=>h,fun _ _ _ _ _ _ h=>h⟩
theorem Good.dra(h:Good P C X):Good P ⟨C.o,C.tab,C.base,C.aN,C.lo,none,false,false⟩ X:=
 ⟨h.ok,h.lo,h.base,h.RW.shut rfl,(fun hf=>awE),h.it,h.CJ⟩
def rM(w:World)(l:Nat)(o:Obj):Fr (fun k=>k=l) w (w.putObj l o):=
 ⟨rfl,rfl,rfl,awP,fun k _ hk=>World.putObj_heap_other hk⟩
def XR(w:World)(S:Nat->Prop)(ρ:bX):DX->Exit->Prop
 | .normal,.normal=>True
 | .ret,.ret=>True
 | .exit i,.exit j=>i=j
 | .goto i,.goto j=>i=j
 | .cd d,.panic ch=>∃v,ch=[pe v]/\aG w S ρ d v
 |_,_=>False
theorem XR.cases{S:Nat->Prop}{e:DX}{e':Exit}(h:XR w S ρ e e'):(e= .normal/\e'= .normal)\/(e= .ret/\e'= .ret)\/(∃i,e= .exit i/\e'= .exit i)\/(∃l,e= .goto l/\e'= .goto l)\/∃d v,e= .cd d/\e'= .panic [pe v]/\aG w S ρ d v:=by
 cases e with
 |normal=>cases e'<;>first|exact h.elim|grind
 |ret=>cases e'<;>first|exact h.elim|grind
 |exit i=>cases e' with
  |exit j=>have:i=j:=h;grind
  |_=>exact h.elim
 |goto i=>cases e' with
  |goto j=>have:i=j:=h;grind
  |_=>exact h.elim
 |cd d=>cases e' with
  |panic ch=>obtain⟨v,rfl,hr⟩:=h;grind
  |_=>exact h.elim
def Sound(P:Program)(c:Code):Prop:=
 ∀(r:Option Nat) (n:Nat) (C:Calc) (X:Ctx) (Qd:DX->Env->ab->Prop) (Q:Exit->Act->World->Prop) (ρ:bX) (σ:Env) (bx:ab) (a:Act) (w:World),Good P C X->(∀l,r=some l->X.md=1/\∃rc,X.r0.hold l=some (.loop rc)/\¬X.E l)->
  dH C.tab X.N c=true->aw X ρ σ bx a w->cR P C c Qd σ bx->(∀e e' σ' bx' a' w' ρ',XR w' (ay X ρ' bx' w') ρ' e e'->Qd e σ' bx'->aw X ρ' σ' bx' a' w'->Q e' a' w')->c.wpIn (Fw r) n P Q a w
theorem F1{S:Nat->Prop}:∀(ps:List Tmp) (it:List D) (us:List Value) (σ:Env) (tm:Array Value),us.length=it.length->it.length=ps.length->(∀t∈ps,t<tm.size)->(∀(i:Nat) x v,it[i]? =some x->us[i]? =some v->aG w S ρ x v)->(∀t,aG w S ρ (σ t) (tm.getD t undef))->
 ((ps.zip us).foldl (fun tmps (x:Tmp×Value)=>tmps.setIfInBounds x.1 x.2) tm).size=tm.size/\∀t,aG w S ρ (kp σ ps it t) (((ps.zip us).foldl (fun tmps (x:Tmp×Value)=>tmps.setIfInBounds x.1 x.2) tm).getD t undef)
 |[],it,us,σ,tm,_,h2,_,_,h=>by
  cases it with
  |nil=>exact⟨rfl,h⟩
  |cons _ _=>simp at h2
 |p::ps,it,us,σ,tm,h1,h2,au,hr,h=>by
  cases it with
  |nil=>simp at h2
  |cons d it=>
   cases us with
   |nil=>simp at h1
   |cons u us=>
    have:=F1 ps it us (ah σ p d) (tm.setIfInBounds p u) awN awN (fun t ht=>awN) (fun i x v hx hv=>hr (i+1) x v awN awN) (fun t=>by
     by_cases e:t=p
     ·subst e;have hl:=au t (aeY ..);have e2:(tm.setIfInBounds t u).getD t undef=u:=awy
      rw[e2];simp only[ah,abo];exact hr 0 d u rfl rfl
     simp_all[Ne.symm,ah])
    refine⟨?_,this.2⟩;exact awy
def L2(aN:Nat)(Qd:DX->Env->ab->Prop)(σ:Env):Code->ab->Prop
 | .ret,c=>∀aT,bg aN aT=c->Qd .ret σ aT
 | .exit id,c=>∀aT,bg aN aT=c->Qd (.exit id) σ aT
 |_,_=>False
def qS(l:Nat)(E:Nat->Prop):Nat->Prop:=fun k=>k=l\/E k
def JY(lo:Nat)(Y:ab->(Nat->Option Obj)->Prop)(J:Nat->ab->Prop)(n:Nat)(c:ab)(h:Nat->Option Obj):Prop:=J n c/\Y (bg lo c) h
def JxY(lo:Nat)(Y:ab->(Nat->Option Obj)->Prop)(J:Code->ab->Prop)(n:Code)(c:ab)(h:Nat->Option Obj):Prop:=J n c/\Y (bg lo c) h
def Di{assign body:Code}(hA:Sound P assign)(hB:Sound P body){ps:Array Tmp}{l ext:Nat}{rc:Loop}{items:List (List D)}{J:Nat->ab->Prop}{Qd:DX->Env->ab->Prop}{E:Nat->Prop}(hG:Good P C X)(Gv:aw X ρ σ bx a w)(xa:DZ C.lo C.aN ext C.yl)(tP:X.r0.hold l=none)(mG:X.w0.heap.size<=l)
 (hE:(∀k,E k->X.E k)/\(∀k,E k->∃q,X.r0.hold k=some (.loop q))/\(∀c h,X.Y c h->∀k,E k->∃q,h k=some (.loop q))/\Bv E X.Y)
 (GX:∀items gs l sO,C.yl=some (items,gs,l,sO)->C.aN<=sO/\∀(Z:Ctx),Z.S0=X.S0->Z.n0=X.n0->Z.lo=X.lo->Z.Y=X.Y->(∀k,E k->Z.E k)->(∀ρ σ bx a w,aw Z ρ σ bx a w->∃σ0 a0,aw X ρ σ0 bx a0 w)->
  ∀(hi:Nat) (ρ:bX) (σ:Env) (bx:ab) (a:Act) (w:World) (us:Array Value) (ds:List D),hi<=sO->aw Z ρ σ bx a w->items[(bx gs).sz]? =some ds->us.size=ds.length->
  (∀(i:Nat) x v,ds[i]? =some x->us[i]? =some v->bc w (ay Z ρ bx w) x v)->
   ∃f tm as bd,(Instr.yield l us).run P w= .ok (.round l f tm as bd) w/\∀m,RoundIn Fence.wide m P l f tm as bd w fun e w2=>∃ρ2 bx1 b,e= .returned (.bool b)/\
    aw Z ρ2 σ (yB C.lo hi gs bx bx1 (if b then(bx gs).sz+1 else items.length+1)) a w2)
 (bm:(∀t∈ps.toList,t<X.N)/\dH C.tab X.N assign=true/\dH C.tab X.N body=true)
 (hrc:rc.state= .ready/\rc.pending=none/\rc.tmps=a.tmps/\rc.params=ps/\rc.assign=assign/\rc.body=body)
 (hr:∀n it bx1,items[n]? =some it->J n (bg C.aN bx1)->it.length=ps.size/\
  cR P ⟨C.o,C.tab,C.base,C.aN+ext,C.lo,C.yl,false,false⟩ assign (dK (cR P ⟨C.o,C.tab,C.base,C.aN+ext,C.lo,C.yl,false,false⟩ body (qC C.aN ext J n Qd σ bx1)) KC) (kp σ ps.toList it) bx1):
 DE P X.free l (qS l E) rc C.aN ext items (JY X.lo X.Y J) (JxY X.lo X.Y (L2 C.aN Qd σ)) σ a:=by
 obtain⟨st,pe,fn,tm,pr,as,bd,df⟩:=rc;obtain⟨bI,hpe,htm,Ki,has,hbd⟩:=hrc;simp only at bI hpe htm Ki has hbd;subst bI;subst hpe;subst htm;subst Ki;subst has;subst hbd;obtain⟨Em,QG,Gx,BD⟩:=hE;have Cw:X.lo<=C.aN:=by
  have:=hG.lo;unfold DZ at xa
  exact awN
 have Cy:¬E l:=fun h=>awN
 intro n it ρ1 bx1 w1 us hi h hl hJ V2 ke;obtain⟨hJ,hY1⟩:=hJ;rw[fE Cw]at hY1;have hX:aw X ρ1 σ bx1 a w1:=Gv.Dw h hY1;obtain⟨qv,QM⟩:=hr n it bx1 hi hJ;have zt:=(h.hold l _ hl).1;have BH:l<w1.heap.size:=(aaW.1 zt).1;refine⟨fn,_,as,bd,run_yield zt (by rw[V2,qv]),fun m=>roundIn_of_wpIn trivial ?_⟩;have hlen:(pr.zip us).toList=pr.toList.zip us.toList:=awP
 obtain⟨bz,hreps⟩:=F1 (w:=w1) (ρ:=ρ1) (S:=ay X ρ1 bx1 w1) pr.toList it us.toList σ a.tmps awN awN (fun t ht=>by rw[hX.size];grind) (fun i x v hx hv=> .pure (ke i x v hx awN)) hX.tmps;have e1:(pr.zip us).foldl (fun tmps (x:Tmp×Value)=>tmps.setIfInBounds x.1 x.2) a.tmps=(pr.toList.zip us.toList).foldl (fun tmps (x:Tmp×Value)=>tmps.setIfInBounds x.1 x.2) a.tmps:=awN
 have hlp:∀(ρ':bX) (bx':ab),X.Y (bg X.lo bx') ρ'.hold->ρ'.hold l=some (.loop ⟨.ready,none,fn,a.tmps,pr,as,bd,df⟩)->∀k,qS l E k->∃q,ρ'.hold k=some (.loop q):=fun ρ' bx' hy h0 k hk=>by
  rcases hk with rfl|hk
  ·exact awN
  exact awN
 have Vj:∀b,qS l E b->∀o,w1.heap[b]? =some o->Obj.oQ o=false:=fun b hb o ho=>by
  obtain⟨q,hq⟩:=hlp ρ1 bx1 hY1 hl b hb;rw[(h.hold b _ hq).1]at ho;injection ho with ho;subst ho;rfl
 have Vz:aw (X.sub ρ1 bx1 w1 (qS l E) X.N 0 1) ρ1 (kp σ pr.toList it) bx1 {tmps:=(pr.zip us).foldl (fun tmps (x:Tmp×Value)=>tmps.setIfInBounds x.1 x.2) a.tmps,defers:=[]} w1:=
  hX.sub h.qA Vj (by rw[e1,bz];exact h.size) (.inl rfl) (aes _) awN
 have hc:aw ((X.sub ρ1 bx1 w1 (qS l E) X.N 0 1).jL X.lo X.Y) ρ1 (kp σ pr.toList it) bx1 {tmps:=(pr.zip us).foldl (fun tmps (x:Tmp×Value)=>tmps.setIfInBounds x.1 x.2) a.tmps,defers:=[]} w1:=Vz.jL Gv.yc hY1 Gv.y0;have backX:∀ρ' σ' bx' a' w',aw ((X.sub ρ1 bx1 w1 (qS l E) X.N 0 1).jL X.lo X.Y) ρ' σ' bx' a' w'->∀(X1:Ctx) (σ1:Env) (a1:Act),X1.S0=X.S0->X1.n0=X.n0->(∀k,qS l E k->X1.E k\/X1.w0.heap.size<=k)->(∀k,qS l E k->X1.r0.hold k=none\/X1.E k)->aw X1 ρ1 σ1 bx1 a1 w1->X1.Y (bg X1.lo bx') ρ'.hold->aw X1 ρ' σ1 bx' a1 w':=fun ρ' σ' bx' a' w' hs X1 σ1 a1 g1 g2 g3 g3' g4 g5=>
  g4.back g1 g2 (hs.Wu rfl fun _ _=>trivial) g3 (fun b hb e=>awN) g3' g5
 generalize hYd:(X.sub ρ1 bx1 w1 (qS l E) X.N 0 1).jL X.lo X.Y=Y at hc backX;have hYS:Y.S0=X.S0/\Y.n0=X.n0/\Y.w0=w1/\Y.r0=ρ1/\Y.N=X.N/\Y.lo=X.lo/\Y.Y=X.Y/\((∀k,qS l E k->Y.E k)/\∀b,Y.E b->qS l E b\/Fe ρ1 bx1 b)/\Y.md=1:=by rw[<-hYd];exact⟨rfl,rfl,rfl,rfl,rfl,rfl,rfl,⟨fun _ h=> .inl h,fun _ h=>h⟩,rfl⟩
 obtain⟨yS,yn,yw,yr,yN,H0,yY,yE,ymd⟩:=hYS;have backXX:∀ρ' σ' bx' a' w',aw Y ρ' σ' bx' a' w'->aw X ρ' σ bx' a w':=fun ρ' σ' bx' a' w' hs=>
  backX ρ' σ' bx' a' w' hs X σ a rfl rfl (fun k hk=>hk.elim (fun e:k=l=> .inr (e▸mG)) fun hk=> .inl (Em k hk)) (fun k hk=>hk.elim (fun e:k=l=> .inl (e▸tP)) fun hk=> .inr (Em k hk)) hX (by have:=hs.inv;grind)
 have run:∀(c:Code),Sound P c->dH C.tab X.N c=true->∀(Qc:DX->Env->ab->Prop) (Qm:Exit->Act->World->Prop) (ρa:bX) (σa:Env) (uP:ab) (aa:Act) (wa:World) (Oy:Loop),ρa.hold l=some (.loop Oy)->aw Y ρa σa uP aa wa->
  cR P ⟨C.o,C.tab,C.base,C.aN+ext,C.lo,C.yl,false,false⟩ c Qc σa uP->(∀e e' σ' bx' a' w' ρ',XR w' (ay Y ρ' bx' w') ρ' e e'->Qc e σ' bx'->aw Y ρ' σ' bx' a' w'->ρ'.hold l=some (.loop Oy)->Qm e' a' w')->c.wpIn (Fw (some l)) m P Qm aa wa:=by
  intro c hS anb Qc Qm ρa σa uP aa wa Oy wh tQ QM hq;have hYa:X.Y (bg X.lo uP) ρa.hold:=by have:=tQ.inv;grind
  have aeA:=Gx _ _ hYa;have aiy:=tQ.sub (E:=E) (N:=X.N) (ml:=Y.ml) (md:=1) (σ':=σa) (a':=aa) h.qA (fun b hb o ho=>by
   obtain⟨q,jv⟩:=aeA b hb;rw[(tQ.hold b _ jv).1]at ho;injection ho with ho;subst ho;rfl) (by rw[tQ.size,yN]) (.inl rfl) (adz tQ.sP tQ.fr.size) tQ.tmps
  have E8:aw ((Y.sub ρa uP wa E X.N Y.ml 1).jL X.lo X.Y) ρa σa uP aa wa:=aiy.jL Gv.yc hYa Gv.y0;have backY:∀ρ' σ' bx' a' w',aw ((Y.sub ρa uP wa E X.N Y.ml 1).jL X.lo X.Y) ρ' σ' bx' a' w'->aw Y ρ' σa bx' aa w':=fun ρ' σ' bx' a' w' hs=>
   tQ.back rfl rfl (hs.Wu rfl fun _ _=>trivial) (fun b hb=> .inl (yE.1 b (.inr hb))) (fun b hb e=>awN) (fun b hb=> .inr (yE.1 b (.inr hb))) (by rw[H0,yY];exact hs.inv)
  have notE:¬((Y.sub ρa uP wa E X.N Y.ml 1).jL X.lo X.Y).E l:=fun he=>he.elim Cy (tQ.Wv wh rfl);refine hS (some l) m ⟨C.o,C.tab,C.base,C.aN+ext,C.lo,C.yl,false,false⟩ ((Y.sub ρa uP wa E X.N Y.ml 1).jL X.lo X.Y) Qc Qm ρa σa uP aa wa ⟨hG.ok,hG.lo,hG.base,⟨E,fun k hk=> .inl hk,fun k hk=>aeA k hk,Gx,BD,fun V8 gs2 l2 afI oN=>?_⟩,(fun hf=>awE),(fun hf=>by have:(1:Nat)=3:=hf;omega),fun hf=>by have:(1:Nat)=3:=hf;omega⟩ (fun l' eh=>?_) anb E8 QM fun e e' σ' bx' a' w' ρ' h0 h1 h2=>hq e e' σ' bx' a' w' ρ' h0 h1 ?_ (h2.gB l _ wh notE)
  ·obtain⟨k1,k2⟩:=GX V8 gs2 l2 afI oN;have anB:C.yl=some (V8,gs2,l2,afI):=oN;rw[anB]at xa;refine⟨xa.2,fun Z z1 z2 z3 z4 z5 z6=>k2 Z (z1.trans yS) (z2.trans yn) z3 z4 z5 fun ρ' σ' bx' a' w' hz=>?_⟩;obtain⟨σ0,a0,h0⟩:=z6 _ _ _ _ _ hz;exact⟨σ,a,backXX _ _ _ _ _ (backY _ _ _ _ _ h0)⟩
  ·injection eh with eh;subst eh;exact⟨rfl,Oy,wh,notE⟩
  ·exact(backY _ _ _ _ _ h2).switch (by rw[h2.size,yN];rfl) (.inl ymd) h2.tmps
 have setl:∀(ρa:bX) (σa:Env) (uP:ab) (aa:Act) (wa:World) (Oy:Loop) (o':Loop),ρa.hold l=some (.loop Oy)->aw Y ρa σa uP aa wa->aw Y ⟨ρa.at_,fun k=>if k=l then some (.loop o')else ρa.hold k⟩ σa uP aa (wa.putObj l (.loop o')):=fun ρa σa uP aa wa Oy o' wh tQ=>
  tQ.Jc wh (.inl (yE.1 l (.inl rfl))) (.inr (yE.1 l (.inl rfl))) sI rfl rfl (rM wa l _) (World.putObj_heap_same (aaW.1 (tQ.hold l _ wh).1).1) (by
   have:=tQ.inv;rw[yY]at this⊢;exact BD _ _ _ this fun k hk=>aaw fun e:k=l=>Cy (e▸hk))
 refine run as hA bm.2.1 _ _ ρ1 _ bx1 _ w1 _ hl hc QM fun e e' σa uP aa wa ρa hx hq QW BG=>?_;rcases hx.cases with⟨rfl,rfl⟩|⟨rfl,rfl⟩|⟨_,rfl,rfl⟩|⟨_,rfl,rfl⟩|⟨_,_,rfl,rfl,_⟩
 rotate_left
 ·exact hq.elim
 ·exact hq.elim
 ·exact hq.elim
 ·exact hq.elim
 ·skip
  refine⟨_,run_beginRound (QW.hold l _ BG).1 rfl,?_⟩;have hsb:=setl ρa σa uP aa wa _ ⟨.busy,none,fn,a.tmps,pr,as,bd,df⟩ BG QW;refine run bd hB bm.2.2 _ _ _ σa uP aa _ ⟨.busy,none,fn,a.tmps,pr,as,bd,df⟩ sI hsb hq fun e e' σc bxc ac wc ρc eA rB GU uV=>?_;have fin:∀(jump:Option Code),(jump=none->J (n+1) (bg C.aN bxc))->(∀j,jump=some j->L2 C.aN Qd σ j (bg C.aN bxc))->∃v w',(Instr.endRound l jump).run P wc= .ok v w'/\∃ρ2 aT b,Ending.returned v= .returned (.bool b)/\(∀s,C.aN<=s->s<C.aN+ext->aT s=bx1 s)/\
   (∀(X1:Ctx) (σ1:Env) (a1:Act),X1.S0=X.free.S0->X1.n0=X.free.n0->(∀k,qS l E k->X1.E k)->aw X1 ρ1 σ1 bx1 a1 w1->X1.Y (bg X1.lo aT) ρ2.hold->aw X1 ρ2 σ1 aT a1 w')/\(∀k,qS l E k->∃q,ρ2.hold k=some (.loop q))/\
   ((b=true/\ρ2.hold l=some (.loop ⟨.ready,none,fn,a.tmps,pr,as,bd,df⟩)/\JY X.lo X.Y J (n+1) (bg C.aN aT) ρ2.hold)\/(b=false/\∃jump,ρ2.hold l=some (.loop ⟨.done,some jump,fn,a.tmps,pr,as,bd,df⟩)/\JxY X.lo X.Y (L2 C.aN Qd σ) jump (bg C.aN aT) ρ2.hold)):=by
   intro jump vQ GH;have QX:=setl ρc σc bxc ac wc _ ⟨if jump.isNone then .ready else .done,jump,fn,a.tmps,pr,as,bd,df⟩ uV GU;have oL:=QX.inv;rw[H0,yY]at oL;refine⟨_,_,run_endRound jump (GU.hold l _ uV).1,⟨ρc.at_,fun k=>if k=l then some (.loop ⟨if jump.isNone then .ready else .done,jump,fn,a.tmps,pr,as,bd,df⟩)else ρc.hold k⟩,bxc,jump.isNone,rfl,rB.1,fun X1 σ1 a1 g1 g2 g3 g4 g5=>?_,fun k hk=>?_,?_⟩
   ·exact backX _ _ _ _ _ QX X1 σ1 a1 g1 g2 (fun k hk=> .inl (g3 k hk)) (fun k hk=> .inr (g3 k hk)) g4 g5
   ·rcases hk with rfl|hk
    ·exact awN
    ·exact Gx _ _ oL k hk
   ·cases jump with
    |none=>exact .inl ⟨rfl,awP,vQ rfl,by grind [fE]⟩
    |some j=>exact .inr ⟨rfl,j,awP,GH j rfl,by grind [fE]⟩
  rcases eA.cases with⟨rfl,rfl⟩|⟨rfl,rfl⟩|⟨id,rfl,rfl⟩|⟨_,rfl,rfl⟩|⟨_,_,rfl,rfl,_⟩
  ·exact fin none (fun _=>rB.2) (fun j hj=>by cases hj)
  ·exact fin (some .ret) (fun hj=>by cases hj) (fun j hj=>ar2)
  ·exact fin (some (.exit id)) (fun hj=>by cases hj) (fun j hj=>ar2)
  ·exact rB.2.elim
  ·exact rB.2.elim
end Go.V
namespace Go.V
open Go.RowKit
variable {P:Program} {C:Calc} {X:Ctx} {ρ:bX} {σ:Env} {bx:ab} {a:Act} {w:World} {r:Option Nat} {n:Nat}
theorem Mk.marked{S:Nat->Prop}{md ml:Nat}{d:D}{ds:List Deferred}{q:Nat}(h:Mk w S ρ md ml d ds)(Vi:md≠3)(hh:md≠1->ρ.hold q=some (.deferred (some []))/\ml<=q/\kF q∉ds):Mk w S ρ md ml d (kF q::ds):=by
 by_cases mR:md=1
 ·exact .inl mR
 ·obtain⟨h1,h2,h3⟩:=hh mR;exact .inr ⟨.mark h1 h2 h3 (h.resolve_left mR).1,fun h=>absurd h Vi⟩
def Ek(h:aw X ρ σ bx a w)(h3:X.md≠3)(hr:∀l,r=some l->X.md=1/\∃rc,X.r0.hold l=some (.loop rc)/\¬X.E l)(fn:FuncId)(ps:Array Tmp)(assign body:Code):
 ∃l mark df w1 ρ2,(Instr.enterLoop fn a.tmps ps assign body r).run P w= .ok (l,mark) w1/\aw X ρ2 σ bx {a with defers:=mark++a.defers} w1/\ρ2.at_=ρ.at_/\Below w.heap.size w w1/\
  ρ2.hold l=some (.loop ⟨.ready,none,fn,a.tmps,ps,assign,body,df⟩)/\X.w0.heap.size<=l:=by
 cases r with
 |none=>
  have h1:=h.D0 (o:=.deferred (some [])) rfl;have h2:=h1.D0 (o:=.loop ⟨.ready,none,fn,a.tmps,ps,assign,body,w.heap.size⟩) rfl;refine⟨_,_,w.heap.size,_,_,run_enterLoop_outer fn _ ps _ _,h2.switch h2.size (h2.marks.marked h3 fun mR=>⟨awP,adz h.sP h.fr.size,fun SS=>?_⟩) h2.tmps,rfl,((afY _ w).alloc (aaN _) _).alloc sI _,awP,?_⟩
  ·have hm:=(h.marks.resolve_left mR).1;have:=(aaW.1 (h.hold _ _ (hm.mem _ SS)).1).1;exact awO
  ·have:=h.fr.size;exact awO
 |some l0=>
  obtain⟨_,rc,h0,hE⟩:=hr l0 rfl;have jX:=(h.hold l0 _ (h.gB l0 _ h0 hE)).1;have h2:=h.D0 (o:=.loop ⟨.ready,none,fn,a.tmps,ps,assign,body,rc.defers⟩) rfl;refine⟨w.heap.size,[],rc.defers,_,_,?_,h2,rfl,(afY _ w).alloc (aaN _) _,awP,h.fr.size⟩;simp_all[Instr.enterLoop,run_getLoop]
def Ow{g:Operand}{ps:Array Tmp}{assign body:Code}(hA:Sound P assign)(hB:Sound P body){Qd:DX->Env->ab->Prop}{Q:Exit->Act->World->Prop}(hG:Good P C X)(hr:∀l,r=some l->X.md=1/\∃rc,X.r0.hold l=some (.loop rc)/\¬X.E l)
 (bm:dH C.tab X.N (.rangeFunc g ps assign body)=true) (h:aw X ρ σ bx a w) {f:FuncId} {t e:Nat} {b:Bx} {items:List (List D)} {pd:Option D} {ext:Nat} (xa:DZ C.lo C.aN ext C.yl) {J:Nat->ab->Prop}
 (hg:ev σ g= .fn (.func f) [.loc t e 0 0]) (Kl:t<C.aN) (Ew:C.lo<=t) (Gz:bx t=⟨e,1,b.sz,b.ty,b.es⟩) (hit:C.o.CJ f b items pd ext) (QI:J 0 (bg C.aN (ah bx t {bx t with k:=0})))
 (oJ:∀n it bx1,items[n]? =some it->J n (bg C.aN bx1)->it.length=ps.size/\
  cR P ⟨C.o,C.tab,C.base,C.aN+ext,C.lo,C.yl,false,false⟩ assign (dK (cR P ⟨C.o,C.tab,C.base,C.aN+ext,C.lo,C.yl,false,false⟩ body (qC C.aN ext J n Qd σ bx1)) KC) (kp σ ps.toList it) bx1)
 (yz:∀bx1,J items.length (bg C.aN bx1)->C_ Qd σ bx1 pd)
 (hQ:∀e e' σ' bx' a' w' ρ',XR w' (ay X ρ' bx' w') ρ' e e'->Qd e σ' bx'->aw X ρ' σ' bx' a' w'->Q e' a' w'):(Code.rangeFunc g ps assign body).wpIn (Fw r) n P Q a w:=by
 simp only[dH,aas,aaI,aaH]at bm;have VJ:=h.ev g;rw[hg]at VJ;obtain⟨vs,kY,oK,hv⟩:=VJ.zA;obtain⟨u,rfl⟩:∃u,vs= #[u]:=by
  obtain⟨l⟩:=vs
  match l,oK with
  |[u],_=>grind
 have hu:aG w (ay X ρ bx w) ρ (.loc t e 0 0) u:=hv 0 _ u rfl rfl;obtain⟨p,hp,rfl⟩:=hu.mH;refine wpIn_rangeFunc fun fn _=>?_;obtain⟨l,mark,df,w1,ρ2,he,h2,iu,hb,hl,mG⟩:=Ek (P:=P) h (fun h3=>hG.CJ h3 _ _ _ _ _ hit) hr fn ps assign body;obtain⟨E,Em,QG,Gx,BD,GX⟩:=hG.RW;have tP:X.r0.hold l=none:=by
  cases h0:X.r0.hold l with
  |none=>rfl
  |some o=>have:=h.lU l o h0;exact awO
 have Cy:¬E l:=fun h=>awN
 have Cw:X.lo<=C.aN:=avn
 have Vn:aw X.free ρ2 σ (ah bx (C.aN+1) {bx (C.aN+1)with k:=0}) {a with defers:=mark++a.defers} w1:=h2.free.less fun s=>by
  by_cases e:s=C.aN+1
  ·subst e;exact .inr ⟨aes _,awx,awx,by simp[ah,lv0],awx⟩
  exact awg
 have pR:t≠C.aN+1:=oM;have aeR:ah bx (C.aN+1) {bx (C.aN+1)with k:=0} t=⟨e,1,b.sz,b.ty,b.es⟩:=awg
 obtain⟨ρ3,h3,_,hmv,wh⟩:=Vn.Rx rfl pR (by rw[aeR]) awx (fun _=>false);have zl:jR t (C.aN+1) (fun _=>false) (ah bx (C.aN+1) {bx (C.aN+1)with k:=0}) (C.aN+1)=⟨(bx (C.aN+1)).ep+1,1,b.sz,b.ty,b.es⟩:=by
  unfold jR;rw[aaO rfl,aeR];exact awx
 have IC:bg C.aN (jR t (C.aN+1) (fun _=>false) (ah bx (C.aN+1) {bx (C.aN+1)with k:=0}))=bg C.aN (ah bx t {bx t with k:=0}):=j5 fun s hs=>by grind [jR,ah]
 have LF:bg X.lo (jR t (C.aN+1) (fun _=>false) (ah bx (C.aN+1) {bx (C.aN+1)with k:=0}))=bg X.lo bx:=j5 fun s hs=>by
  have:=hG.lo
  grind [jR,ah]
 have hp3:ρ3 (C.aN+1) ((bx (C.aN+1)).ep+1)=some p:=awg
 generalize jR t (C.aN+1) (fun _=>false) (ah bx (C.aN+1) {bx (C.aN+1)with k:=0})=jD at h3 zl IC LF;rw[<-IC]at QI;have VK:ρ3.hold l=some (.loop ⟨.ready,none,fn,a.tmps,ps,assign,body,df⟩):=awN
 have hI:=hG.ok.CJ f b items pd ext hit X.free ρ3 σ jD _ w1 l (qS l E) C.aN ((bx (C.aN+1)).ep+1) ⟨.ready,none,fn,a.tmps,ps,assign,body,df⟩ (.pointer (some ⟨p.b,0 * p.sz+0,none⟩)) (JY X.lo X.Y J) (JxY X.lo X.Y (L2 C.aN Qd σ)) h3 rfl VK ⟨.inl rfl,mG,tP,fun k hk=>hk.imp id (Em k),fun k hk=>hk.elim (fun e:k=l=>⟨_,e▸VK⟩) fun hk=>by rw[wh];exact Gx _ _ h2.inv k hk,fun n c h h' hj hh=>⟨hj.1,BD _ _ _ hj.2 fun k hk=>hh k (.inr hk)⟩,fun n c h h' hj hh=>⟨hj.1,BD _ _ _ hj.2 fun k hk=>hh k (.inr hk)⟩⟩ zl (.loc hp3 rfl) ⟨QI,by rw[fE Cw,LF,wh];exact h2.inv⟩
  (Di hA hB (a:={a with defers:=mark++a.defers}) hG h2 xa tP mG ⟨Em,QG,Gx,BD⟩ GX ⟨bm.1.1,bm.1.2,bm.2⟩ ⟨rfl,rfl,rfl,rfl,rfl,rfl⟩ oJ)
 obtain⟨VA,Nn⟩:=hI;refine⟨l,mark,w1,{target:=.fn (.func f) #[.pointer (some ⟨p.b,0 * p.sz+0,none⟩)],args:= #[.func (.yield l) #[] #[]]},w1,f,_,w1,he,by
  simp only[resolve,rangeCall,alc,abk,aex];rw[kY];rfl,fun _ _=>trivial,VA,fun h=>au7,Al (Calls.mono Nn ?_)⟩
 rintro e w' (⟨v,ρ',bx',rfl,h',hJ⟩|⟨d,v,ρ',bx',hpd,rfl,h',gR,hJ,hY⟩)
 ·have zt:∀rc,ρ'.hold l=some (.loop rc)->w'.heap[l]? =some (.loop rc):=fun rc hh=>(h'.hold l _ hh).1;have setl:∀rc o',ρ'.hold l=some (.loop rc)->X.Y (bg X.lo (bg C.aN bx')) ρ'.hold->aw X ⟨ρ'.at_,fun k=>if k=l then some (.loop o')else ρ'.hold k⟩ σ bx' {a with defers:=mark++a.defers} (w'.putObj l (.loop o')):=fun rc o' hh hy=>by
   exact AT
  rcases hJ with⟨hn,hh,hJ,hY⟩|⟨jump,hh,hJ,hY⟩
  ·have hq:=yz bx' hJ;rw[hn]at hq;exact⟨none,_,run_endLoop (zt _ hh) sI,hQ .normal .normal _ _ _ _ _ trivial hq (setl _ _ hh hY)⟩
  ·refine⟨some jump,_,run_endLoop (zt _ hh) sI,?_⟩;cases jump with
   |ret=>exact wpIn_ret (hQ .ret .ret _ _ _ _ _ trivial (hJ bx' rfl) (setl _ _ hh hY))
   |exit id=>exact wpIn_exit (hQ (.exit id) (.exit id) _ _ _ _ _ rfl (hJ bx' rfl) (setl _ _ hh hY))
   |_=>exact hJ.elim
 ·have hq:=yz bx' hJ;rw[hpd]at hq;rw[fE Cw]at hY;exact hQ (.cd d) (.panic [pe v]) _ _ _ _ _ ⟨v,rfl,gR⟩ hq (h2.Dw h' hY)
def PH{g:Operand}{ps:Array Tmp}{assign body:Code}(hA:Sound P assign)(hB:Sound P body):Sound P (.rangeFunc g ps assign body):=by
 intro r n C X Qd Q ρ σ bx a w hG hr bm h hc hQ;obtain⟨f,caps,items,ext,hg,hp,hit,xa,J,QI,oJ,yz⟩|⟨f,t,e,b,items,pd,ext,hg,Kl,Ew,Gz,hit,xa,J,QI,oJ,yz⟩:=hc
 case inr=>exact Ow hA hB hG hr bm h xa hg Kl Ew Gz hit QI oJ yz hQ
 simp only[dH,aas,aaI,aaH]at bm;have VJ:=h.ev g;rw[hg]at VJ;obtain⟨vs,kY,oK,hv⟩:=VJ.zA;refine wpIn_rangeFunc fun fn _=>?_;obtain⟨l,mark,df,w1,ρ2,he,h2,iu,hb,hl,mG⟩:=Ek h (fun h3=>hG.it h3 _ _ _ _ hit) hr fn ps assign body;obtain⟨E,Em,QG,Gx,BD,GX⟩:=hG.RW;have tP:X.r0.hold l=none:=by
  cases h0:X.r0.hold l with
  |none=>rfl
  |some o=>have:=h.lU l o h0;exact awO
 have Cy:¬E l:=fun h=>awN
 have Cw:X.lo<=C.aN:=by
  have:=hG.lo;unfold DZ at xa
  exact awN
 have hI:=hG.ok.it f caps items ext hit X.free ρ2 σ bx _ w1 l (qS l E) C.aN ⟨.ready,none,fn,a.tmps,ps,assign,body,df⟩ vs (JY X.lo X.Y J) (JxY X.lo X.Y (L2 C.aN Qd σ)) h2.free rfl hl ⟨.inl rfl,mG,tP,fun k hk=>hk.imp id (Em k),fun k hk=>hk.elim (fun e:k=l=>⟨_,e▸hl⟩) fun hk=>Gx _ _ h2.inv k hk,fun n c h h' hj hh=>⟨hj.1,BD _ _ _ hj.2 fun k hk=>hh k (.inr hk)⟩,fun n c h h' hj hh=>⟨hj.1,BD _ _ _ hj.2 fun k hk=>hh k (.inr hk)⟩⟩ oK (fun i x v hx cq=>((hv i x v hx cq).fw (ye _ hp i x hx)).mono (fun b dQ=>hb.block b dQ.1) (fun b dQ=>⟨aeD dQ.1 hb.size,dQ.2.1,by rw[iu];exact dQ.2.2⟩)) ⟨QI,by rw[fE Cw];exact h2.inv⟩
  (Di hA hB (a:={a with defers:=mark++a.defers}) hG h2 xa tP mG ⟨Em,QG,Gx,BD⟩ GX ⟨bm.1.1,bm.1.2,bm.2⟩ ⟨rfl,rfl,rfl,rfl,rfl,rfl⟩ oJ)
 obtain⟨VA,Nn⟩:=hI;refine⟨l,mark,w1,{target:=.fn (.func f) vs,args:= #[.func (.yield l) #[] #[]]},w1,f,_,w1,he,by
  simp only[resolve,rangeCall,alc,abk,aex];rw[kY];rfl,fun _ _=>trivial,VA,fun h=>au7,Al (Calls.mono Nn ?_)⟩
 rintro e w' ⟨v,ρ',bx',rfl,h',hJ⟩;have zt:∀rc,ρ'.hold l=some (.loop rc)->w'.heap[l]? =some (.loop rc):=fun rc hh=>(h'.hold l _ hh).1;have setl:∀rc o',ρ'.hold l=some (.loop rc)->X.Y (bg X.lo (bg C.aN bx')) ρ'.hold->aw X ⟨ρ'.at_,fun k=>if k=l then some (.loop o')else ρ'.hold k⟩ σ bx' {a with defers:=mark++a.defers} (w'.putObj l (.loop o')):=fun rc o' hh hy=>by
  exact AT
 rcases hJ with⟨hh,hJ,hY⟩|⟨jump,hh,hJ,hY⟩
 ·exact⟨none,_,run_endLoop (zt _ hh) sI,hQ .normal .normal _ _ _ _ _ trivial (yz bx' hJ) (setl _ _ hh hY)⟩
 ·refine⟨some jump,_,run_endLoop (zt _ hh) sI,?_⟩;cases jump with
  |ret=>exact wpIn_ret (hQ .ret .ret _ _ _ _ _ trivial (hJ bx' rfl) (setl _ _ hh hY))
  |exit id=>exact wpIn_exit (hQ (.exit id) (.exit id) _ _ _ _ _ rfl (hJ bx' rfl) (setl _ _ hh hY))
  |_=>exact hJ.elim
def T6{F:Fence}{n:Nat}{Q:Exit->Act->World->Prop}{c:Code}(h:c.wpIn F n P (Exit.noGoto Q) a w):(Code.scope c).wpIn F n P Q a w:=by
 intro b k cs hro hb hr;have hs:step P (lone (b.atR a (.code (.scope c)::k)) cs w)= .next (lone (b.atR a (.code c:: .inScope c::k)) cs w):=step_lone_go aut
 have dq:∀a w,step P (lone (b.atR a (.inScope c::k)) cs w)= .next (lone (b.atR a k) cs w):=fun a w=>step_lone_go aut
 have h0:(lone (b.atR a (.code (.scope c)::k)) cs w).fenced P F:=fenced_calm hb hr rfl;obtain⟨e,a₁,w₁,hq,yx⟩:=h b _ cs hro hb hr;cases e with
 |normal=>exact⟨.normal,a₁,w₁,hq,.head h0 hs (StepsIn.trans yx (.one (fenced_calm hb hr rfl) (dq _ _)))⟩
 |exit id=>
  have hx:exitTo id (.inScope c::k)=exitTo id k:=by simp[exitTo]
  exact⟨_,a₁,w₁,hq,fun k' hk=> .head h0 hs (yx.1 k' awN),
   fun Kj hk=>let ⟨k₁,h1,h2⟩:=yx.2 Kj awN;⟨k₁,h1,.head h0 hs h2⟩⟩
 |goto l=>exact hq.elim
 |ret=>exact⟨_,a₁,w₁,hq,.of_steps (.one h0 hs) yx⟩
 |panic ch=>exact⟨_,a₁,w₁,hq,.of_steps (.one h0 hs) yx⟩
 |outgrown=>exact⟨_,a₁,w₁,hq,.of_steps (.one h0 hs) yx⟩
theorem aG.V6{S:Nat->Prop}{v:Value}(h:aG w S ρ .jd v):∃b,v= .bool b:=by
 cases h with
 |pure h=>cases h<;>grind
theorem dV(hm:P.follows .mixedOrders=true):∀(c:Code),Sound P c
 | .skip=>fun r n C X Qd Q ρ σ bx a w hG hr bm h hc hQ=>wpIn_skip (hQ .normal .normal _ _ _ _ _ trivial hc h)
 | .label _=>fun r n C X Qd Q ρ σ bx a w hG hr bm h hc hQ=>wpIn_label (hQ .normal .normal _ _ _ _ _ trivial hc h)
 | .exit id=>fun r n C X Qd Q ρ σ bx a w hG hr bm h hc hQ=>wpIn_exit (hQ (.exit id) (.exit id) _ _ _ _ _ rfl hc h)
 | .ret=>fun r n C X Qd Q ρ σ bx a w hG hr bm h hc hQ=>wpIn_ret (hQ .ret .ret _ _ _ _ _ trivial hc h)
 | .seq x y=>fun r n C X Qd Q ρ σ bx a w hG hr bm h hc hQ=>by
   simp only[dH,aas]at bm;refine wpIn_seq (dV hm x r n C X _ _ ρ σ bx a w hG hr bm.1 h hc fun e e' σ' bx' a' w' ρ' hx hq h'=>?_);rcases hx.cases with⟨rfl,rfl⟩|⟨rfl,rfl⟩|⟨_,rfl,rfl⟩|⟨_,rfl,rfl⟩|⟨_,_,rfl,rfl,_⟩
   ·exact dV hm y r n C X _ _ ρ' σ' bx' a' w' hG hr bm.2 h' hq hQ
   all_goals exact hQ _ _ _ _ _ _ _ hx hq h'
 | .cond c x y=>fun r n C X Qd Q ρ σ bx a w hG hr bm h hc hQ=>by
   simp only[dH,aas]at bm;have hcv:=h.ev c;simp only[cR]at hc;cases hd:ev σ c with
   |bool t=>
    rw[hd]at hc hcv;refine wpIn_cond hcv.kA ?_;cases t with
    |true=>exact dV hm x r n C X _ _ ρ σ bx a w hG hr bm.1 h hc hQ
    |false=>exact dV hm y r n C X _ _ ρ σ bx a w hG hr bm.2 h hc hQ
   |jd=>
    rw[hd]at hc hcv;obtain⟨b,hb⟩:=hcv.V6;refine wpIn_cond hb ?_;cases b with
    |true=>exact dV hm x r n C X _ _ ρ σ bx a w hG hr bm.1 h hc.1 hQ
    |false=>exact dV hm y r n C X _ _ ρ σ bx a w hG hr bm.2 h hc.2 hQ
   |_=>rw[hd]at hc;exact hc.elim
 | .block id c=>fun r n C X Qd Q ρ σ bx a w hG hr bm h hc hQ=>by
   refine wpIn_block (dV hm c r n C X _ _ ρ σ bx a w hG hr bm h hc fun e e' σ' bx' a' w' ρ' hx hq h'=>?_);rcases hx.cases with⟨rfl,rfl⟩|⟨rfl,rfl⟩|⟨Kn,rfl,rfl⟩|⟨_,rfl,rfl⟩|⟨_,_,rfl,rfl,_⟩
   rotate_left 2
   ·simp only[uO]at hq;simp only[Exit.inBlock];split at hq
    ·rename_i he;rw[aaO he];exact hQ .normal .normal _ _ _ _ _ trivial hq h'
    exact awN
   all_goals exact hQ _ _ _ _ _ _ _ hx hq h'
 | .loop c=>fun r n C X Qd Q ρ σ bx a w hG hr bm h hc hQ=>by
   obtain⟨I,μ,h0,hl⟩:=hc;refine wpIn_loop_ghost (fun m a w=>∃ρ σ bx,aw X ρ σ bx a w/\I σ bx/\μ σ bx=m) (μ σ bx) ⟨ρ,σ,bx,h,h0,rfl⟩ ?_;rintro m a w ⟨ρ,σ,bx,h,hI,rfl⟩;obtain⟨bx0,aiq,jX⟩:=hl σ bx hI;have h0:aw X ρ σ bx0 a w:=by
    rcases aiq with rfl|⟨bC,s,es,hk,ho,rfl⟩
    ·exact h
    ·exact h.Wk avn hk ho
   refine dV hm c r n C X _ _ ρ σ bx0 a w hG hr bm h0 jX fun e e' σ' bx' a' w' ρ' hx hq h'=>?_;rcases hx.cases with⟨rfl,rfl⟩|⟨rfl,rfl⟩|⟨_,rfl,rfl⟩|⟨_,rfl,rfl⟩|⟨_,_,rfl,rfl,_⟩
   ·exact⟨_,hq.2,ρ',σ',bx',h',hq.1,rfl⟩
   all_goals exact hQ _ _ _ _ _ _ _ hx hq h'
 | .region id ops draw=>fun r n C X Qd Q ρ σ bx a w hG hr bm h hc hQ=>by
   simp only[dH,aas,aaI]at bm;obtain⟨bV,bm⟩:=bm;have bV:∀o∈ops.toList,∀t,o.dst=some t->t<X.N:=fun o ho t ht=>awN
   cases draw with
   |false=>
    simp only[cR]at hc;refine wpIn_region ?_;have:=Tn (r:=r) (n:=n) (Q:=Q) hG (fun l hl=>(hr l hl).1) bV (K:=fun acc σ' bx'=>yJ Qd acc σ' bx') (fun acc σ' bx' a' w' ρ' vz hK h'=>hQ .normal .normal _ _ _ _ _ trivial (by
     cases acc with
     |nil=>exact hK
     |cons c l=>cases c<;>first|exact hK|grind) h') (fun d acc σ' bx' a' w' ρ' v hK h' Kj=>hQ (.cd d) (.panic [pe v]) _ _ _ _ _ ⟨v,rfl,Kj⟩ hK h') (mj C.tab (4000000+id)) ops.toList [] [] ρ σ bx a w rfl awN h hc
    grind [List.range_eq_range']
   |true=>
    simp only[cR,qg]at hc;refine wpIn_region_any hm ?_;split at hc
    ·obtain⟨ts,s,t,hfz,hot,bI⟩:=hc;have h:=yt hG.lo ts h hfz;simp only[EE,aas]at hot;refine W8 rfl rfl rfl hot.1 hG.dra (fun l hl=>(hr l hl).1) bV (fun σ bx a' w' ρ' hq h'=>hQ .normal .normal _ _ _ _ _ trivial hq h') (fun d σ' bx' a' w' ρ' v hp h' Kj=>hQ (.cd d) (.panic [pe v]) _ _ _ _ _ ⟨v,rfl,Kj⟩ (hp σ') h') _ _ t ρ s.1 s.2 a _ sI ?_ ?_ ?_ bI (h.ext ⟨rfl,rfl,rfl,aaN _,fun _ _=>rfl⟩)
     ·exact awN
     ·intro k o _ hL;exact au8
     ·have:(fun j=>(Array.replicate ops.size false).getD j false)=fun _=>false:=au8
      exact awN
    rename_i VO;simp only[aaX,Bool.false_or,akD,VO,false_or]at bm;split at hc
    ·rename_i BG;rw[aaO BG]at bm;simp only[aas]at bm;obtain⟨Y3,afg,afh⟩:=bm;have bh:ops.toList≠[]:=fun e=>by rw[e]at Y3;cases Y3
     obtain⟨pre,o1,e1,e2,e3,e4⟩:=Gh bh;rw[e3]at Y3;unfold LI at hc;rw[e2]at afg afh hc;obtain⟨cs,vs,σs,bs,VZ,mD,iu,QL,bI⟩:=AV (C:=C.wN) (fun _ _ _ _ _ _ hf=>hf) rfl rfl rfl _ _ _ _ hc;have hR:=W5 (C:=C.wN) (id:=id) (tab:=C.tab) afh rfl awN iu;have hlen:(pre++[mh o1]).length=pre.length+1:=awP
     rw[e4,hlen]at bI;have QN:=iu pre.length (mh o1) sI;have hσ1:σs (pre.length+1)=σs pre.length:=QN.1;have gN:bs (pre.length+1)=bs pre.length:=funext fun s=>QN.2.same s (QN.2.Wb (by show(0:Nat)≠2;decide) s);rw[hσ1,gN]at bI;have Cz:∀j,j<pre.length->ordered (Region.before (pre++[mh o1]).toArray) j pre.length=true:=fun j hj=>by
      have:=aaI.1 afg j (af_.2 awN)
      exact awN
     subst VZ;subst mD;refine S3 e1 awy hR hG.wN hG.dra (fun l hl=>(hr l hl).1) bV Cz bI (fun σ bx a' w' ρ' hq h'=>hQ .normal .normal _ _ _ _ _ trivial hq h') (fun d σ' bx' a' w' ρ' v hp h' Kj=>hQ (.cd d) (.panic [pe v]) _ _ _ _ _ ⟨v,rfl,Kj⟩ hp h') _ _ ρ (σs 0) (bs 0) a _ sI ?_ ?_ ⟨fun i o ho hL=>?_,fun j hj=>?_,fun t=> .inr ⟨fun j hj=>?_,rfl⟩,fun s=> .inr ⟨fun j hj=>?_,rfl⟩⟩ (h.ext ⟨rfl,rfl,rfl,aaN _,fun _ _=>rfl⟩)
     ·simp[Array.getD]
     ·exact awN
     all_goals
      exact au8
    rename_i BG;rw[aaw BG]at bm;obtain⟨cs,vs,σs,bs,VZ,mD,iu,QL,hQd⟩:=AV (C:=C.wN) (fun _ _ _ _ _ _ hf=>hf) rfl rfl rfl _ _ _ _ hc;have hR:=W5 (C:=C.wN) (id:=id) (tab:=C.tab) awN rfl awN iu;subst VZ;subst mD;refine Ug hR hG.wN (fun l hl=>(hr l hl).1) bV (fun a' w' ρ' h'=>hQ .normal .normal _ _ _ _ _ trivial hQd h') _ _ ρ (σs 0) (bs 0) a _ sI ?_ ⟨fun i o ho hL=>?_,fun j hj=>?_,fun t=> .inr ⟨fun j hj=>?_,rfl⟩,fun s=> .inr ⟨fun j hj=>?_,rfl⟩⟩ (h.ext ⟨rfl,rfl,rfl,aaN _,fun _ _=>rfl⟩)
    ·exact awN
    all_goals
     exact au8
 | .rangeFunc g ps assign body=>PH (dV hm assign) (dV hm body)
 | .scope c=>fun r n C X Qd Q ρ σ bx a w hG hr bm h hc hQ=>by
   refine T6 (dV hm c r n C X _ _ ρ σ bx a w hG hr bm h hc fun e e' σ' bx' a' w' ρ' hx hq h'=>?_);rcases hx.cases with⟨rfl,rfl⟩|⟨rfl,rfl⟩|⟨_,rfl,rfl⟩|⟨_,rfl,rfl⟩|⟨_,_,rfl,rfl,_⟩
   rotate_left 3
   ·exact hq.elim
   all_goals exact hQ _ _ _ _ _ _ _ hx hq h'
 | .goto _=>fun r n C X Qd Q ρ σ bx a w hG hr bm h hc hQ=>hc.elim
 | .refuse _=>fun r n C X Qd Q ρ σ bx a w hG hr bm h hc hQ=>hc.elim
end Go.V
namespace Go.V
open Go.RowKit
variable {P:Program} {C:Calc} {X:Ctx} {ρ:bX} {σ:Env} {bx:ab} {a:Act} {w:World} {r:Option Nat} {n:Nat}
def zS(tmps:Array Value):ResultVar->Sem Value
 | .tmp t=>pure (tmps.getD t undef)
 | .cell a t=>do loadVar t (<-asAddr (tmps.getD a undef))
theorem K5(h:aw X ρ σ bx a w):∀(rv:List ResultVar) (rs:List D),jz P σ bx rv=some rs->∃vs:List Value,(rv.mapM (zS a.tmps)).run P w= .ok vs w/\vs.length=rs.length/\∀(i:Nat) d v,rs[i]? =some d->vs[i]? =some v->aG w (ay X ρ bx w) ρ d v
 |[],rs,hr=>by simp_all[jz]
 |x::rv,rs,hr=>by
  obtain⟨y,ys,h1,h2,rfl⟩:=rm hr;obtain⟨vs,g1,g2,g3⟩:=K5 h rv ys h2;have hx:∃v,(zS a.tmps x).run P w= .ok v w/\aG w (ay X ρ bx w) ρ y v:=by
   cases x with
   |tmp t=>
    simp[yK,aaM]at h1;subst h1;exact⟨_,by simp_all[zS],h.tmps t⟩
   |cell t T=>
    obtain⟨ad,v,k1,k2,k3⟩:=EA h (h.tmps t) h1
    grind [zS,asAddr]
  obtain⟨v,k1,k2⟩:=hx;refine⟨v::vs,awy,by simp[g2],fun i d u hd hu=>?_⟩
  exact awN
def vD(h:aw X ρ σ bx a w){fn:Func}{rs:List D}(hr:jz P σ bx fn.results.toList=some rs):∃v,(results fn a.tmps).run P w= .ok v w/\aG w (ay X ρ bx w) ρ (mL rs) v:=by
 obtain⟨vs,g1,g2,g3⟩:=K5 h _ _ hr;have bZ:(results fn a.tmps).run P w= .ok (if h:vs.toArray.size=1 then vs.toArray[0]else .tuple vs.toArray) w:=by
  have e:results fn a.tmps=(fn.results.mapM (zS a.tmps)>>=fun vs=>pure (if h:vs.size=1 then vs[0]else .tuple vs)):=by
   unfold results
   congr 1
  grind [Sem.run_bind,Array.mapM_eq_mapM_toList,Sem.run_map,Result.andThen_ok,Sem.run_pure]
 refine⟨_,bZ,?_⟩
 match rs,vs,g2,g3 with
 |[],[],_,_=>exact .aL rfl (fun i d v hd=>awP)
 |[d],[v],_,g3=>exact g3 0 d v rfl rfl
 |d1::d2::ds,v1::v2::vs,g2,g3=>
  exact .aL awN (fun i d v hd hv=>g3 i d v hd awN)
theorem Ae:∀(ds:List D) (k t:Nat),aM k ds t=if t<k then .raw undef else(ds[t - k]?).getD (.raw undef)
 |[],k,t=>by simp[aM]
 |d::ds,k,t=>by
  simp[aM,ah];by_cases h:t=k
  ·exact awN
  ·rw[Ae ds _ t]
   exact awN
theorem aw.abf(h:aw X ρ σ bx a w)(mR:X.md=0){d:Deferred}{ds:List Deferred}(hd:a.defers=d::ds):∃r,d=kF r/\ρ.hold r=some (.deferred (some [])):=by
 have hm:=(h.marks.resolve_left oM).1;rw[aaO mR,hd]at hm;cases hm<;>grind
theorem uF{fn:Func}{rs:List D}(bC:X.lo=0)(vR:X.ml=X.w0.heap.size)(mR:X.md=0){R:Ending->World->Prop}:∀(ds:List Deferred) (a:Act) (ρ:bX) (w:World),a.defers=ds->aw X ρ σ bx a w->jz P σ bx fn.results.toList=some rs->
 (∀ρ' w' v,aw X ρ' σ bx {a with defers:=[]} w'->(∀b o,ρ.hold b=some o->o≠ .deferred (some [])->ρ'.hold b=some o)->aG w' (ay X ρ' bx w') ρ' (mL rs) v->R (.returned v) w')->LeavesInM Fence.wide n P fn a.tmps R ds .returning w
 |[],a,ρ,w,hd,h,hr,hR=>by
  obtain⟨v,g1,g2⟩:=vD h hr;exact⟨v,g1,hR ρ w v (h.switch h.size (.nil (.inl mR)) h.tmps) (fun _ _ h _=>h) g2⟩
 |d::ds,a,ρ,w,hd,h,hr,hR=>by
  obtain⟨r,rfl,hh⟩:=h.abf mR hd;have hw:=(h.hold r _ hh).1;obtain⟨ρ',h',hk⟩:=h.take hd vR oM (rM w r _) (World.putObj_heap_same (aaW.1 hw).1) bC;refine⟨awP,.inl ⟨r,_,rfl,run_takeDeferred hw,?_⟩⟩;exact uF bC vR mR ds {a with defers:=ds} _ _ rfl h' hr fun ρ2 w2 v g1 g2 g3=>hR _ w2 v g1 (fun b o ho cH=>g2 b o (hk b o ho cH) cH) g3
theorem AE{fn:Func}(bC:X.lo=0)(vR:X.ml=X.w0.heap.size)(mR:X.md=0){chain:List PanicEntry}{d0:D}{v0:Value}{R:Ending->World->Prop}:∀(ds:List Deferred) (a:Act) (ρ:bX) (w:World),a.defers=ds->aw X ρ σ bx a w->aG w (ay X ρ bx w) ρ d0 v0->
 (∀ρ' w',aw X ρ' σ bx {a with defers:=[]} w'->(∀b o,ρ.hold b=some o->o≠ .deferred (some [])->ρ'.hold b=some o)->aG w' (ay X ρ' bx w') ρ' d0 v0->R (.panicked chain) w')->LeavesInM Fence.wide n P fn a.tmps R ds (.panicking chain) w
 |[],a,ρ,w,hd,h,hr,hR=>hR ρ w (h.switch h.size (.nil (.inl mR)) h.tmps) (fun _ _ h _=>h) hr
 |d::ds,a,ρ,w,hd,h,hr,hR=>by
  obtain⟨r,rfl,hh⟩:=h.abf mR hd;have hw:=(h.hold r _ hh).1;obtain⟨ρ',h',hk,VY⟩:=h.TR hd vR oM (rM w r _) (World.putObj_heap_same (aaW.1 hw).1) bC;refine⟨awP,.inl ⟨r,_,rfl,run_takeDeferred hw,?_⟩⟩;exact AE bC vR mR ds {a with defers:=ds} _ _ rfl h' (VY _ _ hr) fun ρ2 w2 g1 g2 g3=>hR _ w2 g1 (fun b o hb cH=>g2 b o (hk b o hb cH) cH) g3
def Wc{fn:Func}(bC:X.lo=0)(vR:X.ml=X.w0.heap.size)(mR:X.md=0){chain:List PanicEntry}{d0:D}{v0:Value}{R:Ending->World->Prop}(ds:List Deferred)(a:Act)(ρ:bX)(w:World)(hd:a.defers=ds)(h:aw X ρ σ bx a w)(hr:aG w (ay X ρ bx w) ρ d0 v0)
 (hR:∀ρ' w',aw X ρ' σ bx {a with defers:=[]} w'->aG w' (ay X ρ' bx w') ρ' d0 v0->R (.panicked chain) w'):LeavesInM Fence.wide n P fn a.tmps R ds (.panicking chain) w:=AE bC vR mR ds a ρ w hd h hr fun ρ' w' g1 _ g3=>hR _ w' g1 g3
def sf{S:Nat->Prop}{ds:List D}{vs:Array Value}{N:Nat}(hl:vs.size=ds.length)(hlen:ds.length<=N)(hv:∀(i:Nat) x v,ds[i]? =some x->vs[i]? =some v->aG w S ρ x v):
 (vs++Array.replicate (N - vs.size) undef).size=N/\∀t,aG w S ρ (aM 0 ds t) ((vs++Array.replicate (N - vs.size) undef).getD t undef):=by
 refine⟨awJ,fun t=>?_⟩;rw[Ae];simp only[ald,aa_,Nat.sub_zero];by_cases ht:t<ds.length
 ·have hva:vs[t]? =some vs[t]:=abd _;have:(vs++Array.replicate (N - vs.size) undef).getD t undef=vs[t]:=by simp_all[akY]
  exact awN
 ·have hd:ds[t]? =none:=akC oM;have:(vs++Array.replicate (N - vs.size) undef).getD t undef=undef:=by
   rw[aeE]
   exact awN
  rw[this,hd];exact .pure (.raw _)
def YE(hm:P.follows .mixedOrders=true){f:FuncId}{fn:Func}{O:ik}{tab:List (Nat×List (Nat×Nat))}{ds:List D}{d:D}(hf:P.funcs[f]? =some fn)
 (dJ:(fn.name== "runtime.NumGoroutine")=false) (hlen:ds.length<=fn.ntmps) (hO:Ok P O) (h:fnD P O tab fn ds d):av P f ds d:=by
 obtain⟨c,hb,bm,hc⟩:=h;obtain⟨hN,bm⟩:fn.ntmps<=eI/\dH tab fn.ntmps c=true:=avq
 intro w S vs hS Ns hl hv;refine .inl ⟨Go.MuLone.run_callFunc_enter hf dJ hb vs w,akG.1 (callsIn_of_wp_marks (F:=Fence.wide) (n:=0) hf hb trivial ?_)⟩;obtain⟨k1,k2⟩:=sf (w:=w) (ρ:=⟨fun _ _=>none,fun _=>none⟩) (S:=fun b=>S b) (N:=fn.ntmps) hl hlen (fun i x v hx cq=> .pure (hv i x v hx cq));have h0:aw ⟨w,S,w.heap.size,fun _=>False,fun _=>False,fn.ntmps,⟨fun _ _=>none,fun _=>none⟩,w.heap.size,0,fun _ _=>True,0⟩ ⟨fun _ _=>none,fun _=>none⟩ (aM 0 ds) (fun _=> .none) {tmps:=vs++Array.replicate (fn.ntmps - vs.size) undef,defers:=[]} w:=
  ⟨.refl _ _,hS,aaN _,fun _ h=>h.elim,fun _ h=>h.elim,k1,.nil (.inl rfl),hN,aaN _,fun t=>(k2 t).mono (fun _ _=>rfl) (fun b hb=>⟨hS b hb,.inl hb,fun t ht=>awN⟩) (fun _ _ _ h=>h),.pure (Ns.mono (fun _ _=>rfl) (fun b hb=>⟨hS b hb,.inl hb,fun t ht=>awN⟩)),fun t ht=>absurd rfl ht.1,fun t t' p p' ht=>awN,(fun t e p hp=>awA),(fun t e p hp=>awA),(fun t e hp=>awA),(fun t e hp=>awA),fun _ _ _ _ _=>trivial,trivial,fun _ _ _=>trivial,(fun t e hp=>awA),⟨fun t ht=>by simp[Bx.none]at ht,fun t t' p p' ht=>awN⟩⟩
 refine dV hm c none 0 ⟨O,tab,0,fn.ntmps,0,none,false,false⟩ _ _ _ _ _ _ _ w ⟨hO,aaN _,aaN _,(Bt rfl fun _ _=>trivial),(fun hf=>awE),(fun hf=>awN),fun hf=>awN⟩ (fun l hl=>awB) bm h0 hc fun e e' σ' bx' a' w' ρ' hx hq h'=>?_;have fin:(aJ (jz P σ' bx' fn.results.toList) fun rs=>aJ (aU bx' (mL rs)) fun r=>bA r d)->LeavesInM Fence.wide 0 P fn a'.tmps (fun e w'=>∃v,e= .returned v/\bP w S d v w') a'.defers .returning w':=by
  intro hq;cases hr:jz P σ' bx' fn.results.toList with
  |none=>rw[hr]at hq;exact hq.elim
  |some rs=>
   rw[hr]at hq;simp only[aJ]at hq;cases ho:aU bx' (mL rs)with
   |none=>grind
   |some x=>
    rw[ho]at hq;refine uF rfl rfl rfl a'.defers a' ρ' w' rfl h' hr fun ρ2 w2 v g1 _ g3=>⟨v,rfl,?_,?_⟩
    ·refine aG.yM hq (pA g1 _ _ v ⟨fun b hb=>?_,fun t _ hk p hp=>?_⟩ g3 ho)
     ·rcases hb.2.1 with h1|h1
      ·exact awN
      ·exact .inr ⟨h1,hb.1⟩
     ·exact aqz
    ·exact⟨g1.fr.os,g1.fr.tape,g1.fr.output,g1.fr.size,fun k hk=>g1.fr.block k hk (fun hm=>hm.elim id id)⟩
 rcases hx.cases with⟨rfl,rfl⟩|⟨rfl,rfl⟩|⟨_,rfl,rfl⟩|⟨_,rfl,rfl⟩|⟨_,_,rfl,rfl,_⟩
 ·exact fin hq
 ·exact fin hq
 all_goals exact hq.elim
def U5(hm:P.follows .mixedOrders=true){f:FuncId}{fn:Func}{O:ik}{tab:List (Nat×List (Nat×Nat))}{base:Nat}{ds:List D}{bx:ab}{Q Qp:D->ab->Prop}(hf:P.funcs[f]? =some fn)
 (dJ:(fn.name== "runtime.NumGoroutine")=false) (hlen:ds.length<=fn.ntmps) (hO:Ok P O) (h:M3 P O tab fn base ds bx Q Qp):az P f base ds bx Q Qp:=by
 obtain⟨c,hb,bm,hc⟩:=h;obtain⟨hN,bm⟩:fn.ntmps<=eI/\dH tab fn.ntmps c=true:=avq
 intro X ρ σ a w vs hS vt hl hv;refine .inl ⟨Go.MuLone.run_callFunc_enter hf dJ hb vs w,akG.1 (callsIn_of_wp_marks (F:=Fence.wide) (n:=0) hf hb trivial ?_)⟩;obtain⟨k1,k2⟩:=sf (N:=fn.ntmps) hl hlen hv;have h0:=hS.sub (E:=fun _=>False) (N:=fn.ntmps) (ml:=w.heap.size) (md:=0) (a':={tmps:=vs++Array.replicate (fn.ntmps - vs.size) undef,defers:=[]}) hN (fun _ h=>h.elim) k1 (.nil (.inl rfl)) (aaN _) k2;refine dV hm c none 0 ⟨O,tab,base,base+fn.ntmps,0,none,true,false⟩ _ _ _ _ _ _ _ w ⟨hO,aaN _,aes _,(Bt rfl fun _ _=>trivial),(fun hf=>awE),(fun hf=>by have:(0:Nat)=3:=hf;omega),fun hf=>by have:(0:Nat)=3:=hf;omega⟩ (fun l hl=>awB) bm h0 hc fun e e' σ' bx' a' w' ρ' hx hq h'=>?_;have fin:(aJ (jz P σ' bx' fn.results.toList) fun rs=>Q (mL rs) bx')->LeavesInM Fence.wide 0 P fn a'.tmps (fun e w'=>(∃v,e= .returned v/\∃d bx' ρ',Q d bx'/\aw X ρ' σ bx' a w'/\aG w' (ay X ρ' bx' w') ρ' d v)\/∃v,e= .panicked [pe v]/\∃d bx' ρ',Qp d bx'/\aw X ρ' σ bx' a w'/\aG w' (ay X ρ' bx' w') ρ' d v) a'.defers .returning w':=by
  intro hq;cases hr:jz P σ' _ _ with
  |none=>rw[hr]at hq;exact hq.elim
  |some rs=>
   rw[hr]at hq;exact uF rfl rfl rfl _ a' _ w' rfl h' hr fun ρ2 w2 v g1 _ g3=> .inl ⟨v,rfl,mL rs,bx',ρ2,hq,hS.back rfl rfl g1 (fun _ h=>h.elim) (fun _ h=>h.elim) (fun _ h=>h.elim) (hS.y0 vt _ _),g3⟩
 rcases hx.cases with⟨rfl,rfl⟩|⟨rfl,rfl⟩|⟨_,rfl,rfl⟩|⟨_,rfl,rfl⟩|⟨d,v,rfl,rfl,hv⟩
 ·exact fin hq
 ·exact fin hq
 ·exact hq.elim
 ·exact hq.elim
 ·exact Wc rfl rfl rfl _ a' _ w' rfl h' hv fun ρ2 w2 g1 g3=> .inr ⟨v,rfl,d,bx',ρ2,hq,hS.back rfl rfl g1 (fun _ h=>h.elim) (fun _ h=>h.elim) (fun _ h=>h.elim) (hS.y0 vt _ _),g3⟩
end Go.V
namespace Go.V
open Go.RowKit
variable {P:Program} {X:Ctx} {ρ:bX} {σ:Env} {bx:ab} {a:Act} {w:World}
def n_(gs l:Nat)(E:Nat->Prop)(rc:Loop)(items:List (List D))(J:Nat->ab->(Nat->Option Obj)->Prop)(Jx:Code->ab->(Nat->Option Obj)->Prop)(c:ab)(h:Nat->Option Obj):Prop:=
 (∀k,E k->∃q,h k=some (.loop q))/\(c gs).k=0/\(((c gs).sz<=items.length/\h l=some (.loop rc)/\J (c gs).sz (bg gs c) h)\/
  ((c gs).sz=items.length+1/\∃jump,h l=some (.loop {rc with state:=.done,pending:=some jump})/\Jx jump (bg gs c) h))
theorem n_.on{gs l:Nat}{E:Nat->Prop}{rc:Loop}{items:List (List D)}{J:Nat->ab->(Nat->Option Obj)->Prop}{Jx:Code->ab->(Nat->Option Obj)->Prop}(hl:E l)(hj:∀n,Bv E (J n))(hjx:∀j,Bv E (Jx j)):Bv E (n_ gs l E rc items J Jx):=by
 rintro c h h' ⟨g0,g1,g2⟩ hh;refine⟨fun k hk=>awN,g1,?_⟩;rcases g2 with⟨k1,k2,k3⟩|⟨k1,jump,k2,k3⟩
 ·exact .inl ⟨k1,awN,hj _ _ _ _ k3 hh⟩
 ·exact .inr ⟨k1,jump,awN,hjx _ _ _ _ k3 hh⟩
theorem Bv.yc{E:Nat->Prop}{Y:ab->(Nat->Option Obj)->Prop}(h:Bv E Y)(hl:∀c h,Y c h->∀k,E k->∃q,h k=some (.loop q)):∀c h h',Y c h->(∀b o,h b=some o->o≠ .deferred (some [])->h' b=some o)->Y c h':=fun c g g' hy hh=>
 h c g g' hy fun k hk=>awN
def ag0{gs l ext:Nat}{E:Nat->Prop}{rc:Loop}{items:List (List D)}{J:Nat->ab->(Nat->Option Obj)->Prop}{Jx:Code->ab->(Nat->Option Obj)->Prop}{Y:Ctx}{C:Calc}(hy:C.yl=some (items,gs,l,gs+ext))(bC:C.lo=gs+1)(hn:C.aN<=gs+ext)(V4:0<ext)(yS:Y.S0=X.S0)(yn:Y.n0=X.n0)(H0:Y.lo=gs+1)(yY:Y.Y=n_ gs l E rc items J Jx)(yE:∀k,E k->Y.E k)(yr:∀k,E k->∃q,Y.r0.hold k=some (.loop q))(hl:E l)(hj:∀n,Bv E (J n))(hjx:∀j,Bv E (Jx j))
 (back:∀ρ' σ' bx' a' w',aw Y ρ' σ' bx' a' w'->aw X ρ' σ bx' a w') (oJ:DE P X l E rc gs ext items J Jx σ a):P6 P C Y:=by
 have cutgs:∀bx:ab,bg (gs+1) bx gs=bx gs:=fun bx=>by simp[bg]
 refine⟨E,yE,yr,fun c h hc k hk=>by rw[yY]at hc;exact hc.1 k hk,by grind [n_.on],fun it2 g2 l2 sO NG=>?_⟩;rw[hy]at NG;simp only[aaM,akX]at NG;obtain⟨rfl,rfl,rfl,rfl⟩:=NG;refine⟨hn,fun Z z1 z2 z3 z4 z5 z6 hi ρ1 σi bxi ai wi us ds hhi hsi oH ke gR=>?_⟩;have hinv:n_ gs l E rc items J Jx (bg (gs+1) bxi) ρ1.hold:=by
  have:=hsi.inv;exact awy
 obtain⟨σ0,a0,h0⟩:=z6 _ _ _ _ _ hsi;have hXi:=back _ _ _ _ _ h0;have au:=(aaL.1 oH).1;obtain⟨gE,g0,g1⟩:=hinv;rw[cutgs]at g0 g1;rcases g1 with⟨g1,g2,g3⟩|⟨g1,_⟩
 ·rw[fE oM]at g3;obtain⟨f2,tm,as,bd,NH,hR⟩:=oJ (bxi gs).sz ds ρ1 bxi wi us oH hXi g2 g3 ke (fun i x v hx cq=>by
   have:=gR i x v hx cq;have e:ay Z ρ1 bxi wi=ay X ρ1 bxi wi:=by grind [ay]
   grind)
  refine⟨f2,tm,as,bd,NH,fun m=>(hR m).mono ?_⟩;rintro e w2 ⟨ρ2,aT,b,rfl,q1,q2,qE,q4⟩;refine⟨ρ2,aT,b,rfl,?_⟩;have VG:aT gs=bxi gs:=q1 gs (aaN _) oM;have ank:CX C.lo hi bxi aT=aT:=by
   funext s;unfold CX
   exact awN
  show aw _ ρ2 σi (ah (CX C.lo hi bxi aT) gs _) ai w2;rw[ank];have LF:∀b',bg gs (ah aT gs b')=bg gs aT:=fun b'=>j5 fun s hs=>awg
  have hP:n_ gs l E rc items J Jx (bg (gs+1) (ah aT gs {bxi gs with sz:=if b=true then(bxi gs).sz+1 else items.length+1})) ρ2.hold:=by
   refine⟨qE,awg,?_⟩;rw[cutgs,fE oM,LF];simp only[ah,abo]
   exact awN
  have hZf:aw Z.free ρ2 σi aT ai w2:=q2 Z.free σi ai (z1.trans yS) (z2.trans yn) z5 hsi.free trivial;have h4:aw Z.free ρ2 σi (ah aT gs {bxi gs with sz:=if b=true then(bxi gs).sz+1 else items.length+1}) ai w2:=hZf.less fun s=>by
   by_cases e:s=gs
   ·subst e;exact .inr ⟨aes _,by simp[ah,g0],by simp[ah,VG],by simp[ah,g0,lv0],by simp[ah,g0]⟩
   exact awg
  exact hsi.Dw h4 awy
 ·exact awO
def Gn(hm:P.follows .mixedOrders=true){f:FuncId}{fn:Func}{O:ik}{tab:List (Nat×List (Nat×Nat))}{b:Bx}{items:List (List D)}{pd:Option D}{ext:Nat}(hf:P.funcs[f]? =some fn)
 (dJ:(fn.name== "runtime.NumGoroutine")=false) (hlen:2<=fn.ntmps) (hO:Ok P O) (h:SC P O tab fn b items pd ext):xH P f b items pd ext:=by
 obtain⟨xa,c,hb,bm,Az,hc⟩:=h;obtain⟨hN,bm⟩:fn.ntmps<=eI/\dH tab fn.ntmps c=true:=avq
 intro X ρ σ bx a w uR E gs ep rc u J Jx;intro hS vt hl hL hbo hu hJ oJ;have Vn:aw X ρ σ (ah bx gs {bx gs with k:=0,sz:=0}) a w:=hS.less fun s=>by grind [ah,lv0]
 have IC:bg gs (ah bx gs {bx gs with k:=0,sz:=0})=bg gs bx:=j5 fun s hs=>awg
 have bI:∀b,ay X ρ bx w b->ay X ρ (ah bx gs {bx gs with k:=0,sz:=0}) w b:=fun b dQ=>⟨dQ.1,dQ.2.1,fun t ht p hp=>by
  by_cases e:t=gs
  ·exact awg
  ·simp only[ah,e,aa_]at ht hp;exact dQ.2.2 t ht p hp⟩
 have aeQ:ah bx gs {bx gs with k:=0,sz:=0} (gs+1)=⟨ep,1,b.sz,b.ty,b.es⟩:=awg
 have hu1:=hu.mono (w':=w) (S':=ay X ρ (ah bx gs {bx gs with k:=0,sz:=0}) w) (ρ':=ρ) (fun _ _=>rfl) bI (fun _ _ _ h=>h);generalize gV:ah bx gs {bx gs with k:=0,sz:=0}=bx1 at Vn IC bI aeQ hu1;have hg1:(bx1 gs).k=0/\(bx1 gs).sz=0:=by rw[<-gV];simp[ah]
 obtain⟨k1,k2⟩:=sf (w:=w) (ρ:=ρ) (S:=ay X ρ bx1 w) (ds:=[.fn (.yield uR) [],.loc (gs+1) ep 0 0]) (vs:= #[Value.func (.yield uR) #[] #[],u]) (N:=fn.ntmps) rfl hlen (fun i x v hx cq=>by
  rcases i with _|_|i
  ·simp at hx cq;subst hx;subst cq;exact .fn rfl sI
  ·exact awN
  grind)
 have zt:=(hS.hold uR _ hl).1;have hE:∀b,E b->∀o,w.heap[b]? =some o->Obj.oQ o=false:=fun b hb o ho=>by
  obtain⟨q,hq⟩:=hL.lp b hb;rw[(hS.hold b _ hq).1]at ho;injection ho with ho;subst ho;rfl
 have Nw:Bv E (n_ gs uR E rc items J Jx):=n_.on hL.own hL.j hL.jx;have cutgs:∀bx:ab,bg (gs+1) bx gs=bx gs:=fun bx=>by simp[bg]
 have E8:=Vn.sub (E:=E) (N:=fn.ntmps) (ml:=w.heap.size) (md:=0) (a':={tmps:= #[Value.func (.yield uR) #[] #[],u]++Array.replicate (fn.ntmps - #[Value.func (.yield uR) #[] #[],u].size) undef,defers:=[]}) hN hE k1 (.nil (.inl rfl)) (aaN _) k2;have hW:=E8.jL (lo:=gs+1) (Y:=n_ gs uR E rc items J Jx) (Nw.yc fun c h hc=>hc.1) ⟨hL.lp,awN,.inl ⟨awN,hl,by grind [fE]⟩⟩ (fun h0=>awO);generalize hYd:X.sub ρ bx1 w E fn.ntmps w.heap.size 0=Y at E8 hW;have hY0:Y.lo=0/\(∀c h,Y.Y c h)/\Y.S0=X.S0/\Y.n0=X.n0/\(∀k,E k->Y.E k)/\Y.ml=Y.w0.heap.size/\Y.N=fn.ntmps/\Y.md=0/\Y.r0=ρ:=by rw[<-hYd];exact⟨rfl,fun _ _=>trivial,rfl,rfl,fun _ h=> .inl h,rfl,rfl,rfl,rfl⟩
 obtain⟨H0,yY,yS,yn,yE,yml,yN,ymd,yr⟩:=hY0;have back:∀(ρ':bX) (σ':Env) (bx':ab) (a':Act) (w':World),aw Y ρ' σ' bx' a' w'->aw X ρ' σ bx' a w':=by
  intro ρ' σ' bx' a' w' hs;rw[<-hYd]at hs;exact Vn.back rfl rfl hs (fun b hb=>(hL.x_ b hb).elim (fun e=> .inr (e▸hL.le)) .inl) (fun b hb e=>by obtain⟨q,hq⟩:=hL.lp b hb;grind) (fun b hb=>(hL.x_ b hb).elim (fun e=> .inl (e▸hL.new)) .inr) (hS.y0 vt _ _)
 have good:Good P ⟨O,tab,gs+2,gs+2+fn.ntmps,gs+1,some (items,gs,uR,gs+ext),true,false⟩ (Y.jL (gs+1) (n_ gs uR E rc items J Jx)):=
  ⟨hO,aaN _,(by show gs+1<=gs+2;omega),ag0 rfl rfl awN oM yS yn rfl rfl yE (fun k hk=>by show ∃q,Y.r0.hold k=_;rw[yr];exact hL.lp k hk) hL.own hL.j hL.jx (fun ρ' σ' bx' a' w' hs=>back _ _ _ _ _ (hs.Wu H0 yY)) oJ,(fun hf=>awE),(fun hf=>by have:Y.md=3:=hf;omega),fun hf=>by have:Y.md=3:=hf;omega⟩
 refine⟨Go.MuLone.run_callFunc_enter hf dJ hb _ w,akG.1 (callsIn_of_wp_marks (F:=Fence.wide) (n:=0) hf hb trivial ?_)⟩;refine dV hm c none 0 ⟨O,tab,gs+2,gs+2+fn.ntmps,gs+1,some (items,gs,uR,gs+ext),true,false⟩ (Y.jL (gs+1) (n_ gs uR E rc items J Jx)) _ _ _ _ _ _ w good (fun l hl=>awB) (by show dH tab Y.N c=true;grind) hW (hc gs uR ep bx1 hg1.1 hg1.2 aeQ) fun e e' σ' bx' a' w' ρ' hx hq h'=>?_;have fin:(items.length<=(bx' gs).sz/\(pd=none\/items.length<(bx' gs).sz))->LeavesInM Fence.wide 0 P fn a'.tmps (fun e w'=>(∃v ρ' bx',e= .returned v/\aw X ρ' σ bx' a w'/\
  ((pd=none/\ρ'.hold uR=some (.loop rc)/\J items.length (bg gs bx') ρ'.hold)\/∃jump,ρ'.hold uR=some (.loop {rc with state:=.done,pending:=some jump})/\Jx jump (bg gs bx') ρ'.hold))\/
  ∃d v ρ' bx',pd=some d/\e= .panicked [pe v]/\aw X ρ' σ bx' a w'/\aG w' (ay X ρ' bx' w') ρ' d v/\J items.length (bg gs bx') ρ'.hold) a'.defers .returning w':=by
  rintro⟨hq,rB⟩;have hinv:n_ gs uR E rc items J Jx (bg (gs+1) bx') ρ'.hold:=h'.inv;have Cp:=hinv.1;obtain⟨_,g0,g1⟩:=hinv;rw[cutgs,fE oM]at g1;have hsY:=h'.Wu H0 yY;refine uF H0 yml ymd a'.defers a' ρ' w' rfl hsY (rs:=[]) (by rw[Az];rfl) fun ρ2 w2 v s1 s2 _=> .inl ⟨v,ρ2,bx',rfl,back _ _ _ _ _ s1,?_⟩;have hh:∀k,E k->ρ2.hold k=ρ'.hold k:=fun k hk=>awN
  rcases g1 with⟨g1,g2,g3⟩|⟨g1,jump,g2,g3⟩
  ·have e:(bx' gs).sz=items.length:=oM;rw[e]at g3;exact .inl ⟨rB.resolve_right oM,s2 _ _ g2 sI,hL.j _ _ _ _ g3 hh⟩
  ·exact .inr ⟨jump,s2 _ _ g2 sI,hL.jx _ _ _ _ g3 hh⟩
 rcases hx.cases with⟨rfl,rfl⟩|⟨rfl,rfl⟩|⟨_,rfl,rfl⟩|⟨_,rfl,rfl⟩|⟨d,v,rfl,rfl,hv⟩
 ·exact fin hq
 ·exact fin hq
 ·exact hq.elim
 ·exact hq.elim
 ·obtain⟨hpd,hz⟩:=hq;have hinv:n_ gs uR E rc items J Jx (bg (gs+1) bx') ρ'.hold:=h'.inv;have Cp:=hinv.1;obtain⟨_,g0,g1⟩:=hinv;rw[cutgs,fE oM]at g1;have hsY:=h'.Wu H0 yY;have eS:ay (Y.jL (gs+1) (n_ gs uR E rc items J Jx)) ρ' bx' w'=ay Y ρ' bx' w':=by funext b;simp only[ay,Ctx.jL]
  rw[eS]at hv;refine AE H0 yml ymd a'.defers a' ρ' w' rfl hsY hv fun ρ2 w2 s1 s2 s3=> .inr ⟨d,v,ρ2,bx',hpd,rfl,back _ _ _ _ _ s1,?_,?_⟩
  ·have eX:ay Y ρ2 bx' w2=ay X ρ2 bx' w2:=by grind [ay]
   exact awN
  ·have hh:∀k,E k->ρ2.hold k=ρ'.hold k:=fun k hk=>awN
   rcases g1 with⟨_,_,g3⟩|⟨g1,_⟩
   ·rw[hz]at g3;exact hL.j _ _ _ _ g3 hh
   ·exact awO
def dD(P:Program):ik:=⟨av P,az P,T_ P,xH P⟩
def rK(P:Program):Ok P (dD P):=⟨fun _ _ _ h=>h,fun _ _ _ _ _ _ h=>h,fun _ _ _ _ h=>h,fun _ _ _ _ _ h=>h⟩
def E2(hm:P.follows .mixedOrders=true){f:FuncId}{fn:Func}{tab:List (Nat×List (Nat×Nat))}{ds:List D}{d:D}(h:fnD P (dD P) tab fn ds d)(hf:P.funcs[f]? =some fn)
 (dJ:(fn.name== "runtime.NumGoroutine")=false) (hlen:decide (ds.length<=fn.ntmps)=true):av P f ds d:=YE hm hf dJ (afe hlen) (rK P) h
def dY(hm:P.follows .mixedOrders=true){f:FuncId}{fn:Func}{tab:List (Nat×List (Nat×Nat))}{base:Nat}{ds:List D}{bx:ab}{Q Qp:D->ab->Prop}(h:M3 P (dD P) tab fn base ds bx Q Qp)(hf:P.funcs[f]? =some fn)
 (dJ:(fn.name== "runtime.NumGoroutine")=false) (hlen:decide (ds.length<=fn.ntmps)=true):az P f base ds bx Q Qp:=U5 hm hf dJ (afe hlen) (rK P) h
def Gl(hm:P.follows .mixedOrders=true){f:FuncId}{fn:Func}{tab:List (Nat×List (Nat×Nat))}{b:Bx}{items:List (List D)}{pd:Option D}(h:ael P (dD P) tab fn b items pd)(hf:P.funcs[f]? =some fn)
 (dJ:(fn.name== "runtime.NumGoroutine")=false) (hlen:decide (2<=fn.ntmps)=true):xH P f b items pd (fn.ntmps+2):=Gn hm hf dJ (afe hlen) (rK P) h
end Go.V
