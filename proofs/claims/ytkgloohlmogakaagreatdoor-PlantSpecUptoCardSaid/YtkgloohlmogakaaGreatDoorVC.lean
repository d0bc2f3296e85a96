/- Lemmas on plain data and programs: part VC. -/
import Derived.Test.YtkgloohlmogakaaGreatDoorVM
import Derived.Sort.LoopGhostIn
import Derived.Conc.MuLone
import Derived.RangeFuncRecord
import Derived.RangeFuncIn
import Derived.Scope
import Derived.RangeFuncLeaves
set_option linter.all false
set_option maxHeartbeats 8000000
namespace Go.V
open Go.RowKit
mutual
def fa(s e s' e':Nat):D->D
 | .loc t k i j=>if t=s/\k=e then .loc s' e' i j else .loc t k i j
 | .bE t k sz o n=>if t=s/\k=e then .bE s' e' sz o n else .bE t k sz o n
 | .fH t k i j n=>if t=s/\k=e then .fH s' e' i j n else .fH t k i j n
 | .agg ds=> .agg (rY s e s' e' ds)
 | .aL ds=> .aL (rY s e s' e' ds)
 | .fn f ds=> .fn f (rY s e s' e' ds)
 | .iw f ds=> .iw f (rY s e s' e' ds)
 | .dB t d=> .dB t (fa s e s' e' d)
 |d=>d
def rY(s e s' e':Nat):List D->List D
 |[]=>[]
 |d::ds=>fa s e s' e' d::rY s e s' e' ds
end
section
variable (s e s' e':Nat)
theorem xc:∀ds:List D,rY s e s' e' ds=ds.map (fa s e s' e')
 |[]=>by simp[rY]
 |d::ds=>by simp[rY,xc ds]
theorem Fq(d:D):(fa s e s' e' d).cells=d.cells.map (fa s e s' e'):=by
 cases d with
 |agg ds=>simp only[fa,D.cells,xc]
 |loc t k i j=>simp only[D.cells,mC,List.map_nil];by_cases h:t=s/\k=e<;>simp[fa,h]
 |bE t k sz o n=>simp only[D.cells,mC,List.map_nil];by_cases h:t=s/\k=e<;>simp[fa,h]
 |fH t k i j n=>simp only[D.cells,mC,List.map_nil];by_cases h:t=s/\k=e<;>simp[fa,h]
 |_=>simp[fa,D.cells]
end
variable {P:Program} {X:Ctx} {ρ ρ':cM} {σ:Env} {bx:ae} {a:Act} {w:World} {s e s' e':Nat} {S:Nat->Prop} {d:D} {v:Value}
theorem br.xS(h:br w S d v):fa s e s' e' d=d:=by
 have hL:∀(ds:List D) (vs:Array Value),vs.size=ds.length->(∀(i:Nat) d v,ds[i]? =some d->vs[i]? =some v->fa s e s' e' d=d)->rY s e s' e' ds=ds:=by
  intro ds vs hl h;rw[xc];refine List.ext_getElem? fun i=>?_;rw[gM];cases hd:ds[i]? with
  |none=>rfl
  |some d=>
   have hi:i<vs.size:=by have:=(gS.1 hd).1;omega
   rw[Option.map_some,h i d vs[i] hd (Array.getElem?_eq_getElem hi)]
 induction h with
 |agg hl _ ih=>simp only[fa,hL _ _ hl ih]
 |aL hl _ ih=>simp only[fa,hL _ _ hl ih]
 |fn hl _ ih=>simp only[fa,hL _ _ hl ih]
 |iw hl _ ih=>simp only[fa,hL _ _ hl ih]
 |dB _ ih=>simp only[fa,ih]
 |_=>simp only[fa]
theorem aH.xS(h:aH w S ρ d v)(h1:∀t k p,ρ t k=some p->ρ' t k=some p)(h2:∀p,ρ s e=some p->ρ' s' e'=some p):aH w S ρ' (fa s e s' e' d) v:=by
 have hL:∀(ds:List D) (vs:Array Value),vs.size=ds.length->(∀(i:Nat) d v,ds[i]? =some d->vs[i]? =some v->aH w S ρ' (fa s e s' e' d) v)->vs.size=(rY s e s' e' ds).length/\∀(i:Nat) d v,(rY s e s' e' ds)[i]? =some d->vs[i]? =some v->aH w S ρ' d v:=by
  intro ds vs hl h;rw[xc];refine⟨by simpa using hl,fun i d v hd hv=>?_⟩;rw[gM,mS]at hd;obtain⟨d0,nd,rfl⟩:=hd;exact h i d0 v nd hv
 induction h with
 |pure h=>rw[h.xS];exact .pure h
 |@loc t k i j q p hp hq=>
  simp only[fa];split
  ·rename_i hc;obtain⟨rfl,rfl⟩:=hc;exact .loc (h2 _ hp) hq
  ·exact .loc (h1 _ _ _ hp) hq
 |@bE t k sz o n off cap p hp bP h0 dQ hn dF=>
  simp only[fa];split
  ·rename_i hc;obtain⟨rfl,rfl⟩:=hc;exact .bE (h2 _ hp) bP h0 dQ hn dF
  ·exact .bE (h1 _ _ _ hp) bP h0 dQ hn dF
 |@fH t k i j n off cap p hp dQ hn dF=>
  simp only[fa];split
  ·rename_i hc;obtain⟨rfl,rfl⟩:=hc;exact .fH (h2 _ hp) dQ hn dF
  ·exact .fH (h1 _ _ _ hp) dQ hn dF
 |omap hp=>simp only[fa];exact .omap (h1 _ _ _ hp)
 |agg hl _ ih=>simp only[fa];exact .agg (hL _ _ hl ih).1 (hL _ _ hl ih).2
 |aL hl _ ih=>simp only[fa];exact .aL (hL _ _ hl ih).1 (hL _ _ hl ih).2
 |fn hl _ ih=>simp only[fa];exact .fn (hL _ _ hl ih).1 (hL _ _ hl ih).2
 |iw hl _ ih=>simp only[fa];exact .iw (hL _ _ hl ih).1 (hL _ _ hl ih).2
 |dB _ ih=>simp only[fa];exact .dB ih
def jC(s s':Nat)(oL:Nat->Bool)(bx:ae):ae:=fun t=>
 if t=s' then⟨(bx s').ep+1,1,(bx s).sz,(bx s).ty,(bx s).es⟩else if t=s then {bx s with k:=0}
 else if oL t then {bx t with es:=(bx t).es.map (fa s (bx s).ep s' ((bx s').ep+1))}else bx t
theorem Holds.xS{p:Place}{es:List D}(h:Holds w S ρ p es)(h1:∀t k p,ρ t k=some p->ρ' t k=some p)(h2:∀p,ρ s e=some p->ρ' s' e'=some p):Holds w S ρ' p (es.map (fa s e s' e')):=by
 obtain⟨⟨cur,hc,hs,us,hu⟩,hl,hm,hz⟩:=h;refine⟨⟨cur,hc,hs,us,fun i d j c hi hj=>?_⟩,by simpa using hl,hm,fun i d hi=>?_⟩
 ·rw[gM,mS]at hi;obtain⟨d0,hi,rfl⟩:=hi;rw[Fq,gM,mS]at hj;obtain⟨c0,hj,rfl⟩:=hj;obtain⟨g1,g2,g3⟩:=hu i d0 j c0 hi hj;exact⟨g1,g2.xS h1 h2,g3⟩
 ·rw[gM,mS]at hi;obtain⟨d0,hi,rfl⟩:=hi;rw[Fq,List.length_map];exact hz i d0 hi
theorem gf.xS{ds:List D}{es:List MapEntry}(h:gf ds es):ds.map (fa s e s' e')=ds:=by
 induction h with
 |nil=>rfl
 |cons hk hv _ ih=>
  rw[mC,ih];simp only[fa,rY,br.xS (hk.rep (w:=default) (S:=fun _=>True)),br.xS (hv.rep (w:=default) (S:=fun _=>True))]
theorem oq.xS{ρ:cM}{o:Obj}{es:List D}(h:oq ρ o es):es.map (fa s e s' e')=es:=by
 cases h with
 |@map en clock es h=>
  rw[mC,h.xS];simp only[fa]
 |@iter m k p since last seen hp=>
  have:(seen.toList.map fun n:Nat=>D.int .i64 (n:Int)).map (fa s e s' e')=seen.toList.map fun n:Nat=>D.int .i64 (n:Int):=by
   rw[List.map_map];exact List.map_congr_left fun x hx=>by simp only[Function.comp,fa]
  rw[mC,mC,mC,this];simp only[fa]
theorem aA.Kk(h:aA X ρ σ bx a w)(bF:X.lo=0)(bq:s≠s')(hk:(bx s).k=1)(cT:(bx s').k=0)(oL:Nat->Bool):
 ∃ρ',aA X ρ' σ (jC s s' oL bx) a w/\(∀d v,aH w (az X ρ bx w) ρ d v->aH w (az X ρ' (jC s s' oL bx) w) ρ' d v)/\(∀p,ρ s (bx s).ep=some p->ρ' s' ((bx s').ep+1)=some p)/\ρ'.hold=ρ.hold:=by
 have hρ:∀t k p,ρ t k=some p->(if t=s'/\k=(bx s').ep+1 then ρ s (bx s).ep else ρ t k)=some p:=by
  intro t k p hp;rw[if_neg]
  ·exact hp
  ·rintro⟨rfl,rfl⟩;have:=h.n9 _ _ _ hp;omega
 have hR:∀p,ρ s (bx s).ep=some p->(if s'=s'/\(bx s').ep+1=(bx s').ep+1 then ρ s (bx s).ep else ρ s' ((bx s').ep+1))=some p:=fun p hp=>by simpa using hp
 have live:∀t,t≠s'->lv (jC s s' oL bx t).k->t≠s/\(jC s s' oL bx t).k=(bx t).k/\(jC s s' oL bx t).ep=(bx t).ep/\(jC s s' oL bx t).sz=(bx t).sz/\(jC s s' oL bx t).ty=(bx t).ty:=by
  intro t ht hk;unfold jC at hk⊢;simp only[ht,if_false]at hk⊢;by_cases hs:t=s
  ·subst hs;simp[J_]at hk
  ·simp only[hs,if_false]at hk⊢;split<;>exact⟨hs,rfl,rfl,rfl,rfl⟩
 have at':jC s s' oL bx s'=⟨(bx s').ep+1,1,(bx s).sz,(bx s).ty,(bx s).es⟩:=by simp[jC]
 refine⟨⟨fun t k=>if t=s'/\k=(bx s').ep+1 then ρ s (bx s).ep else ρ t k,ρ.hold⟩,?_⟩;have hS:∀b,az X ρ bx w b->az X ⟨fun t k=>if t=s'/\k=(bx s').ep+1 then ρ s (bx s).ep else ρ t k,ρ.hold⟩ (jC s s' oL bx) w b:=by
  intro b hb;refine⟨hb.1,hb.2.1,fun t ht p hp=>?_⟩;by_cases kH:t=s'
  ·subst kH;rw[at']at hp;simp only[and_self,if_true]at hp;exact hb.2.2 s hk p hp
  ·obtain⟨_,g1,g2,_⟩:=live t kH (by rw[ht];decide);rw[g1]at ht;rw[g2]at hp;simp only[kH,false_and,if_false]at hp;exact hb.2.2 t ht p hp
 have hD:∀d v,aH w (az X ρ bx w) ρ d v->aH w (az X ⟨fun t k=>if t=s'/\k=(bx s').ep+1 then ρ s (bx s).ep else ρ t k,ρ.hold⟩ (jC s s' oL bx) w) ⟨fun t k=>if t=s'/\k=(bx s').ep+1 then ρ s (bx s).ep else ρ t k,ρ.hold⟩ d v:=
  fun d v hr=>hr.mono (fun _ _=>rfl) hS hρ
 refine⟨⟨h.fr,h.s0,h.nb,h.mb,h.ec,h.size,h.marks.mono (fun _ _=>rfl) hS hρ (fun _ h=>h),h.pU,h.rA,fun t=>hD _ _ (h.tmps t),hD _ _ h.fI,fun t ht=>?_,fun t t' p p' ht oG Wp hp bJ=>?_,fun t k p hp=>?_,fun t k p hp=>hρ t k p (h.r0 t k p hp),h.hold,h.gy,h.yc,h.y0 bF _ _,h.y0,h.kf,h.maps.of (fun t ht=>?_) hρ (fun _ _ _ _ _ h=>h) (fun _ h=>h)⟩,hD,fun p hp=>by simpa using hp,rfl⟩
 ·by_cases kH:t=s'
  ·subst kH;obtain⟨p,hp,h2,h3,h4,h5⟩:=h.box s (by rw[hk];decide);rw[at'];exact⟨p,by simpa using hp,h2,h3,⟨h4.1,fun _=>h4.2 hk⟩,h5.mono rfl (fun _ _=>rfl) hS hρ⟩
  ·obtain⟨g0,g1,g2,g3,g4⟩:=live t kH ht;obtain⟨p,hp,h2,h3,h4,h5⟩:=h.box t (by rw[<-g1];exact ht);refine⟨p,?_,h2.trans g3.symm,h3.trans g4.symm,⟨h4.1,fun ji=>h4.2 (g1▸ji)⟩,?_⟩
   ·rw[g2];simp only[kH,false_and,if_false];exact hp
   ·have h6:=h5.mono (w':=w) rfl (fun _ _=>rfl) hS (ρ':=ρ) (fun _ _ _ h=>h);unfold jC;simp only[kH,g0,if_false];split
    ·exact h6.xS hρ hR
    ·exact h6.mono rfl (fun _ _=>rfl) (fun _ h=>h) hρ
 ·by_cases kH:t=s'
  ·subst kH;obtain⟨g0,g1,g2,_⟩:=live t' (Ne.symm Wp) oG;rw[at']at hp;rw[g2]at bJ;simp only[and_self,if_true]at hp;simp only[Ne.symm Wp,false_and,if_false]at bJ;exact h.inj s t' p p' hk (by rw[<-g1];exact oG) (Ne.symm g0) hp bJ
  ·obtain⟨g0,g1,g2,_⟩:=live t kH (by rw[ht];decide);rw[g2]at hp;simp only[kH,false_and,if_false]at hp;by_cases Qn:t'=s'
   ·subst Qn;rw[at']at bJ;simp only[and_self,if_true]at bJ;exact h.inj t s p p' (by rw[<-g1];exact ht) (by rw[hk];decide) g0 hp bJ
   ·obtain⟨k0,k1,k2,_⟩:=live t' Qn oG;rw[k2]at bJ;simp only[Qn,false_and,if_false]at bJ;exact h.inj t t' p p' (by rw[<-g1];exact ht) (by rw[<-k1];exact oG) Wp hp bJ
 ·by_cases kH:t=s'
  ·subst kH;rw[at'];simp only[true_and]at hp;split at hp
   ·rename_i iz;rw[iz];exact Nat.le_refl _
   ·have:=h.n9 _ _ _ hp;simp only;omega
  ·simp only[kH,false_and,if_false]at hp;have:=h.n9 _ _ _ hp;unfold jC;simp only[kH,if_false];split
   ·rename_i hs;subst hs;exact this
   ·split<;>exact this
 ·unfold jC at ht⊢;by_cases kH:t=s'
  ·subst kH;simp at ht
  ·simp only[kH,if_false]at ht⊢;by_cases hs:t=s
   ·subst hs;simp at ht
   ·simp only[hs,if_false]at ht⊢;by_cases Wl:oL t=true
    ·simp only[Wl,if_true]at ht⊢;obtain⟨p,o,_,_,_,g4⟩:=h.maps.has t ht;refine⟨ht,?_,?_⟩<;>first|trivial|rfl|exact g4.xS
    ·simp only[Wl]at ht⊢;refine⟨ht,?_,?_⟩<;>first|trivial|rfl
theorem aA.rename(h:aA X ρ σ bx a w)(bF:X.lo=0)(bq:s≠s')(hk:(bx s).k=1)(cT:(bx s').k=0)(oL:Nat->Bool):
 ∃ρ',aA X ρ' σ (jC s s' oL bx) a w/\(∀d v,aH w (az X ρ bx w) ρ d v->aH w (az X ρ' (jC s s' oL bx) w) ρ' d v):=
 let ⟨ρ',h1,h2,_⟩:=h.Kk bF bq hk cT oL
 ⟨ρ',h1,h2⟩
end Go.V
namespace Go.V
open Go.RowKit
variable {P:Program} {C:Calc} {X:Ctx} {ρ:cM} {σ:Env} {bx:ae} {a:Act} {w:World} {r:Option Nat} {n:Nat}
def qP(P:Program)(C:Calc)(full:List Oper)(o:Oper)(σ:Env)(bx:ae)(K:Cl->Env->ae->Prop):Prop:=
 match o.guard with
 |none=>bp P C o σ bx K
 |some (j,want)=>aK (pM full[j]? σ) fun g=>gK g want (bp P C o σ bx K) (K .n (put σ o.dst (.raw undef)) bx)
def tg{c:Cl}{x y:Prop}(h:∀d,c≠ .cU d):jn c x y=y:=by cases c<;>first|rfl|exact absurd rfl (h _)
def za(full:List Oper)(o:Oper)(rest:List Oper)(acc:List Cl)(K:List Cl->Env->ae->Prop):
 qF P C full (o::rest) acc σ bx K=qP P C full o σ bx fun c σ' bx'=>jn c (K (c::acc) σ' bx') (qF P C full rest (c::acc) σ' bx' K):=by
 obtain⟨dst,op,ty,pos,af,g⟩:=o;cases g with
 |none=>rfl
 |some g=>obtain⟨j,want⟩:=g;rfl
structure FV(P:Program)(C:Calc)(full:List Oper)(o:Oper)(σ:Env)(bx:ae)(c:Cl)(v:D)(bx':ae):Prop where
 np:∀x,c≠ .cU x
 same:∀s,c.wr s=false->bx' s=bx s
 Si:eQ o.op=0->c= .n
 Sj:eQ o.op≠2->∀s,c.wr s=false
 run:∀σ₂ bx₂,(∀t∈o.looksAt full.toArray,σ₂ t=σ t)->(∀s,c.rd s=true->bx₂ s=bx s)->∀K:Cl->Env->ae->Prop,K c (put σ₂ o.dst v) (gk c bx' bx₂)->qP P C full o σ₂ bx₂ K
def nM{full:List Oper}{o:Oper}{σ₂:Env}(h:∀t∈o.looksAt full.toArray,σ₂ t=σ t):Alike σ σ₂ o.op:=fun x hx=>PD fun t ht=>h t (by
 subst ht;exact List.mem_append_left _ (List.mem_filterMap.2 ⟨.tmp t,hx,rfl⟩))
def Nh(hT:∀f b ds bx Q Qp,¬C.o.ud f b ds bx Q Qp)(ll:C.yl=none)(rq:C.pn=false)(nf:C.df=false){full:List Oper}{o:Oper}{K:Cl->Env->ae->Prop}(hs:qP P C full o σ bx K):∃c v bx',K c (put σ o.dst v) bx'/\FV P C full o σ bx c v bx':=by
 unfold qP at hs;split at hs
 ·rename_i hg;obtain⟨c,v,bx',hK,he⟩:=zx hT ll rq nf hs;refine⟨c,v,bx',hK,⟨he.np,he.same,he.Si,he.Sj,fun σ₂ bx₂ h1 h2 K hK=>?_⟩⟩;unfold qP;rw[hg];exact he.run σ₂ bx₂ (nM h1) h2 K hK
 ·rename_i j want hg;cases hz:pM full[j]? σ with
  |none=>rw[hz]at hs;exact hs.elim
  |some g=>
   rw[hz]at hs;have hgu:∀σ₂:Env,(∀t∈o.looksAt full.toArray,σ₂ t=σ t)->pM full[j]? σ₂=some g:=by
    intro σ₂ h1;rw[<-hz];unfold pM;cases hj:full[j]? with
    |none=>rfl
    |some o'=>
     dsimp only;cases hd:o'.dst with
     |none=>rfl
     |some d=>
      dsimp only;rw[h1 d];refine List.mem_append_right _ ?_;rw[hg];simp[hj,hd]
   simp only[aK,gK]at hs;by_cases hw:g=some want
   ·rw[if_pos hw]at hs;obtain⟨c,v,bx',hK,he⟩:=zx hT ll rq nf hs;refine⟨c,v,bx',hK,⟨he.np,he.same,he.Si,he.Sj,fun σ₂ bx₂ h1 h2 K hK=>?_⟩⟩;unfold qP;rw[hg];simp only[hgu σ₂ h1,aK,gK,hw,if_true];exact he.run σ₂ bx₂ (nM h1) h2 K hK
   ·rw[if_neg hw]at hs;refine⟨_,_,_,hs,⟨(by intro x;simp),fun _ _=>rfl,fun _=>rfl,fun _ _=>rfl,fun σ₂ bx₂ h1 h2 K hK=>?_⟩⟩;unfold qP;rw[hg];simp only[hgu σ₂ h1,aK,gK,hw,if_false];rw[iM (fun _=>rfl)]at hK;exact hK
def qQ{ops:Array Oper}(h:aA X ρ σ bx a w)(hG:Good P C X)(ng:∀l,r=some l->X.md=1){o:Oper}(ct:∀t,o.dst=some t->t<X.N){K:Cl->Env->ae->Prop}(hs:qP P C ops.toList o σ bx K)
 {next:Act->World->Prop} {Q:Exit->Act->World->Prop} (hK:∀c σ' bx' a' w' ρ',(∀x,c≠ .cU x)->K c σ' bx'->aA X ρ' σ' bx' a' w'->next a' w')
 (hP:∀d σ' bx' a' w' ρ' v,K (.cU d) σ' bx'->aA X ρ' σ' bx' a' w'->aH w' (az X ρ' bx' w') ρ' d v->Q (.panic [pe v]) a' w'):
 if Region.wanted o (yielded ops a.tmps)=true then o.wpIn (Fw r) n P a w next Q else(∀f,o.about P w a.eval=some f->(Fw r).fn f)/\next (a.put o.dst undef) w:=by
 unfold qP at hs;split at hs
 ·rename_i hg;rw[if_pos (by simp[Region.wanted,hg])];exact Dt h hG ng ct hs hK hP
 ·rename_i j want hg;cases hz:pM ops.toList[j]? σ with
  |none=>rw[hz]at hs;exact hs.elim
  |some g=>
   rw[hz]at hs;have hy:yielded ops a.tmps j=g:=by
    unfold pM at hz;split at hz
    ·rename_i o' jM;split at hz
     ·rename_i d hd;have ht:=h.tmps d;have tE:ops[j]? =some o':=by rw[aG]at jM;exact jM
      unfold vq at hz;split at hz
      ·rename_i b hb;rw[hb]at ht;have:=ht.jQ;injection hz with hz;subst hz;have ar:d<a.tmps.size:=by
        rcases Nat.lt_or_ge d a.tmps.size with h1|h1
        ·exact h1
        ·rw[Array.getD_eq_getD_getElem?,Array.getElem?_eq_none h1]at this;cases this
       have eo:a.tmps[d]? =some (.bool b):=by
        rw[Array.getD_eq_getD_getElem?,Array.getElem?_eq_getElem ar]at this;rw[Array.getElem?_eq_getElem ar];simpa using this
       simp[yielded,tE,hd,eo]
      ·rename_i vs hb;rw[hb]at ht;have:=ht.DW;split at hz
       ·injection hz with hz;subst hz;rw[Array.getD_eq_getD_getElem?]at this;simp only[yielded,tE,Option.bind_some,hd];cases eo:a.tmps[d]? with
        |none=>rfl
        |some v=>rw[eo]at this;simp only[Option.getD_some]at this;rw[this]
       ·cases hz
      ·cases hz
     ·cases hz
    ·cases hz
   simp only[aK,gK]at hs;by_cases hw:g=some want
   ·rw[if_pos hw]at hs;rw[if_pos (by simp[Region.wanted,hg,hy,hw])];exact Dt h hG ng ct hs hK hP
   ·rw[if_neg hw]at hs;rw[if_neg (by simp[Region.wanted,hg,hy,hw])];exact⟨fun _ _=>trivial,hK _ _ _ _ _ _ (by intro x;simp) hs (h.put ct (.pure (.raw _)))⟩
theorem Fc{ops:Array Oper}(hG:Good P C X)(ng:∀l,r=some l->X.md=1)(ct:∀o∈ops.toList,∀t,o.dst=some t->t<X.N){Q:Exit->Act->World->Prop}{K:List Cl->Env->ae->Prop}
 (hQ:∀acc σ' bx' a' w' ρ',(∀d l,acc≠ .cU d::l)->K acc σ' bx'->aA X ρ' σ' bx' a' w'->Q .normal a' w')
 (hP:∀d acc σ' bx' a' w' ρ' v,K (.cU d::acc) σ' bx'->aA X ρ' σ' bx' a' w'->aH w' (az X ρ' bx' w') ρ' d v->Q (.panic [pe v]) a' w'):∀(rest done:List Oper) (acc:List Cl) (ρ:cM) (σ:Env) (bx:ae) (a:Act) (w:World),ops.toList=done++rest->(∀d l,acc≠ .cU d::l)->aA X ρ σ bx a w->qF P C ops.toList rest acc σ bx K->
  wpOpsIn (Fw r) n P ops Q (List.range' done.length rest.length) a w
 |[],done,acc,ρ,σ,bx,a,w,hl,mD,h,hs=>hQ _ _ _ _ _ _ mD hs h
 |o::rest,done,acc,ρ,σ,bx,a,w,hl,mD,h,hs=>by
  rw[za]at hs;have ho:ops[done.length]? =some o:=by rw[<-aG,hl];simp
  simp only[List.length_cons,List.range'_succ,wpOpsIn,ho];exact qQ h hG ng (ct o (by rw[hl];simp)) hs (fun c σ' bx' a' w' ρ' hc hK h'=>by
   rw[tg hc]at hK;have:=Fc hG ng ct hQ hP rest (done++[o]) (c::acc) ρ' σ' bx' a' w' (by rw[hl];simp) (fun d l e=>hc d (by injection e)) h' hK;simpa using this) (fun d σ' bx' a' w' ρ' v hK h' hr=>hP _ _ _ _ _ _ _ _ hK h' hr)
def TJ{acc:List Cl}{x y:Prop}(h:∀d l,acc≠ .cU d::l):vb acc x y=y:=by
 unfold vb;split
 ·exact absurd rfl (h _ _)
 ·rfl
theorem AQ{ops:Array Oper}(hG:Good P C X)(ng:∀l,r=some l->X.md=1)(ct:∀o∈ops.toList,∀t,o.dst=some t->t<X.N){Q:Exit->Act->World->Prop}{K:List Cl->Env->ae->Prop}
 (hQ:∀acc σ' bx' a' w' ρ',(∀d l,acc≠ .cU d::l)->K acc σ' bx'->aA X ρ' σ' bx' a' w'->Q .normal a' w')
 (hP:∀d acc σ' bx' a' w' ρ' v,K (.cU d::acc) σ' bx'->aA X ρ' σ' bx' a' w'->aH w' (az X ρ' bx' w') ρ' d v->Q (.panic [pe v]) a' w') {ps:List (Nat×Nat)}:∀(rest done:List Oper) (i:Nat) (acc:List Cl) (ρ:cM) (σ:Env) (bx:ae) (a:Act) (w:World),ops.toList=done++rest->(∀d l,acc≠ .cU d::l)->aA X ρ σ bx a w->sH P C ops.toList ps i rest acc σ bx K->
  wpOpsIn (Fw r) n P ops Q (List.range' done.length rest.length) a w
 |[],done,i,acc,ρ,σ,bx,a,w,hl,mD,h,hs=>hQ _ _ _ _ _ _ mD hs h
 |o::rest,done,i,acc,ρ,σ,bx,a,w,hl,mD,h,hs=>by
  simp only[sH]at hs;cases hz:qO C.lo (pJ ps i) σ bx with
  |none=>rw[hz]at hs;exact hs.elim
  |some s=>
   rw[hz]at hs;have hs:qF P C ops.toList [o] acc s.1 s.2 (fun rP σ' bx'=>vb rP (K rP σ' bx') (sH P C ops.toList ps (i+1) rest rP σ' bx' K)):=hs;have h:=Au hG.lo _ h hz;rw[za]at hs;have ho:ops[done.length]? =some o:=by rw[<-aG,hl];simp
   simp only[List.length_cons,List.range'_succ,wpOpsIn,ho];exact qQ h hG ng (ct o (by rw[hl];simp)) hs (fun c σ' bx' a' w' ρ' hc hK h'=>by
    have hn:∀d l,c::acc≠ .cU d::l:=fun d l e=>hc d (by injection e);rw[tg hc]at hK;simp only[qF,TJ hn]at hK;have:=AQ hG ng ct hQ hP rest (done++[o]) (i+1) (c::acc) ρ' σ' bx' a' w' (by rw[hl];simp) hn h' hK;simpa using this) (fun d σ' bx' a' w' ρ' v hK h' hr=>hP _ _ _ _ _ _ _ _ hK h' hr)
def LD{ops:Array Oper}(hG:Good P C X)(ng:∀l,r=some l->X.md=1)(ct:∀o∈ops.toList,∀t,o.dst=some t->t<X.N){Q:Exit->Act->World->Prop}{K:List Cl->Env->ae->Prop}
 (hQ:∀acc σ' bx' a' w' ρ',(∀d l,acc≠ .cU d::l)->K acc σ' bx'->aA X ρ' σ' bx' a' w'->Q .normal a' w')
 (hP:∀d acc σ' bx' a' w' ρ' v,K (.cU d::acc) σ' bx'->aA X ρ' σ' bx' a' w'->aH w' (az X ρ' bx' w') ρ' d v->Q (.panic [pe v]) a' w') (ps:List (Nat×Nat)) (rest done:List Oper) (acc:List Cl) (ρ:cM) (σ:Env) (bx:ae) (a:Act) (w:World) (hl:ops.toList=done++rest) (mD:∀d l,acc≠ .cU d::l) (h:aA X ρ σ bx a w) (hs:y_ P C ops.toList ps rest acc σ bx K):
  wpOpsIn (Fw r) n P ops Q (List.range' done.length rest.length) a w:=by
 cases ps with
 |nil=>exact Fc hG ng ct hQ hP rest done acc ρ σ bx a w hl mD h hs
 |cons p ps=>exact AQ hG ng ct hQ hP rest done 0 acc ρ σ bx a w hl mD h hs
theorem C3(hT:∀f b ds bx Q Qp,¬C.o.ud f b ds bx Q Qp)(ll:C.yl=none)(rq:C.pn=false)(nf:C.df=false){full:List Oper}{K:List Cl->Env->ae->Prop}:∀(rest:List Oper) (acc:List Cl) (σ:Env) (bx:ae),qF P C full rest acc σ bx K->
 ∃(cs:Nat->Cl) (vs:Nat->D) (σs:Nat->Env) (bs:Nat->ae),σs 0=σ/\bs 0=bx/\(∀(k:Nat) o,rest[k]? =some o->σs (k+1)=put (σs k) o.dst (vs k)/\FV P C full o (σs k) (bs k) (cs k) (vs k) (bs (k+1)))/\
  K (((List.range rest.length).map cs).reverse++acc) (σs rest.length) (bs rest.length)
 |[],acc,σ,bx,h=>⟨fun _=> .n,fun _=> .undef,fun _=>σ,fun _=>bx,rfl,rfl,fun k o ho=>by simp at ho,h⟩
 |o::rest,acc,σ,bx,h=>by
  rw[za]at h;obtain⟨c,v,bx',hK,he⟩:=Nh hT ll rq nf h;rw[tg he.np]at hK;obtain⟨cs,vs,σs,bs,h1,h2,h3,h4⟩:=C3 hT ll rq nf rest _ _ _ hK;refine⟨fun k=>match k with|0=>c|k+1=>cs k,fun k=>match k with|0=>v|k+1=>vs k,fun k=>match k with|0=>σ|k+1=>σs k,fun k=>match k with|0=>bx|k+1=>bs k,rfl,rfl,fun k o' ho=>?_,?_⟩
  ·cases k with
   |zero=>
    simp only[List.getElem?_cons_zero,sJ]at ho;subst ho;exact⟨h1,by show FV P C full o σ bx c v (bs 0);rw[h2];exact he⟩
   |succ k=>exact h3 k o' (by simpa using ho)
  ·simp only[List.length_cons,List.range_succ_eq_map,mC,List.map_map,List.reverse_cons,List.append_assoc,List.singleton_append];exact h4
def aR{α:Type}(W:Nat->Prop)(L:Nat->Prop)(val:Nat->α)(init x:α):Prop:=
 (∃j,L j/\W j/\(∀j',L j'->W j'->j'<=j)/\x=val j)\/((∀j,L j->¬W j)/\x=init)
theorem aR.seq{α:Type}{W:Nat->Prop}[DecidablePred W]{val:Nat->α}{xs:Nat->α}(m:Nat)(h:∀k,k<m->xs (k+1)=if W k then val k else xs k):aR W (· <m) val (xs 0) (xs m):=by
 induction m with
 |zero=>exact .inr ⟨fun j hj=>absurd hj (Nat.not_lt_zero j),rfl⟩
 |succ m ih=>
  have ih:=ih fun k hk=>h k oM;have hm:=h m oM;by_cases hw:W m
  ·rw[if_pos hw]at hm;exact .inl ⟨m,Nat.lt_succ_self m,hw,fun j' hj _=>Nat.le_of_lt_succ hj,hm⟩
  ·rw[if_neg hw]at hm;rw[hm];rcases ih with⟨j,h1,h2,h3,h4⟩|⟨h1,h2⟩
   ·refine .inl ⟨j,Nat.lt_succ_of_lt h1,h2,fun j' hj j_=>?_,h4⟩;rcases Nat.lt_succ_iff_lt_or_eq.1 hj with hj|rfl
    ·exact h3 j' hj j_
    ·exact absurd j_ hw
   ·refine .inr ⟨fun j hj j_=>?_,h2⟩;rcases Nat.lt_succ_iff_lt_or_eq.1 hj with hj|rfl
    ·exact h1 j hj j_
    ·exact hw j_
theorem aR.uniq{α:Type}{W L L':Nat->Prop}{val:Nat->α}{init x y:α}(h:aR W L val init x)(h':aR W L' val init y)(hL:∀j,W j->(L j<->L' j)):x=y:=by
 rcases h with⟨j,h1,h2,h3,rfl⟩|⟨h1,rfl⟩
 ·rcases h' with⟨j',g1,g2,g3,rfl⟩|⟨g1,rfl⟩
  ·have:j=j':=Nat.le_antisymm (g3 j ((hL j h2).1 h1) h2) (h3 j' ((hL j' g2).2 g1) g2);rw[this]
  ·exact absurd h2 (g1 j ((hL j h2).1 h1))
 ·rcases h' with⟨j',g1,g2,g3,rfl⟩|⟨g1,rfl⟩
  ·exact absurd g2 (h1 j' ((hL j' g2).2 g1))
  ·rfl
theorem aR.step{α:Type}{W L:Nat->Prop}[DecidablePred W]{val:Nat->α}{init x:α}{i:Nat}{L':Nat->Prop}(h:aR W L val init x)(pN:∀j,L' j<->L j\/j=i)(ho:W i->∀j,L j->W j->j<=i):
 aR W L' val init (if W i then val i else x):=by
 by_cases hw:W i
 ·rw[if_pos hw];refine .inl ⟨i,(pN i).2 (.inr rfl),hw,fun j hj tH=>?_,rfl⟩;rcases(pN j).1 hj with hj|rfl
  ·exact ho hw j hj tH
  ·exact Nat.le_refl _
 ·rw[if_neg hw];rcases h with⟨j,h1,h2,h3,rfl⟩|⟨h1,rfl⟩
  ·refine .inl ⟨j,(pN j).2 (.inl h1),h2,fun j' hj tH=>?_,rfl⟩;rcases(pN j').1 hj with hj|rfl
   ·exact h3 j' hj tH
   ·exact absurd tH hw
  ·refine .inr ⟨fun j hj tH=>?_,rfl⟩;rcases(pN j).1 hj with hj|rfl
   ·exact h1 j hj tH
   ·exact hw tH
theorem F8{c c':Cl}(h:apart c c')(s:Nat):(c.wr s=true->c'.rd s=true->False)/\(c'.wr s=true->c.rd s=true->False):=by
 cases c<;>cases c'<;>simp_all[apart,Cl.wr,Cl.rd];all_goals first
  |(intro e;subst e;first|exact h|exact fun e=>h e|exact fun e=>h e.symm)
  |trivial
theorem Gk:∀ {ps:List (Nat×Nat)} {acc:List Cl},Et ps acc->∀i j,(i,j)∈ps->BV acc[i]? acc[j]?
 |[],_,_,i,j,hm=>by cases hm
 |(i',j')::ps,acc,h,i,j,hm=>by
  rcases List.mem_cons.1 hm with e|hm
  ·injection e with e1 e2;subst e1;subst e2;exact h.1
  ·exact Gk h.2 i j hm
end Go.V
namespace Go.V
open Go.RowKit
variable {P:Program} {C:Calc} {X:Ctx} {ρ:cM} {σ:Env} {bx:ae} {a:Act} {w:World} {r:Option Nat} {n:Nat}
theorem Ao(ops:List Oper)(acc:Array Nat):(ops.foldl (fun acc o=>acc.push (o.after.foldl (fun s e=>if Region.binds .any e then s|||2 ^ e.on|||acc.getD e.on 0 else s) 0)) acc).size=acc.size+ops.length:=by
 induction ops generalizing acc with
 |nil=>rfl
 |cons o ops ih=>rw[List.foldl_cons,ih];simp;omega
def lp(acc:Array Nat)(o:Oper):Nat:=o.after.foldl (fun s e=>if Region.binds .any e then s|||2 ^ e.on|||acc.getD e.on 0 else s) 0
theorem BX(ops:List Oper)(acc:Array Nat)(k:Nat)(hk:k<acc.size):(ops.foldl (fun acc o=>acc.push (lp acc o)) acc)[k]? =acc[k]?:=by
 induction ops generalizing acc with
 |nil=>rfl
 |cons o ops ih=>
  rw[List.foldl_cons,ih _ (by simp;omega),Array.getElem?_push,if_neg oM]
def Ap(ops:List Oper)(o:Oper):(ops++[o]).foldl (fun acc o=>acc.push (lp acc o)) #[]=(ops.foldl (fun acc o=>acc.push (lp acc o)) #[]).push (lp (ops.foldl (fun acc o=>acc.push (lp acc o)) #[]) o):=by rw[List.foldl_append];rfl
def Mz{acc:Array Nat}{L:Nat->Prop}{o:Oper}(hL:∀e∈o.after,Region.binds .any e=true->L e.on/\∀j,(acc.getD e.on 0).testBit j=true->L j){j:Nat}(h:(lp acc o).testBit j=true):L j:=by
 unfold lp at h;rw[<-Array.foldl_toList]at h;have key:∀(es:List Edge) (s:Nat),(∀e∈es,Region.binds .any e=true->L e.on/\∀j,(acc.getD e.on 0).testBit j=true->L j)->(s.testBit j=true->L j)->
  (es.foldl (fun s e=>if Region.binds .any e then s|||2 ^ e.on|||acc.getD e.on 0 else s) s).testBit j=true->L j:=by
  intro es;induction es with
  |nil=>exact fun s _ hs h=>hs h
  |cons e es ih=>
   intro s he hs h;rw[List.foldl_cons]at h;refine ih _ (fun e' G1=>he e' (List.mem_cons_of_mem _ G1)) ?_ h;intro h;split at h
   ·rename_i hb;obtain⟨g1,g2⟩:=he e (List.mem_cons_self ..) hb;simp only[Nat.testBit_or,Nat.testBit_two_pow,Bool.or_eq_true,decide_eq_true_eq]at h;rcases h with(h|h)|h
    ·exact hs h
    ·exact h▸g1
    ·exact g2 j h
   ·exact hs h
 exact key _ 0 (fun e he=>hL e (by simpa using he)) sI h
def oP{ops:List Oper}{L:Nat->Prop}(hL:∀(i:Nat) o,ops[i]? =some o->L i->∀e∈o.after,Region.binds .any e=true->L e.on/\e.on<i):
 ∀(i:Nat) o,ops[i]? =some o->(∀e∈o.after,Region.binds .any e=true->L e.on/\e.on<i)->∀j,((Region.before ops.toArray).getD i 0).testBit j=true->L j:=by
 have hb:Region.before ops.toArray=ops.foldl (fun acc o=>acc.push (lp acc o)) #[]:=by
  unfold Region.before;rw[List.foldl_toArray];rfl
 rw[hb];intro i;induction i using Nat.strongRecOn with
 |_ i ih=>
  intro o ho he j hj;have hi:=(gS.1 ho).1;have Wm:ops=ops.take i++[o]++ops.drop (i+1):=by
   have:=List.take_append_drop i ops;rw[List.drop_eq_getElem_cons hi]at this;have jM:ops[i]=o:=by rw[gE hi]at ho;injection ho
   rw[jM]at this;simpa using this.symm
  have mD:∀k,k<i->((ops.take i).foldl (fun acc o=>acc.push (lp acc o)) #[]).getD k 0=(ops.foldl (fun acc o=>acc.push (lp acc o)) #[]).getD k 0:=by
   intro k hk;rw[Array.getD_eq_getD_getElem?,Array.getD_eq_getD_getElem?]
   congr 1
   conv=>rhs;rw[<-List.take_append_drop i ops,List.foldl_append]
   refine(BX _ _ _ ?_).symm;have:=Ao (ops.take i) #[];unfold lp;rw[this];simp;omega
  have mH:(ops.foldl (fun acc o=>acc.push (lp acc o)) #[]).getD i 0=lp ((ops.take i).foldl (fun acc o=>acc.push (lp acc o)) #[]) o:=by
   have bP:((ops.take i).foldl (fun acc o=>acc.push (lp acc o)) #[]).size=i:=by
    have:=Ao (ops.take i) #[];unfold lp;rw[this];simp;omega
   rw[Array.getD_eq_getD_getElem?]
   conv=>lhs;rw[Wm,List.foldl_append]
   rw[BX _ _ _ (by rw[Ap];simp[bP]),Ap,Array.getElem?_push,if_pos bP.symm];rfl
  rw[mH]at hj;refine Mz (fun e RR hb=>?_) hj;obtain⟨g1,g2⟩:=he e RR hb;refine⟨g1,fun j' pj=>?_⟩;rw[mD _ g2]at pj;have ar:e.on<ops.length:=oM;exact ih e.on g2 ops[e.on] (gE ar) (hL e.on _ (gE ar) g1) j' pj
end Go.V
namespace Go.V
open Go.RowKit
variable {P:Program} {C:Calc} {X:Ctx} {ρ:cM} {σ:Env} {bx:ae} {a:Act} {w:World} {r:Option Nat} {n:Nat}
def IQ{full:List Oper}{ps:List (Nat×Nat)}(h:Cd full ps=true):
 (∀(j:Nat) o,full[j]? =some o->∀e∈o.after,Region.binds .any e=true->e.on<j)/\
 ∀(i j:Nat) o o',full[j]? =some o->full[i]? =some o'->i≠j->ordered (Region.before full.toArray) i j=false->
  (∀d,o'.dst=some d->d∉tmpsOf full o)/\(∀d,o.dst=some d->d∉tmpsOf full o')/\
  (eQ o.op=2->eQ o'.op≠0->(full.length - 1 - j,full.length - 1 - i)∈ps\/(full.length - 1 - i,full.length - 1 - j)∈ps):=by
 simp only[Cd,List.all_eq_true,bA]at h;refine⟨fun j o ho e he VQ=>?_,fun i j o o' ho jM ph DR=>?_⟩
 ·have:=(h (o,j) (List.mem_zipIdx_iff_getElem?.2 ho)).1 e (by simpa using he);rw[VQ]at this;simpa using this
 ·have:=(h (o,j) (List.mem_zipIdx_iff_getElem?.2 ho)).2 (o',i) (List.mem_zipIdx_iff_getElem?.2 jM);simp only[Bool.or_eq_true,beq_iff_eq,ph,DR,Bool.false_eq_true,false_or,bA,Bool.not_eq_true',List.contains_eq_mem,decide_eq_true_eq,Bool.and_eq_false_iff]at this;obtain⟨⟨h1,h2⟩,h3⟩:=this;refine⟨fun d hd=>?_,fun d hd=>?_,fun h4 h5=>?_⟩
  ·rw[hd]at h1;simpa using h1
  ·rw[hd]at h2;simpa using h2
  ·rcases h3 with(h3|h3)|h3
   ·simp[h4,h5]at h3
   ·exact .inl h3
   ·exact .inr h3
theorem filter_le{α:Type}{p q:α->Bool}:∀ {l:List α},(∀x∈l,q x=true->p x=true)->(l.filter q).length<=(l.filter p).length
 |[],_=>Nat.le_refl _
 |z::l,h1=>by
  have ih:=filter_le (fun x hx=>h1 x (List.mem_cons_of_mem _ hx));cases hq:q z with
  |true=>simp[hq,h1 z sI hq,ih]
  |false=>
   cases hp:p z with
   |true=>simp[hq,hp];omega
   |false=>simp[hq,hp,ih]
theorem filter_lt{α:Type}{p q:α->Bool}:∀ {l:List α},(∀x∈l,q x=true->p x=true)->(∃x∈l,p x=true/\q x=false)->(l.filter q).length<(l.filter p).length
 |[],_,h=>by obtain⟨x,hx,_⟩:=h;cases hx
 |y::l,h1,h2=>by
  have hle:(l.filter q).length<=(l.filter p).length:=filter_le fun x hx=>h1 x (List.mem_cons_of_mem _ hx);obtain⟨x,hx,hp,hq⟩:=h2;rcases List.mem_cons.1 hx with rfl|hx
  ·simp only[List.filter_cons,hp,hq,if_true,Bool.false_eq_true,if_false,List.length_cons];omega
  ·have ih:=filter_lt (fun x hx=>h1 x (List.mem_cons_of_mem _ hx)) ⟨x,hx,hp,hq⟩;cases R4:q y with
   |true=>simp[R4,h1 y sI R4];exact ih
   |false=>
    cases hpy:p y with
    |true=>simp[R4,hpy];omega
    |false=>simp[R4,hpy];exact ih
structure qe(P:Program)(C:Calc)(full:List Oper)(cs:Nat->Cl)(vs:Nat->D)(σs:Nat->Env)(bs:Nat->ae):Prop where
 at_:∀(k:Nat) o,full[k]? =some o->σs (k+1)=put (σs k) o.dst (vs k)/\FV P C full o (σs k) (bs k) (cs k) (vs k) (bs (k+1))
 back:∀(j:Nat) o,full[j]? =some o->∀e∈o.after,Region.binds .any e=true->e.on<j
 free:∀(i j:Nat) o o',full[j]? =some o->full[i]? =some o'->i≠j->ordered (Region.before full.toArray) i j=false->
  (∀d,o'.dst=some d->d∉tmpsOf full o)/\(∀s,(cs i).wr s=true->(cs j).rd s=true->False)
def Wt(full:List Oper)(t:Nat)(j:Nat):Prop:=∃o,full[j]? =some o/\o.dst=some t
def Ws(full:List Oper)(cs:Nat->Cl)(s:Nat)(j:Nat):Prop:=j<full.length/\(cs j).wr s=true
structure Inv(full:List Oper)(cs:Nat->Cl)(vs:Nat->D)(σs:Nat->Env)(bs:Nat->ae)(L:Nat->Prop)(σ:Env)(bx:ae):Prop where
 closed:∀(i:Nat) o,full[i]? =some o->L i->∀e∈o.after,Region.binds .any e=true->L e.on
 lt:∀j,L j->j<full.length
 t:∀t,aR (Wt full t) L vs (σs 0 t) (σ t)
 s:∀s,aR (Ws full cs s) L (fun j=>bs (j+1) s) (bs 0 s) (bx s)
section
variable {full:List Oper} {cs:Nat->Cl} {vs:Nat->D} {σs:Nat->Env} {bs:Nat->ae} {L:Nat->Prop}
open Classical in
theorem qe.SA(hR:qe P C full cs vs σs bs)(t m:Nat)(hm:m<=full.length):aR (Wt full t) (· <m) vs (σs 0 t) (σs m t):=by
 refine aR.seq (xs:=fun k=>σs k t) m fun k hk=>?_;have cT:k<full.length:=oM;have ho:=gE cT;rw[(hR.at_ k _ ho).1];by_cases hw:Wt full t k
 ·rw[if_pos hw];obtain⟨o,jM,hd⟩:=hw;rw[ho]at jM;injection jM with jM;subst jM;simp[put,hd,ak]
 ·rw[if_neg hw];cases hd:full[k].dst with
  |none=>rfl
  |some d=>
   have:t≠d:=fun e=>hw ⟨_,ho,by rw[hd,e]⟩;simp[put,ak,this]
open Classical in
theorem qe.Sy(hR:qe P C full cs vs σs bs)(s m:Nat)(hm:m<=full.length):aR (Ws full cs s) (· <m) (fun j=>bs (j+1) s) (bs 0 s) (bs m s):=by
 refine aR.seq (xs:=fun k=>bs k s) m fun k hk=>?_;have cT:k<full.length:=oM;have ho:=gE cT;by_cases hw:Ws full cs s k
 ·rw[if_pos hw]
 ·rw[if_neg hw];refine(hR.at_ k _ ho).2.same s ?_;cases h:(cs k).wr s with
  |false=>rfl
  |true=>exact absurd ⟨cT,h⟩ hw
theorem qe.cut(hR:qe P C full cs vs σs bs)(hL:∀(i:Nat) o,full[i]? =some o->L i->∀e∈o.after,Region.binds .any e=true->L e.on){i:Nat}{o:Oper}(hi:full[i]? =some o)(hn:¬L i)
 (he:∀e∈o.after,Region.binds .any e=true->L e.on) {j:Nat} {o':Oper} (hj:full[j]? =some o') (Hc:j≠i->ordered (Region.before full.toArray) j i=true):L j<->j<i:=by
 have pN:∀(i:Nat) o,full[i]? =some o->L i->∀e∈o.after,Region.binds .any e=true->L e.on/\e.on<i:=fun i o h1 h2 e h3 h4=>⟨hL i o h1 h2 e h3 h4,hR.back i o h1 e h3 h4⟩
 by_cases gU:j=i
 ·subst gU;exact⟨fun h=>absurd h hn,fun h=>absurd h (Nat.lt_irrefl _)⟩
 ·have Hc:=Hc gU;unfold ordered at Hc;rcases Nat.lt_or_gt_of_ne gU with ar|V4
  ·rw[Nat.max_eq_right oM,Nat.min_eq_left oM]at Hc;exact⟨fun _=>ar,fun _=>oP pN i o hi (fun e h1 h2=>⟨he e h1 h2,hR.back i o hi e h1 h2⟩) j Hc⟩
  ·rw[Nat.max_eq_left oM,Nat.min_eq_right oM]at Hc;exact⟨fun h=>absurd (oP pN j o' hj (fun e h1 h2=>pN j o' hj h e h1 h2) i Hc) hn,fun h=>by omega⟩
theorem qe.Ss(hR:qe P C full cs vs σs bs){i j:Nat}{o:Oper}(hi:full[i]? =some o){t:Nat}(hj:Wt full t j)(ht:t∈tmpsOf full o)(gU:j≠i):ordered (Region.before full.toArray) j i=true:=by
 obtain⟨o',jM,hd⟩:=hj;cases h:ordered (Region.before full.toArray) j i with
 |true=>rfl
 |false=>exact absurd ht ((hR.free j i o o' hi jM gU h).1 t hd)
theorem qe.Sr(hR:qe P C full cs vs σs bs){i j:Nat}{o:Oper}(hi:full[i]? =some o){s:Nat}(hj:Ws full cs s j)(ht:(cs i).rd s=true)(gU:j≠i):ordered (Region.before full.toArray) j i=true:=by
 cases h:ordered (Region.before full.toArray) j i with
 |true=>rfl
 |false=>exact((hR.free j i o _ hi (gE hj.1) gU h).2 s hj.2 ht).elim
theorem qe.Zi(hR:qe P C full cs vs σs bs)(hI:Inv full cs vs σs bs L σ bx){i:Nat}{o:Oper}(hi:full[i]? =some o)(hn:¬L i)(he:∀e∈o.after,Region.binds .any e=true->L e.on):
 (∀t∈o.looksAt full.toArray,σ t=σs i t)/\∀s,(cs i).rd s=true->bx s=bs i s:=by
 have ar:=(gS.1 hi).1;refine⟨fun t ht=>?_,fun s hs=>?_⟩
 ·refine(hI.t t).uniq (hR.SA t i oM) fun j hj=>?_;have pj:=hj;obtain⟨o',jM,_⟩:=pj;exact hR.cut hI.closed hi hn he jM fun gU=>hR.Ss hi hj (List.mem_append_right _ ht) gU
 ·refine(hI.s s).uniq (hR.Sy s i oM) fun j hj=>?_;exact hR.cut hI.closed hi hn he (gE hj.1) fun gU=>hR.Sr hi hj hs gU
open Classical in
theorem qe.goes(hR:qe P C full cs vs σs bs)(hI:Inv full cs vs σs bs L σ bx){i:Nat}{o:Oper}(hi:full[i]? =some o)(hn:¬L i)(he:∀e∈o.after,Region.binds .any e=true->L e.on){L':Nat->Prop}(pN:∀j,L' j<->L j\/j=i):
 Inv full cs vs σs bs L' (put σ o.dst (vs i)) (gk (cs i) (bs (i+1)) bx):=by
 have ar:=(gS.1 hi).1;refine⟨fun k o' hk hLk e RR hb=>?_,fun j hj=>?_,fun t=>?_,fun s=>?_⟩
 ·rcases(pN k).1 hLk with h|rfl
  ·exact(pN _).2 (.inl (hI.closed k o' hk h e RR hb))
  ·rw[hi]at hk;injection hk with hk;subst hk;exact(pN _).2 (.inl (he e RR hb))
 ·rcases(pN j).1 hj with h|rfl
  ·exact hI.lt j h
  ·exact ar
 ·have:=(hI.t t).step (i:=i) pN fun hw j Vx tH=>by
   have aew:=tH;obtain⟨o',jM,_⟩:=aew;obtain⟨o2,tE,qj⟩:=hw;rw[hi]at tE;injection tE with tE;subst tE;exact Nat.le_of_lt ((hR.cut hI.closed hi hn he jM fun gU=>hR.Ss hi tH (List.mem_append_left _ (by simp[qj])) gU).1 Vx)
  have e:put σ o.dst (vs i) t=if Wt full t i then vs i else σ t:=by
   by_cases hw:Wt full t i
   ·rw[if_pos hw];obtain⟨o2,tE,qj⟩:=hw;rw[hi]at tE;injection tE with tE;subst tE;simp[put,qj,ak]
   ·rw[if_neg hw];cases hd:o.dst with
    |none=>rfl
    |some d=>
     have:t≠d:=fun e=>hw ⟨_,hi,by rw[hd,e]⟩;simp[put,ak,this]
  rw[e];exact this
 ·have:=(hI.s s).step (i:=i) pN fun hw j Vx tH=>by
   have ng:(cs i).rd s=true:=by
    have:=hw.2;revert this;cases cs i<;>simp[Cl.wr,Cl.rd]
   exact Nat.le_of_lt ((hR.cut hI.closed hi hn he (gE tH.1) fun gU=>hR.Sr hi tH ng gU).1 Vx)
  have e:gk (cs i) (bs (i+1)) bx s=if Ws full cs s i then bs (i+1) s else bx s:=by
   by_cases hw:Ws full cs s i
   ·rw[if_pos hw];simp[gk,hw.2]
   ·rw[if_neg hw];cases h:(cs i).wr s with
    |true=>exact absurd ⟨ar,h⟩ hw
    |false=>simp[gk,h]
  rw[e];exact this
theorem qe.ends(hR:qe P C full cs vs σs bs)(hI:Inv full cs vs σs bs L σ bx)(eG:∀j,j<full.length->L j):σ=σs full.length/\bx=bs full.length:=by
 refine⟨funext fun t=>(hI.t t).uniq (hR.SA t _ (Nat.le_refl _)) fun j hj=>?_,funext fun s=>(hI.s s).uniq (hR.Sy s _ (Nat.le_refl _)) fun j hj=>?_⟩
 ·obtain⟨o,ho,_⟩:=hj;have:=(gS.1 ho).1;exact⟨fun _=>this,fun h=>eG j h⟩
 ·exact⟨fun _=>hj.1,fun h=>eG j h⟩
end
def Mv{ops:Array Oper}{cs:Nat->Cl}{vs:Nat->D}{σs:Nat->Env}{bs:Nat->ae}(hR:qe P C ops.toList cs vs σs bs)(hG:Good P C X)(ng:∀l,r=some l->X.md=1)(ct:∀o∈ops.toList,∀t,o.dst=some t->t<X.N)
 {Q:Exit->Act->World->Prop} (hQ:∀a' w' ρ',aA X ρ' (σs ops.toList.length) (bs ops.toList.length) a' w'->Q .normal a' w'):∀(fuel:Nat) (listed:Array Bool) (ρ:cM) (σ:Env) (bx:ae) (a:Act) (w:World),listed.size=ops.size->
  ((List.range ops.size).filter fun j=> !listed.getD j false).length<=fuel->Inv ops.toList cs vs σs bs (fun j=>listed.getD j false=true) σ bx->aA X ρ σ bx a w->wpAnyIn (Fw r) n P .any ops Q fuel listed a w:=by
 have CA:∀(listed:Array Bool) (ρ:cM) (σ:Env) (bx:ae) (a:Act) (w:World),Region.ready .any ops listed=[]->Inv ops.toList cs vs σs bs (fun j=>listed.getD j false=true) σ bx->listed.size=ops.size->aA X ρ σ bx a w->Q .normal a w:=by
  intro listed ρ σ bx a w hr hI bP h;have eG:∀j,j<ops.toList.length->listed.getD j false=true:=by
   intro j;induction j using Nat.strongRecOn with
   |_ j ih=>
    intro hj;have pj:j<ops.size:=by simpa using hj
    cases hl:listed.getD j false with
    |true=>rfl
    |false=>
     have ho:ops[j]? =some ops[j]:=Array.getElem?_eq_getElem pj;have:j∈Region.ready .any ops listed:=mem_ready.2 ⟨by
      have pQ:j<listed.size:=oM;simp only[Array.getD,pQ,dif_pos]at hl⊢;exact hl,ops[j],ho,fun e he hb=>by
       have ar:=hR.back j ops[j] (by rw[aG];exact ho) e he hb;exact ih e.on ar oM⟩
     rw[hr]at this;cases this
  obtain⟨rfl,rfl⟩:=hR.ends hI eG;exact hQ a w ρ h
 intro fuel;induction fuel with
 |zero=>
  intro listed ρ σ bx a w bP hf hI h;have uy:Region.ready .any ops listed=[]:=by
   cases hr:Region.ready .any ops listed with
   |nil=>rfl
   |cons i rs=>
    obtain⟨h1,o,h2,_⟩:=mem_ready.1 (show i∈Region.ready .any ops listed by rw[hr];simp);have hi:i<ops.size:=(Array.getElem?_eq_some_iff.1 h2).1;have:i∈(List.range ops.size).filter fun j=> !listed.getD j false:=by
     rw[List.mem_filter,List.mem_range];refine⟨hi,?_⟩;have jF:i<listed.size:=oM;simp only[Array.getD,jF,dif_pos]at h1⊢;simpa using h1
    have:=List.length_pos_of_mem this;omega
  exact⟨uy,CA listed ρ σ bx a w uy hI bP h⟩
 |succ fuel ih=>
  intro listed ρ σ bx a w bP hf hI h;refine⟨fun hr=>CA listed ρ σ bx a w hr hI bP h,fun i hi=>?_⟩;obtain⟨h1,o,h2,h3⟩:=mem_ready.1 hi;have G7:ops.toList[i]? =some o:=by rw[aG];exact h2
  have dH:i<ops.size:=(Array.getElem?_eq_some_iff.1 h2).1;have jF:i<listed.size:=oM;have hn:¬listed.getD i false=true:=by
   have e:listed.getD i true=listed.getD i false:=by simp[Array.getD,jF]
   rw[<-e,h1];simp
  obtain⟨f1,f2⟩:=hR.Zi hI G7 hn h3;have gG:∀j,(listed.setIfInBounds i true).getD j false=true<->listed.getD j false=true\/j=i:=by
   intro j;by_cases gU:j=i
   ·subst gU;simp[Array.getD,jF]
   ·rw[getD_set_ne false (Ne.symm gU)];simp[gU]
  unfold wpOpIn;rw[h2];dsimp only;refine qQ h hG ng (ct o (by rw[Array.mem_toList_iff];exact Array.mem_of_getElem? h2)) ((hR.at_ i o G7).2.run σ bx f1 f2 (fun c σ' bx'=>(∀x,c≠ .cU x)/\σ'=put σ o.dst (vs i)/\bx'=gk (cs i) (bs (i+1)) bx) ⟨(hR.at_ i o G7).2.np,rfl,rfl⟩) ?_ (fun d σ' bx' a' w' ρ' v hk _ _=>absurd rfl (hk.1 d));rintro c σ' bx' a' w' ρ' _ ⟨_,rfl,rfl⟩ h';refine ih _ ρ' _ _ a' w' (by simp[bP]) ?_ (hR.goes hI G7 hn h3 gG) h';have:((List.range ops.size).filter fun j=> !(listed.setIfInBounds i true).getD j false).length<((List.range ops.size).filter fun j=> !listed.getD j false).length:=by
   refine filter_lt (fun j _ hj=>?_) ⟨i,List.mem_range.2 dH,by simpa using hn,?_⟩
   ·cases hl:listed.getD j false with
    |false=>rfl
    |true=>
     have:=(gG j).2 (.inl hl);rw[this]at hj;simp at hj
   ·have:=(gG i).2 (.inr rfl);rw[this];rfl
  omega
def sQ{full:List Oper}(h:Ai full=true):
 (∀(j:Nat) o,full[j]? =some o->o.guard=none/\∀e∈o.after,Region.binds .any e=true->e.on<j)/\
 ∀(i j:Nat) o o',full[j]? =some o->full[i]? =some o'->i≠j->ordered (Region.before full.toArray) i j=false->
  (∀d,o'.dst=some d->d∉tmpsOf full o)/\(∀d,o.dst=some d->d∉tmpsOf full o'):=by
 simp only[Ai,List.all_eq_true,bA]at h;refine⟨fun j o ho=>⟨?_,fun e he VQ=>?_⟩,fun i j o o' ho jM ph DR=>?_⟩
 ·have:=(h (o,j) (List.mem_zipIdx_iff_getElem?.2 ho)).1.1;simpa using this
 ·have:=(h (o,j) (List.mem_zipIdx_iff_getElem?.2 ho)).1.2 e (by simpa using he);rw[VQ]at this;simpa using this
 ·have:=(h (o,j) (List.mem_zipIdx_iff_getElem?.2 ho)).2 (o',i) (List.mem_zipIdx_iff_getElem?.2 jM);simp only[Bool.or_eq_true,beq_iff_eq,ph,DR,Bool.false_eq_true,false_or,bA]at this;obtain⟨h1,h2⟩:=this;refine⟨fun d hd=>?_,fun d hd=>?_⟩
  ·rw[hd]at h1;simpa using h1
  ·rw[hd]at h2;simpa using h2
theorem nu{full:List Oper}{L:Nat->Bool}{i:Nat}:si full L i=true<->L i=false/\∃o,full[i]? =some o/\∀e∈o.after,Region.binds .any e=true->L e.on=true:=by
 unfold si;cases hL:L i with
 |true=>simp
 |false=>
  cases ho:full[i]? with
  |none=>simp
  |some o=>
   simp only[nF,Bool.true_and,List.all_eq_true,Bool.or_eq_true,Bool.not_eq_true',true_and,sJ,exists_eq_left'];constructor
   ·intro h e he hb;rcases h e (by simpa using he)with h|h
    ·rw[hb]at h;cases h
    ·exact h
   ·intro h e he;cases hb:Region.binds .any e with
    |false=>exact .inl rfl
    |true=>exact .inr (h e (by simpa using he) hb)
def vf(full:List Oper)(L:Nat->Bool):Prop:=∀(i:Nat) o,full[i]? =some o->L i=true->∀e∈o.after,Region.binds .any e=true->L e.on=true
def ui{L:Nat->Bool}{i k:Nat}:mA L i k=true<->L k=true\/k=i:=by simp[mA,Or.comm]
def Em(L:Nat->Bool)(i j:Nat):mA (mA L i) j=mA (mA L j) i:=by funext k;simp only[mA];cases k==i<;>cases k==j<;>rfl
theorem vf.add{full:List Oper}{L:Nat->Bool}(h:vf full L){i:Nat}(hi:si full L i=true):vf full (mA L i):=by
 intro k o hk hL e he hb;obtain⟨_,o',jM,ha⟩:=nu.1 hi;refine ui.2 (.inl ?_);rcases ui.1 hL with h1|rfl
 ·exact h k o hk h1 e he hb
 ·rw[jM]at hk;injection hk with hk;subst hk;exact ha e he hb
def z_{full:List Oper}{L:Nat->Bool}{i j:Nat}(hj:si full L j=true)(ph:j≠i):si full (mA L i) j=true:=by
 obtain⟨h1,o,ho,h2⟩:=nu.1 hj;refine nu.2 ⟨?_,o,ho,fun e he hb=>ui.2 (.inl (h2 e he hb))⟩;simp[mA,h1,ph]
def BA{full:List Oper}(hT:Ai full=true){L:Nat->Bool}(hL:vf full L){i j:Nat}(hi:si full L i=true)(hj:si full L j=true)(ph:i≠j):ordered (Region.before full.toArray) i j=false:=by
 obtain⟨hb,_⟩:=sQ hT;have pN:∀(i:Nat) o,full[i]? =some o->L i=true->∀e∈o.after,Region.binds .any e=true->L e.on=true/\e.on<i:=fun i o h1 h2 e h3 h4=>⟨hL i o h1 h2 e h3 h4,(hb i o h1).2 e h3 h4⟩
 obtain⟨jE,oi,gx,hi3⟩:=nu.1 hi;obtain⟨oc,oj,yD,NF⟩:=nu.1 hj;cases h:ordered (Region.before full.toArray) i j with
 |false=>rfl
 |true=>
  unfold ordered at h;rcases Nat.lt_or_gt_of_ne ph with ar|V4
  ·rw[Nat.max_eq_right oM,Nat.min_eq_left oM]at h;have:=oP (L:=fun k=>L k=true) pN j oj yD (fun e h1 h2=>⟨NF e h1 h2,(hb j oj yD).2 e h1 h2⟩) i h;rw[jE]at this;cases this
  ·rw[Nat.max_eq_left oM,Nat.min_eq_right oM]at h;have:=oP (L:=fun k=>L k=true) pN i oi gx (fun e h1 h2=>⟨hi3 e h1 h2,(hb i oi gx).2 e h1 h2⟩) j h;rw[oc]at this;cases this
theorem Ht{o:Oper}(h:DY o=true):(∀T a,o.op≠ .load T a)/\∀ {σ:Env} {bx:ae} {K:Cl->Env->ae->Prop} {v:D},cQ P σ bx o.op=some v->K .n (put σ o.dst v) bx->bp P C o σ bx K:=by
 obtain⟨dst,op,ty,pos,af,g⟩:=o;cases op<;>first
  |(simp[DY]at h;done)
  |exact⟨by simp,fun hv hK=>by
   simp only[bp,fA];dsimp only at hv hK;rw[hv];exact hK⟩
theorem I2{o:Oper}(h:Hv o=true):∃T a,o.op= .load T a:=by
 obtain⟨dst,op,ty,pos,af,g⟩:=o;cases op<;>first
  |(simp[Hv]at h;done)
  |exact⟨_,_,rfl⟩
theorem HY{σ:Env}{d d':Option Tmp}{x y:D}(h:∀t,d=some t->d'≠some t):put (put σ d x) d' y=put (put σ d' y) d x:=by
 cases d with
 |none=>rfl
 |some t=>
  cases d' with
  |none=>rfl
  |some t'=>
   have bq:t≠t':=fun e=>h t rfl (by rw[e]);funext k;simp only[put,ak];by_cases h1:k=t<;>by_cases h2:k=t'<;>simp[h1,h2]
   ·exact absurd (h1.symm.trans h2) bq
   ·intro e;exact absurd e bq
   ·intro e;exact absurd e.symm bq
def uk{full:List Oper}{o:Oper}{d:Option Tmp}{x:D}(h:∀t,d=some t->t∉tmpsOf full o):Alike σ (put σ d x) o.op/\Alike (put σ d x) σ o.op:=by
 have key:∀t∈o.looksAt full.toArray,put σ d x t=σ t:=by
  intro t ht;cases d with
  |none=>rfl
  |some t'=>
   have:t≠t':=fun e=>h t' rfl (by rw[<-e];exact List.mem_append_right _ ht);simp[put,ak,this]
 exact⟨nM key,nM fun t ht=>(key t ht).symm⟩
theorem E2{base:Nat}{bx bx':ae}:∀ {l:List Nat},wH base bx bx' l->∀s∈l,bx' (base+s)=bx (base+s)
 |[],_,s,hs=>by cases hs
 |s::l,h,s',hs=>by
  rcases List.mem_cons.1 hs with rfl|hs
  ·exact h.1
  ·exact E2 h.2 s' hs
theorem vI{full:List Oper}:∀(t:qY) {L:Nat->Bool} {F F':List (Nat×Nat)} {me:List Nat},(∀p∈F',p∈F)->eA full L F me t=true->eA full L F' me t=true
 | .fin,_,_,_,_,_,h=>h
 | .stop,_,_,_,_,_,h=>h
 | .bm i n,L,F,F',me,hF,h=>by
   simp only[eA,bA]at h⊢;exact⟨h.1,vI n hF h.2⟩
 | .load i s n,L,F,F',me,hF,h=>by
   simp only[eA,bA]at h⊢;refine⟨h.1,vI n (fun p hp=>?_) h.2⟩;rcases List.mem_cons.1 hp with rfl|hp
   ·exact List.mem_cons_self
   ·exact List.mem_cons_of_mem _ (hF p hp)
 | .both i jb a r,L,F,F',me,hF,h=>by
   simp only[eA,bA,List.all_eq_true]at h⊢;exact⟨⟨⟨h.1.1.1,fun p hp=>h.1.1.2 p (hF p hp)⟩,vI a hF h.1.2⟩,vI r hF h.2⟩
def TT(ll:C.yl=none)(rq:C.pn=false)(nf:C.df=false){full:List Oper}(hT:Ai full=true){Pn:D->ae->Prop}{Q:Env->ae->Prop}:∀(t:qY) (L:Nat->Bool) (F:List (Nat×Nat)) (me:List Nat) (σ:Env) (bx:ae),vf full L->
 eA full L F me t=true->k_ P C full Pn Q t σ bx->∀(j:Nat) o,full[j]? =some o->si full L j=true->j∉me->
 bp P C o σ bx fun c σ' bx'=>jn c (D5 Pn c bx') ((∀p∈F,ordered (Region.before full.toArray) p.1 j=false->bx' (C.base+p.2)=bx (C.base+p.2))/\∃t',eA full (mA L j) F [] t'=true/\k_ P C full Pn Q t' σ' bx'):=by
 intro t;induction t with
 |fin=>
  intro L F me σ bx hL bD hs j o hj hr hc;simp only[eA,bA,List.all_eq_true,List.mem_range]at bD;have:=bD.2 j (gS.1 hj).1;rw[hr]at this;cases this
 |stop=>
  intro L F me σ bx hL bD hs j o hj hr hc;simp only[eA,bA,List.all_eq_true,List.mem_range]at bD;have:=bD.2 j (gS.1 hj).1;rw[hr]at this;exact absurd (by simpa using this) hc
 |bm i n ih=>
  intro L F me σ bx hL bD hs j o hj hr hc;simp only[eA,bA]at bD;obtain⟨⟨⟨aeb,uz⟩,bF⟩,Ha⟩:=bD;obtain⟨_,oi,hi,_⟩:=nu.1 uz;simp only[hi]at bF;obtain⟨AD,bw⟩:=Ht (P:=P) (C:=C) bF;simp only[k_,oX,hi]at hs;cases hv:cQ P σ bx oi.op with
  |none=>rw[hv]at hs;exact hs.elim
  |some v=>
   rw[hv]at hs;simp only[aK]at hs;by_cases gU:j=i
   ·subst gU;rw[hi]at hj;injection hj with hj;subst hj;exact bw hv ⟨fun _ _ _=>rfl,n,Ha,hs⟩
   ·obtain⟨h1,h2⟩:=(sQ hT).2 i j o oi hj hi (Ne.symm gU) (BA hT hL uz hr (Ne.symm gU));have qy:=ih (mA L i) F [] _ bx (hL.add uz) Ha hs j o hj (z_ hr gU) sI;obtain⟨R,EK,EL⟩:=Ds ll rq nf qy;refine EL σ (uk h1).2 _ fun c x bx' hx=>nO id (fun g=>⟨g.1,?_⟩) (EK c x bx' hx);obtain⟨t',oG,dW⟩:=g.2;refine⟨.bm i t',?_,?_⟩
    ·simp only[eA,bA];refine⟨⟨⟨rfl,z_ uz (Ne.symm gU)⟩,?_⟩,?_⟩
     ·simp only[hi];exact bF
     ·rw[Em];exact oG
    ·simp only[k_,oX,hi];rw[xv (σ:=σ) (bx:=bx) (uk h2).1 AD,hv];simp only[aK];rw[HY (fun t e e'=>h2 t e (List.mem_append_left _ (by simp[e'])))];exact dW
 |load i s n ih=>
  intro L F me σ bx hL bD hs j o hj hr hc;simp only[eA,bA]at bD;obtain⟨⟨⟨aeb,uz⟩,bF⟩,Ha⟩:=bD;obtain⟨_,oi,hi,_⟩:=nu.1 uz;simp only[hi]at bF;obtain⟨T,a,po⟩:=I2 bF;simp only[k_,oX,hi,zY,po]at hs;obtain⟨mP,hs⟩:=hs;cases hv:iF (an P T) bx (ev σ a)with
  |none=>rw[hv]at hs;exact hs.elim
  |some v=>
   rw[hv]at hs;simp only[aK]at hs;by_cases gU:j=i
   ·subst gU;rw[hi]at hj;injection hj with hj;subst hj;obtain⟨dst,op,ty,pos,af,g⟩:=oi;dsimp only at po;subst po;simp only[bp,hv,aK];have Wb:=BH (ev σ a);have:∀x y:Prop,y->jn (nY (ev σ a)) x y:=fun x y hy=>by rw[tg Wb];exact hy
    exact this _ _ ⟨fun _ _ _=>rfl,n,vI n (fun p hp=>List.mem_cons_of_mem _ hp) Ha,hs⟩
   ·obtain⟨h1,h2⟩:=(sQ hT).2 i j o oi hj hi (Ne.symm gU) (BA hT hL uz hr (Ne.symm gU));have qy:=ih (mA L i) ((i,s)::F) [] _ bx (hL.add uz) Ha hs j o hj (z_ hr gU) sI;obtain⟨R,EK,EL⟩:=Ds ll rq nf qy;refine EL σ (uk h1).2 _ fun c x bx' hx=>nO id (fun g=>⟨fun p hp=>g.1 p (List.mem_cons_of_mem _ hp),?_⟩) (EK c x bx' hx);obtain⟨t',oG,dW⟩:=g.2;have hkp:bx' (C.base+s)=bx (C.base+s):=g.1 (i,s) List.mem_cons_self (BA hT hL uz hr (Ne.symm gU));refine⟨.load i s t',?_,?_⟩
    ·simp only[eA,bA];refine⟨⟨⟨rfl,z_ uz (Ne.symm gU)⟩,?_⟩,?_⟩
     ·simp only[hi];exact bF
     ·rw[Em];exact oG
    ·simp only[k_,oX,hi,zY,po];have dw:=(uk (σ:=σ) (x:=x) h2).1 a (by rw[po];simp[Op.operands]);rw[dw];refine⟨mP,?_⟩;rw[AM (bx:=bx) fun s' uA=>by
      rcases mP with e|e<;>rw[e]at uA
      ·simp[Cl.rd]at uA
      ·have:s'=C.base+s:=by simpa[Cl.rd]using uA
       rw[this];exact hkp,hv]
     simp only[aK];rw[HY (fun t e e'=>h2 t e (List.mem_append_left _ (by simp[e'])))];exact dW
 |both i jb a r iha ihr=>
  intro L F me σ bx hL bD hs j o hj hr hc;simp only[eA,bA]at bD;obtain⟨⟨⟨uz,Zr⟩,ael⟩,aem⟩:=bD;simp only[k_]at hs;by_cases gU:j=i
  ·subst gU;have h:=hs.1;simp only[hj,oX]at h;refine sP (fun c σ' bx'=>nO id fun g=>⟨fun p hp ho=>?_,a,ael,g.2⟩) h;have:=(List.all_eq_true.1 Zr) p hp;rw[ho]at this;exact E2 g.1 p.2 (by simpa using this)
  ·exact ihr L F (i::me) σ bx hL aem hs.2 j o hj hr (by simp[gU,hc])
theorem TU{full:List Oper}{Pn:D->ae->Prop}{Q:Env->ae->Prop}{L:Nat->Bool}{F:List (Nat×Nat)}(hn:∀j,si full L j=false):∀ {t:qY},eA full L F [] t=true->k_ P C full Pn Q t σ bx->Q σ bx
 | .fin,_,hs=>hs
 | .stop,h,_=>by simp[eA]at h
 | .bm i n,h,_=>by simp only[eA,hn i]at h;simp at h
 | .load i s n,h,_=>by simp only[eA,hn i]at h;simp at h
 | .both i k a r,h,_=>by simp only[eA,hn i]at h;simp at h
def OB{ops:Array Oper}(ll:C.yl=none)(rq:C.pn=false)(nf:C.df=false)(hT:Ai ops.toList=true)(hG:Good P C X)(ng:∀l,r=some l->X.md=1)(ct:∀o∈ops.toList,∀t,o.dst=some t->t<X.N)
 {Pn:D->ae->Prop} {Qd:Env->ae->Prop} {Q:Exit->Act->World->Prop} (hQ:∀σ bx a' w' ρ',Qd σ bx->aA X ρ' σ bx a' w'->Q .normal a' w')
 (hP:∀d σ' bx' a' w' ρ' v,Pn d bx'->aA X ρ' σ' bx' a' w'->aH w' (az X ρ' bx' w') ρ' d v->Q (.panic [pe v]) a' w'):∀(fuel:Nat) (listed:Array Bool) (t:qY) (ρ:cM) (σ:Env) (bx:ae) (a:Act) (w:World),listed.size=ops.size->
  ((List.range ops.size).filter fun j=> !listed.getD j false).length<=fuel->vf ops.toList (fun j=>listed.getD j false)->eA ops.toList (fun j=>listed.getD j false) [] [] t=true->k_ P C ops.toList Pn Qd t σ bx->aA X ρ σ bx a w->wpAnyIn (Fw r) n P .any ops Q fuel listed a w:=by
 have Wh:∀(listed:Array Bool),listed.size=ops.size->∀j,si ops.toList (fun j=>listed.getD j false) j=true<->j∈Region.ready .any ops listed:=by
  intro listed bP j;rw[nu,mem_ready];constructor
  ·rintro⟨h1,o,h2,h3⟩;have hj:j<ops.size:=by
    have:=(gS.1 h2).1;simpa using this
   have pQ:j<listed.size:=oM;refine⟨?_,o,by rw[<-aG];exact h2,h3⟩;simp only[Array.getD,pQ,dif_pos]at h1⊢;exact h1
  ·rintro⟨h1,o,h2,h3⟩;have hj:j<ops.size:=(Array.getElem?_eq_some_iff.1 h2).1;have pQ:j<listed.size:=oM;refine⟨?_,o,by rw[aG];exact h2,h3⟩;simp only[Array.getD,pQ,dif_pos]at h1⊢;exact h1
 have CA:∀(listed:Array Bool) (t:qY) (ρ:cM) (σ:Env) (bx:ae) (a:Act) (w:World),listed.size=ops.size->Region.ready .any ops listed=[]->eA ops.toList (fun j=>listed.getD j false) [] [] t=true->k_ P C ops.toList Pn Qd t σ bx->aA X ρ σ bx a w->Q .normal a w:=by
  intro listed t ρ σ bx a w bP hr bD hs h;refine hQ σ bx a w ρ (TU (fun j=>?_) bD hs) h;cases hj:si ops.toList (fun j=>listed.getD j false) j with
  |false=>rfl
  |true=>
   have:=(Wh listed bP j).1 hj;rw[hr]at this;cases this
 intro fuel;induction fuel with
 |zero=>
  intro listed t ρ σ bx a w bP hf fJ bD hs h;have uy:Region.ready .any ops listed=[]:=by
   cases hr:Region.ready .any ops listed with
   |nil=>rfl
   |cons i rs=>
    obtain⟨h1,o,h2,_⟩:=mem_ready.1 (show i∈Region.ready .any ops listed by rw[hr];simp);have hi:i<ops.size:=(Array.getElem?_eq_some_iff.1 h2).1;have:i∈(List.range ops.size).filter fun j=> !listed.getD j false:=by
     rw[List.mem_filter,List.mem_range];refine⟨hi,?_⟩;have jF:i<listed.size:=oM;simp only[Array.getD,jF,dif_pos]at h1⊢;simpa using h1
    have:=List.length_pos_of_mem this;omega
  exact⟨uy,CA listed t ρ σ bx a w bP uy bD hs h⟩
 |succ fuel ih=>
  intro listed t ρ σ bx a w bP hf fJ bD hs h;refine⟨fun hr=>CA listed t ρ σ bx a w bP hr bD hs h,fun i hi=>?_⟩;have uz:=(Wh listed bP i).2 hi;obtain⟨h1,o,h2,h3⟩:=mem_ready.1 hi;have G7:ops.toList[i]? =some o:=by rw[aG];exact h2
  have dH:i<ops.size:=(Array.getElem?_eq_some_iff.1 h2).1;have jF:i<listed.size:=oM;have hn:¬listed.getD i false=true:=by
   have e:listed.getD i true=listed.getD i false:=by simp[Array.getD,jF]
   rw[<-e,h1];simp
  have gG:∀j,(listed.setIfInBounds i true).getD j false=true<->listed.getD j false=true\/j=i:=by
   intro j;by_cases gU:j=i
   ·subst gU;simp[Array.getD,jF]
   ·rw[getD_set_ne false (Ne.symm gU)];simp[gU]
  have K4:(fun j=>(listed.setIfInBounds i true).getD j false)=mA (fun j=>listed.getD j false) i:=by
   funext j;refine Bool.eq_iff_iff.2 ?_;rw[gG,ui]
  unfold wpOpIn;rw[h2];dsimp only;have bw:=TT ll rq nf hT t _ [] [] σ bx fJ bD hs i o G7 uz sI;refine qQ h hG ng (ct o (by rw[Array.mem_toList_iff];exact Array.mem_of_getElem? h2)) (K:=fun c σ' bx'=>jn c (D5 Pn c bx') ((∀p∈([]:List (Nat×Nat)),ordered (Region.before ops.toList.toArray) p.1 i=false->bx' (C.base+p.2)=bx (C.base+p.2))/\∃t',eA ops.toList (mA (fun j=>listed.getD j false) i) [] [] t'=true/\k_ P C ops.toList Pn Qd t' σ' bx')) (by
   unfold qP;rw[((sQ hT).1 i o G7).1];exact bw) ?_ (fun d σ' bx' a' w' ρ' v hk h' hr=>hP d σ' bx' a' w' ρ' v hk h' hr)
  intro c σ' bx' a' w' ρ' hc hk h';rw[tg hc]at hk;obtain⟨t',oG,dW⟩:=hk.2;refine ih _ t' ρ' σ' bx' a' w' (by simp[bP]) ?_ (by rw[K4];exact fJ.add uz) (by rw[K4];exact oG) dW h';have:((List.range ops.size).filter fun j=> !(listed.setIfInBounds i true).getD j false).length<((List.range ops.size).filter fun j=> !listed.getD j false).length:=by
   refine filter_lt (fun j _ hj=>?_) ⟨i,List.mem_range.2 dH,by simpa using hn,?_⟩
   ·cases hl:listed.getD j false with
    |false=>rfl
    |true=>
     have:=(gG j).2 (.inl hl);rw[this]at hj;simp at hj
   ·have:=(gG i).2 (.inr rfl);rw[this];rfl
  omega
end Go.V
namespace Go.V
open Go.RowKit
variable {P:Program} {C:Calc} {X:Ctx} {ρ:cM} {σ:Env} {bx:ae} {a:Act} {w:World} {r:Option Nat} {n:Nat}
def XG{ops:List Oper}{acc:List Cl}{id:Nat}{cs:Nat->Cl}{vs:Nat->D}{σs:Nat->Env}{bs:Nat->ae}{tab:List (Nat×List (Nat×Nat))}(bD:Cd ops (nU tab id)=true)(mD:acc=((List.range ops.length).map cs).reverse)(JF:Et (nU tab id) acc)
 (fN:∀(k:Nat) o,ops[k]? =some o->σs (k+1)=put (σs k) o.dst (vs k)/\FV P C ops o (σs k) (bs k) (cs k) (vs k) (bs (k+1))):qe P C ops cs vs σs bs:=by
 obtain⟨sA,RS⟩:=IQ bD;refine⟨fN,sA,fun i j o o' hj hi ph DR=>?_⟩;obtain⟨h1,h2,h3⟩:=RS i j o o' hj hi ph DR;have Zx:ordered (Region.before ops.toArray) j i=false:=by rw[<-DR];simp[ordered,Nat.max_comm,Nat.min_comm]
 obtain⟨_,_,GP⟩:=RS j i o' o hi hj (Ne.symm ph) Zx;refine⟨h1,fun s hw hr=>?_⟩;have pQ:=(gS.1 hj).1;have jF:=(gS.1 hi).1;have hEi:=(fN i o' hi).2;have hEj:=(fN j o hj).2;have hwi:eQ o'.op=2:=by
  rcases Nat.decEq (eQ o'.op) 2 with bq|he
  ·have:=hEi.Sj bq s;rw[hw]at this;cases this
  ·exact he
 have tH:eQ o.op≠0:=fun h0=>by
  have:=hEj.Si h0;rw[this]at hr;simp[Cl.rd]at hr
 have eo:∀k,k<ops.length->acc[ops.length - 1 - k]? =some (cs k):=by
  intro k hk;rw[mD,List.getElem?_reverse (by simp;omega)];simp only[List.length_map,List.length_range];have:ops.length - 1 - (ops.length - 1 - k)=k:=oM;rw[this,gM,List.getElem?_range hk];rfl
 rcases GP hwi tH with hm|hm
 ·have:=Gk JF _ _ hm;rw[eo i jF,eo j pQ]at this;exact(F8 this s).1 hw hr
 ·have:=Gk JF _ _ hm;rw[eo i jF,eo j pQ]at this;exact(F8 this s).2 hw hr
theorem Good.As(h:Good P C X):Good P C.As X:=
 ⟨⟨h.ok.to,fun _ _ _ _ _ _ hf=>hf.elim,fun _ _ _ _ hf=>hf.elim,fun _ _ _ _ _ hf=>hf.elim⟩,h.lo,h.base,(fun _ _ _ hf=>by cases hf),(fun hf=>by cases hf),fun _ _ _ _ _ h=>h,fun _ _ _ _ _ _ h=>h⟩
theorem Good.dra(h:Good P C X):Good P ⟨C.o,C.tab,C.base,C.bk,C.lo,none,false,false⟩ X:=
 ⟨h.ok,h.lo,h.base,(fun _ _ _ hf=>by cases hf),(fun hf=>by cases hf),h.it,h.AL⟩
def py(w:World)(l:Nat)(o:Obj):Fr (fun k=>k=l) w (w.putObj l o):=
 ⟨rfl,rfl,rfl,by simp,fun k _ hk=>World.putObj_heap_other hk⟩
def XR(w:World)(S:Nat->Prop)(ρ:cM):DX->Exit->Prop
 | .normal,.normal=>True
 | .ret,.ret=>True
 | .exit i,.exit j=>i=j
 | .goto i,.goto j=>i=j
 | .cU d,.panic ch=>∃v,ch=[pe v]/\aH w S ρ d v
 |_,_=>False
theorem XR.cases{S:Nat->Prop}{e:DX}{e':Exit}(h:XR w S ρ e e'):(e= .normal/\e'= .normal)\/(e= .ret/\e'= .ret)\/(∃i,e= .exit i/\e'= .exit i)\/(∃l,e= .goto l/\e'= .goto l)\/∃d v,e= .cU d/\e'= .panic [pe v]/\aH w S ρ d v:=by
 cases e with
 |normal=>cases e'<;>first|exact h.elim|exact .inl ⟨rfl,rfl⟩
 |ret=>cases e'<;>first|exact h.elim|exact .inr (.inl ⟨rfl,rfl⟩)
 |exit i=>cases e' with
  |exit j=>have:i=j:=h;subst this;exact .inr (.inr (.inl ⟨i,rfl,rfl⟩))
  |_=>exact h.elim
 |goto i=>cases e' with
  |goto j=>have:i=j:=h;subst this;exact .inr (.inr (.inr (.inl ⟨i,rfl,rfl⟩)))
  |_=>exact h.elim
 |cU d=>cases e' with
  |panic ch=>obtain⟨v,rfl,hr⟩:=h;exact .inr (.inr (.inr (.inr ⟨d,v,rfl,rfl,hr⟩)))
  |_=>exact h.elim
def Sound(P:Program)(c:Code):Prop:=
 ∀(r:Option Nat) (n:Nat) (C:Calc) (X:Ctx) (Qd:DX->Env->ae->Prop) (Q:Exit->Act->World->Prop) (ρ:cM) (σ:Env) (bx:ae) (a:Act) (w:World),Good P C X->(∀l,r=some l->X.md=1/\∃rc,X.r0.hold l=some (.loop rc)/\¬X.E l)->
  dA C.tab X.N c=true->aA X ρ σ bx a w->cR P C c Qd σ bx->(∀e e' σ' bx' a' w' ρ',XR w' (az X ρ' bx' w') ρ' e e'->Qd e σ' bx'->aA X ρ' σ' bx' a' w'->Q e' a' w')->c.wpIn (Fw r) n P Q a w
theorem BZ{S:Nat->Prop}:∀(ps:List Tmp) (it:List D) (us:List Value) (σ:Env) (tm:Array Value),us.length=it.length->it.length=ps.length->(∀t∈ps,t<tm.size)->(∀(i:Nat) x v,it[i]? =some x->us[i]? =some v->aH w S ρ x v)->(∀t,aH w S ρ (σ t) (tm.getD t undef))->
 ((ps.zip us).foldl (fun tmps (x:Tmp×Value)=>tmps.setIfInBounds x.1 x.2) tm).size=tm.size/\∀t,aH w S ρ (ku σ ps it t) (((ps.zip us).foldl (fun tmps (x:Tmp×Value)=>tmps.setIfInBounds x.1 x.2) tm).getD t undef)
 |[],it,us,σ,tm,_,h2,_,_,h=>by
  cases it with
  |nil=>exact⟨rfl,h⟩
  |cons _ _=>simp at h2
 |p::ps,it,us,σ,tm,h1,h2,ar,hr,h=>by
  cases it with
  |nil=>simp at h2
  |cons d it=>
   cases us with
   |nil=>simp at h1
   |cons u us=>
    have:=BZ ps it us (ak σ p d) (tm.setIfInBounds p u) (by simpa using h1) (by simpa using h2) (fun t ht=>by simpa using ar t (List.mem_cons_of_mem _ ht)) (fun i x v hx hv=>hr (i+1) x v (by simpa using hx) (by simpa using hv)) (fun t=>by
     by_cases e:t=p
     ·subst e;have hl:=ar t (List.mem_cons_self ..);have e2:(tm.setIfInBounds t u).getD t undef=u:=by simp[Array.getD,hl]
      rw[e2];simp only[ak,if_true];exact hr 0 d u rfl rfl
     ·have e2:(tm.setIfInBounds p u).getD t undef=tm.getD t undef:=by simp only[Array.getD_eq_getD_getElem?,Array.getElem?_setIfInBounds_ne (Ne.symm e)]
      rw[e2];simp only[ak,e,if_false];exact h t)
    refine⟨?_,this.2⟩;have h1:=this.1;simp only[List.zip_cons_cons,List.foldl_cons];rw[h1];simp
def FX(bk:Nat)(Qd:DX->Env->ae->Prop)(σ:Env):Code->ae->Prop
 | .ret,c=>∀bK,bU bk bK=c->Qd .ret σ bK
 | .exit id,c=>∀bK,bU bk bK=c->Qd (.exit id) σ bK
 |_,_=>False
def zr{assign body:Code}(hA:Sound P assign)(hB:Sound P body){ps:Array Tmp}{l ext:Nat}{rc:Loop}{items:List (List D)}{J:Nat->ae->Prop}{Qd:DX->Env->ae->Prop}(hG:Ok P C.o)(bF:C.lo=0)(ll:C.yl=none)
 (bD:(∀t∈ps.toList,t<X.N)/\dA C.tab X.N assign=true/\dA C.tab X.N body=true)
 (hrc:rc.state= .ready/\rc.pending=none/\rc.tmps=a.tmps/\rc.params=ps/\rc.assign=assign/\rc.body=body)
 (hr:∀n it bx1,items[n]? =some it->J n (bU C.bk bx1)->it.length=ps.size/\
  cR P ⟨C.o,C.tab,C.base,C.bk+ext,C.lo,C.yl,false,false⟩ assign (dG (cR P ⟨C.o,C.tab,C.base,C.bk+ext,C.lo,C.yl,false,false⟩ body (pZ C.bk ext J n Qd σ bx1)) Fa) (ku σ ps.toList it) bx1):
 DE P X l rc C.bk ext items J (FX C.bk Qd σ) σ a:=by
 obtain⟨st,pe,fn,tm,pr,as,bd,df⟩:=rc;obtain⟨bw,hpe,AH,CI,has,hbd⟩:=hrc;simp only at bw hpe AH CI has hbd;subst bw;subst hpe;subst AH;subst CI;subst has;subst hbd;intro n it ρ1 bx1 w1 us hi h hl hJ hul gL;obtain⟨jF,xF⟩:=hr n it bx1 hi hJ;have sb:=(h.hold l _ hl).1;have RU:l<w1.heap.size:=(Array.getElem?_eq_some_iff.1 sb).1;refine⟨fn,_,as,bd,run_yield sb (by rw[hul,jF]),fun m=>roundIn_of_wpIn trivial ?_⟩;have hlen:(pr.zip us).toList=pr.toList.zip us.toList:=by simp
 obtain⟨bP,ZC⟩:=BZ (w:=w1) (ρ:=ρ1) (S:=az X ρ1 bx1 w1) pr.toList it us.toList σ a.tmps (by simpa using hul) (by simpa using jF) (fun t ht=>by rw[h.size];exact bD.1 t ht) (fun i x v hx hv=> .pure (gL i x v hx (by simpa using hv))) h.tmps;have e1:(pr.zip us).foldl (fun tmps (x:Tmp×Value)=>tmps.setIfInBounds x.1 x.2) a.tmps=(pr.toList.zip us.toList).foldl (fun tmps (x:Tmp×Value)=>tmps.setIfInBounds x.1 x.2) a.tmps:=by rw[<-hlen,Array.foldl_toList]
 have hE:∀b,b=l->∀o,w1.heap[b]? =some o->Obj.nk o=false:=by
  rintro b rfl o ho;rw[sb]at ho;injection ho with ho;subst ho;rfl
 have hc:aA (X.sub ρ1 bx1 w1 (fun b=>b=l) X.N 0 1) ρ1 (ku σ pr.toList it) bx1 {tmps:=(pr.zip us).foldl (fun tmps (x:Tmp×Value)=>tmps.setIfInBounds x.1 x.2) a.tmps,defers:=[]} w1:=
  h.sub h.pU hE (by rw[e1,bP];exact h.size) (.inl rfl) (Nat.zero_le _) (by rw[e1];exact ZC)
 generalize hY:X.sub ρ1 bx1 w1 (fun b=>b=l) X.N 0 1=Y at hc;have hYS:Y.S0=X.S0/\Y.n0=X.n0/\Y.w0=w1/\Y.r0=ρ1/\Y.N=X.N/\Y.lo=0/\(Y.E l/\∀b,Y.E b->b=l\/Bj ρ1 bx1 b)/\Y.md=1:=by rw[<-hY];exact⟨rfl,rfl,rfl,rfl,rfl,rfl,⟨.inl rfl,fun _ h=>h⟩,rfl⟩
 obtain⟨yS,yn,yw,yr,yN,ylo,yE,ymd⟩:=hYS;have run:∀(c:Code),Sound P c->dA C.tab X.N c=true->∀(Qc:DX->Env->ae->Prop) (Qm:Exit->Act->World->Prop) (ρa:cM) (σa:Env) (xA:ae) (aa:Act) (wa:World) (Ia:Loop),ρa.hold l=some (.loop Ia)->aA Y ρa σa xA aa wa->
  cR P ⟨C.o,C.tab,C.base,C.bk+ext,C.lo,C.yl,false,false⟩ c Qc σa xA->(∀e e' σ' bx' a' w' ρ',XR w' (az Y ρ' bx' w') ρ' e e'->Qc e σ' bx'->aA Y ρ' σ' bx' a' w'->ρ'.hold l=some (.loop Ia)->Qm e' a' w')->c.wpIn (Fw (some l)) m P Qm aa wa:=by
  intro c hS aea Qc Qm ρa σa xA aa wa Ia sC qz xF hq;have u9:=qz.sub (E:=fun _=>False) (N:=X.N) (ml:=Y.ml) (md:=1) (σ':=σa) (a':=aa) h.pU (fun b hb=>hb.elim) (by rw[qz.size,yN]) (.inl rfl) (Nat.le_trans qz.rA qz.fr.size) qz.tmps;refine hS (some l) m ⟨C.o,C.tab,C.base,C.bk+ext,C.lo,C.yl,false,false⟩ (Y.sub ρa xA wa (fun _=>False) X.N Y.ml 1) Qc Qm ρa σa xA aa wa ⟨hG,Nat.zero_le _,Nat.zero_le _,(fun i g k hk=>?_),(fun hf=>by cases hf),(fun hf=>by have:(1:Nat)=3:=hf;omega),fun hf=>by have:(1:Nat)=3:=hf;omega⟩ (fun l' xI=>?_) aea u9 xF fun e e' σ' bx' a' w' ρ' h0 h1 h2=>hq e e' σ' bx' a' w' ρ' h0 h1 ?_ (h2.gy l _ sC fun he=>he.elim id (qz.HA sC rfl))
  ·rw[show(Calc.mk C.o C.tab C.base (C.bk+ext) C.lo C.yl false false).yl=C.yl from rfl,ll]at hk;cases hk
  ·injection xI with xI;subst xI;exact⟨rfl,Ia,sC,fun he=>he.elim id (qz.HA sC rfl)⟩
  ·have hb:=qz.back rfl rfl h2 (fun b hb=>hb.elim) (fun b hb=>hb.elim) (fun b hb=>hb.elim) (qz.y0 ylo _ _);exact hb.switch (by rw[h2.size,yN];rfl) (.inl ymd) h2.tmps
 have setl:∀(ρa:cM) (σa:Env) (xA:ae) (aa:Act) (wa:World) (Ia:Loop) (o':Loop),ρa.hold l=some (.loop Ia)->aA Y ρa σa xA aa wa->aA Y ⟨ρa.at_,fun k=>if k=l then some (.loop o')else ρa.hold k⟩ σa xA aa (wa.putObj l (.loop o')):=fun ρa σa xA aa wa Ia o' sC qz=>
  qz.Ee sC (.inl yE.1) (.inr yE.1) sI rfl rfl (py wa l _) (World.putObj_heap_same (Array.getElem?_eq_some_iff.1 (qz.hold l _ sC).1).1) (qz.y0 ylo _ _)
 refine run as hA bD.2.1 _ _ ρ1 _ bx1 _ w1 _ hl hc xF fun e e' σa xA aa wa ρa hx hq CK ER=>?_;rcases hx.cases with⟨rfl,rfl⟩|⟨rfl,rfl⟩|⟨_,rfl,rfl⟩|⟨_,rfl,rfl⟩|⟨_,_,rfl,rfl,_⟩
 rotate_left
 ·exact hq.elim
 ·exact hq.elim
 ·exact hq.elim
 ·exact hq.elim
 ·skip
  refine⟨_,run_beginRound (CK.hold l _ ER).1 rfl,?_⟩;have hsb:=setl ρa σa xA aa wa _ ⟨.busy,none,fn,a.tmps,pr,as,bd,df⟩ ER CK;refine run bd hB bD.2.2 _ _ _ σa xA aa _ ⟨.busy,none,fn,a.tmps,pr,as,bd,df⟩ sI hsb hq fun e e' σc bxc ac wc ρc eJ iK hsc rn=>?_;have fin:∀(jump:Option Code),(jump=none->J (n+1) (bU C.bk bxc))->(∀j,jump=some j->FX C.bk Qd σ j (bU C.bk bxc))->∃v w',(Instr.endRound l jump).run P wc= .ok v w'/\∃ρ2 bK b,Ending.returned v= .returned (.bool b)/\(∀s,C.bk<=s->s<C.bk+ext->bK s=bx1 s)/\
   (∀(X1:Ctx) (σ1:Env) (a1:Act),X1.S0=X.S0->X1.n0=X.n0->X1.E l->aA X1 ρ1 σ1 bx1 a1 w1->X1.Y (bU X1.lo bK) ρ2.hold->aA X1 ρ2 σ1 bK a1 w')/\(∀k o,k≠l->ρ1.hold k=some o->Obj.E1 o=false->ρ2.hold k=some o)/\
   ((b=true/\ρ2.hold l=some (.loop ⟨.ready,none,fn,a.tmps,pr,as,bd,df⟩)/\J (n+1) (bU C.bk bK))\/(b=false/\∃jump,ρ2.hold l=some (.loop ⟨.done,some jump,fn,a.tmps,pr,as,bd,df⟩)/\FX C.bk Qd σ jump (bU C.bk bK))):=by
   intro jump oc yD;have Wi:=setl ρc σc bxc ac wc _ ⟨if jump.isNone then .ready else .done,jump,fn,a.tmps,pr,as,bd,df⟩ rn hsc;refine⟨_,_,run_endRound jump (hsc.hold l _ rn).1,⟨ρc.at_,fun k=>if k=l then some (.loop ⟨if jump.isNone then .ready else .done,jump,fn,a.tmps,pr,as,bd,df⟩)else ρc.hold k⟩,bxc,jump.isNone,rfl,iK.1,fun X1 σ1 a1 g1 g2 g3 g4 g5=>?_,fun k o hk ho aP=>?_,?_⟩
   ·rw[<-hY]at Wi;exact g4.back g1 g2 Wi (fun b hb=>by subst hb;exact .inl g3) (fun b hb=>by subst hb;rw[hl];simp) (fun b hb=>by subst hb;exact .inr g3) g5
   ·have:=Wi.gy k o (by rw[yr];exact ho) (fun he=>(yE.2 k he).elim hk (h.HA ho aP));exact this
   ·cases jump with
    |none=>
     exact .inl ⟨rfl,by simp,oc rfl⟩
    |some j=>exact .inr ⟨rfl,j,by simp,yD j rfl⟩
  rcases eJ.cases with⟨rfl,rfl⟩|⟨rfl,rfl⟩|⟨id,rfl,rfl⟩|⟨_,rfl,rfl⟩|⟨_,_,rfl,rfl,_⟩
  ·exact fin none (fun _=>iK.2) (fun j hj=>by cases hj)
  ·exact fin (some .ret) (fun hj=>by cases hj) (fun j hj=>by injection hj with hj;subst hj;exact iK.2)
  ·exact fin (some (.exit id)) (fun hj=>by cases hj) (fun j hj=>by injection hj with hj;subst hj;exact iK.2)
  ·exact iK.2.elim
  ·exact iK.2.elim
end Go.V
namespace Go.V
open Go.RowKit
variable {P:Program} {C:Calc} {X:Ctx} {ρ:cM} {σ:Env} {bx:ae} {a:Act} {w:World} {r:Option Nat} {n:Nat}
theorem Mk.marked{S:Nat->Prop}{md ml:Nat}{d:D}{ds:List Deferred}{q:Nat}(h:Mk w S ρ md ml d ds)(GP:md≠3)(hh:md≠1->ρ.hold q=some (.deferred (some []))/\ml<=q/\ic q∉ds):Mk w S ρ md ml d (ic q::ds):=by
 by_cases mM:md=1
 ·exact .inl mM
 ·obtain⟨h1,h2,h3⟩:=hh mM;exact .inr ⟨.mark h1 h2 h3 (h.resolve_left mM).1,fun h=>absurd h GP⟩
def At(h:aA X ρ σ bx a w)(h3:X.md≠3)(hr:∀l,r=some l->X.md=1/\∃rc,X.r0.hold l=some (.loop rc)/\¬X.E l)(fn:FuncId)(ps:Array Tmp)(assign body:Code):
 ∃l mark df w1 ρ2,(Instr.enterLoop fn a.tmps ps assign body r).run P w= .ok (l,mark) w1/\aA X ρ2 σ bx {a with defers:=mark++a.defers} w1/\ρ2.at_=ρ.at_/\Below w.heap.size w w1/\
  ρ2.hold l=some (.loop ⟨.ready,none,fn,a.tmps,ps,assign,body,df⟩)/\X.w0.heap.size<=l:=by
 cases r with
 |none=>
  have h1:=h.zZ (o:=.deferred (some [])) rfl;have h2:=h1.zZ (o:=.loop ⟨.ready,none,fn,a.tmps,ps,assign,body,w.heap.size⟩) rfl;refine⟨_,_,w.heap.size,_,_,run_enterLoop_outer fn a.tmps ps assign body,h2.switch (a':={a with defers:=[ic w.heap.size]++a.defers}) h2.size (h2.marks.marked h3 fun mM=>⟨by simp,Nat.le_trans h.rA h.fr.size,fun gF=>?_⟩) h2.tmps,rfl,((Below.refl w.heap.size w).alloc (Nat.le_refl _) _).alloc sI _,by simp,?_⟩
  ·have hm:=(h.marks.resolve_left mM).1;have:=(Array.getElem?_eq_some_iff.1 (h.hold _ _ (hm.mem _ gF)).1).1;omega
  ·have:=h.fr.size;omega
 |some l0=>
  obtain⟨_,rc,h0,hE⟩:=hr l0 rfl;have AA:=(h.hold l0 _ (h.gy l0 _ h0 hE)).1;have h2:=h.zZ (o:=.loop ⟨.ready,none,fn,a.tmps,ps,assign,body,rc.defers⟩) rfl;refine⟨w.heap.size,[],rc.defers,_,_,?_,h2,rfl,(Below.refl w.heap.size w).alloc (Nat.le_refl _) _,by simp,h.fr.size⟩;unfold Instr.enterLoop;simp only[Sem.run_bind,run_getLoop AA,run_newObj_alloc,Result.andThen,Sem.run_pure]
def H9{g:Operand}{ps:Array Tmp}{assign body:Code}(hA:Sound P assign)(hB:Sound P body){Qd:DX->Env->ae->Prop}{Q:Exit->Act->World->Prop}(hG:Good P C X)(hr:∀l,r=some l->X.md=1/\∃rc,X.r0.hold l=some (.loop rc)/\¬X.E l)
 (bD:dA C.tab X.N (.rangeFunc g ps assign body)=true) (h:aA X ρ σ bx a w) (bF:C.lo=0) (ll:C.yl=none) {f:FuncId} {t e:Nat} {b:Bx} {items:List (List D)} {pd:Option D} {ext:Nat} {J:Nat->ae->Prop}
 (hg:ev σ g= .fn (.func f) [.loc t e 0 0]) (EX:t<C.bk) (r_:bx t=⟨e,1,b.sz,b.ty,b.es⟩) (hit:C.o.AL f b items pd ext) (JD:J 0 (bU C.bk (ak bx t {bx t with k:=0})))
 (nh:∀n it bx1,items[n]? =some it->J n (bU C.bk bx1)->it.length=ps.size/\
  cR P ⟨C.o,C.tab,C.base,C.bk+ext,C.lo,C.yl,false,false⟩ assign (dG (cR P ⟨C.o,C.tab,C.base,C.bk+ext,C.lo,C.yl,false,false⟩ body (pZ C.bk ext J n Qd σ bx1)) Fa) (ku σ ps.toList it) bx1)
 (tw:∀bx1,J items.length (bU C.bk bx1)->D4 Qd σ bx1 pd)
 (hQ:∀e e' σ' bx' a' w' ρ',XR w' (az X ρ' bx' w') ρ' e e'->Qd e σ' bx'->aA X ρ' σ' bx' a' w'->Q e' a' w'):(Code.rangeFunc g ps assign body).wpIn (Fw r) n P Q a w:=by
 have mn:X.lo=0:=by have:=hG.lo;omega
 simp only[dA,bA,List.all_eq_true,decide_eq_true_eq]at bD;have ND:=h.ev g;rw[hg]at ND;obtain⟨vs,mH,CM,hv⟩:=ND.vG;obtain⟨u,rfl⟩:∃u,vs= #[u]:=by
  obtain⟨l⟩:=vs
  match l,CM with
  |[u],_=>exact⟨u,rfl⟩
 have hu:aH w (az X ρ bx w) ρ (.loc t e 0 0) u:=hv 0 _ u rfl rfl;obtain⟨p,hp,rfl⟩:=hu.lJ;refine wpIn_rangeFunc fun fn _=>?_;obtain⟨l,mark,df,w1,ρ2,he,h2,fN,hb,hl,sf⟩:=At (P:=P) h (fun h3=>hG.AL h3 _ _ _ _ _ hit) hr fn ps assign body;have Cx:aA X ρ2 σ (ak bx (C.bk+1) {bx (C.bk+1)with k:=0}) {a with defers:=mark++a.defers} w1:=h2.less fun s=>by
  by_cases e:s=C.bk+1
  ·subst e;exact .inr ⟨by omega,by simp[ak],by simp[ak],by simp[ak,J_],by simp[ak]⟩
  ·exact .inl (by simp[ak,e])
 have kH:t≠C.bk+1:=oM;have P9:ak bx (C.bk+1) {bx (C.bk+1)with k:=0} t=⟨e,1,b.sz,b.ty,b.es⟩:=by rw[<-r_];simp[ak,kH]
 obtain⟨ρ3,h3,_,RY,sC⟩:=Cx.Kk mn kH (by rw[P9]) (by simp[ak]) (fun _=>false);have GW:jC t (C.bk+1) (fun _=>false) (ak bx (C.bk+1) {bx (C.bk+1)with k:=0}) (C.bk+1)=⟨(bx (C.bk+1)).ep+1,1,b.sz,b.ty,b.es⟩:=by
  unfold jC;rw[if_pos rfl,P9];simp[ak]
 have yz:bU C.bk (jC t (C.bk+1) (fun _=>false) (ak bx (C.bk+1) {bx (C.bk+1)with k:=0}))=bU C.bk (ak bx t {bx t with k:=0}):=kx fun s hs=>by
  have h1:s≠C.bk+1:=oM;by_cases bw:s=t
  ·subst bw;simp[jC,ak,h1]
  ·simp[jC,ak,h1,bw]
 have hp3:ρ3 (C.bk+1) ((bx (C.bk+1)).ep+1)=some p:=by
  have:=RY p (by rw[P9];show ρ2.at_ t e=some p;rw[fN];exact hp);simpa[ak]using this
 generalize jC t (C.bk+1) (fun _=>false) (ak bx (C.bk+1) {bx (C.bk+1)with k:=0})=Ep at h3 GW yz;rw[<-yz]at JD;have hI:=hG.ok.AL f b items pd ext hit X ρ3 σ Ep _ w1 l C.bk ((bx (C.bk+1)).ep+1) ⟨.ready,none,fn,a.tmps,ps,assign,body,df⟩ (.pointer (some ⟨p.b,0 * p.sz+0,none⟩)) J (FX C.bk Qd σ) h3 mn (by rw[sC];exact hl) sf (by
  cases h0:X.r0.hold l with
  |none=>rfl
  |some o=>have:=h.kf l o h0;omega) GW (.loc hp3 rfl) JD
  (zr hA hB (a:={a with defers:=mark++a.defers}) hG.ok bF ll ⟨bD.1.1,bD.1.2,bD.2⟩ ⟨rfl,rfl,rfl,rfl,rfl,rfl⟩ nh)
 obtain⟨VV,GY⟩:=hI;refine⟨l,mark,w1,{target:=.fn (.func f) #[.pointer (some ⟨p.b,0 * p.sz+0,none⟩)],args:= #[.func (.yield l) #[] #[]]},w1,f,_,w1,he,by
  simp only[resolve,rangeCall,List.map_toArray,mC,List.map_nil];rw[mH];rfl,fun _ _=>trivial,VV,fun h=>by simp[Fence.wide]at h,wg (Calls.mono GY ?_)⟩
 rintro e w' (⟨v,ρ',bx',rfl,h',hJ⟩|⟨d,v,ρ',bx',NL,rfl,h',fq,hJ⟩)
 ·have sb:∀rc,ρ'.hold l=some (.loop rc)->w'.heap[l]? =some (.loop rc):=fun rc hh=>(h'.hold l _ hh).1;have setl:∀rc o',ρ'.hold l=some (.loop rc)->aA X ⟨ρ'.at_,fun k=>if k=l then some (.loop o')else ρ'.hold k⟩ σ bx' {a with defers:=mark++a.defers} (w'.putObj l (.loop o')):=fun rc o' hh=>
   h'.Ee hh (.inr sf) (by
    cases h0:X.r0.hold l with
    |none=>exact .inl rfl
    |some o=>have:=h.kf l o h0;omega) sI rfl rfl (py w' l _) (World.putObj_heap_same (Array.getElem?_eq_some_iff.1 (sb rc hh)).1) (h'.y0 mn _ _)
  rcases hJ with⟨hn,hh,hJ⟩|⟨jump,hh,hJ⟩
  ·have hq:=tw bx' hJ;rw[hn]at hq;exact⟨none,_,run_endLoop (sb _ hh) sI,hQ .normal .normal _ _ _ _ _ trivial hq (setl _ _ hh)⟩
  ·refine⟨some jump,_,run_endLoop (sb _ hh) sI,?_⟩;cases jump with
   |ret=>exact wpIn_ret (hQ .ret .ret _ _ _ _ _ trivial (hJ bx' rfl) (setl _ _ hh))
   |exit id=>exact wpIn_exit (hQ (.exit id) (.exit id) _ _ _ _ _ rfl (hJ bx' rfl) (setl _ _ hh))
   |_=>exact hJ.elim
 ·have hq:=tw bx' hJ;rw[NL]at hq;exact hQ (.cU d) (.panic [pe v]) _ _ _ _ _ ⟨v,rfl,fq⟩ hq h'
def I7{g:Operand}{ps:Array Tmp}{assign body:Code}(hA:Sound P assign)(hB:Sound P body):Sound P (.rangeFunc g ps assign body):=by
 intro r n C X Qd Q ρ σ bx a w hG hr bD h hc hQ;obtain⟨bF,ll,⟨f,caps,items,ext,hg,hp,hit,J,JD,nh,tw⟩|⟨f,t,e,b,items,pd,ext,hg,EX,r_,hit,J,JD,nh,tw⟩⟩:=hc
 case inr=>exact H9 hA hB hG hr bD h bF ll hg EX r_ hit JD nh tw hQ
 have mn:X.lo=0:=by have:=hG.lo;omega
 simp only[dA,bA,List.all_eq_true,decide_eq_true_eq]at bD;have ND:=h.ev g;rw[hg]at ND;obtain⟨vs,mH,CM,hv⟩:=ND.vG;refine wpIn_rangeFunc fun fn _=>?_;obtain⟨l,mark,df,w1,ρ2,he,h2,fN,hb,hl,sf⟩:=At h (fun h3=>hG.it h3 _ _ _ _ hit) hr fn ps assign body;have hI:=hG.ok.it f caps items ext hit X ρ2 σ bx _ w1 l C.bk ⟨.ready,none,fn,a.tmps,ps,assign,body,df⟩ vs J (FX C.bk Qd σ) h2 mn hl sf (by
  cases h0:X.r0.hold l with
  |none=>rfl
  |some o=>have:=h.kf l o h0;omega) CM (fun i x v hx aT=>((hv i x v hx aT).fy (uI _ hp i x hx)).mono (fun b eg=>hb.block b eg.1) (fun b eg=>⟨Nat.lt_of_lt_of_le eg.1 hb.size,eg.2.1,by rw[fN];exact eg.2.2⟩)) JD
  (zr hA hB (a:={a with defers:=mark++a.defers}) hG.ok bF ll ⟨bD.1.1,bD.1.2,bD.2⟩ ⟨rfl,rfl,rfl,rfl,rfl,rfl⟩ nh)
 obtain⟨VV,GY⟩:=hI;refine⟨l,mark,w1,{target:=.fn (.func f) vs,args:= #[.func (.yield l) #[] #[]]},w1,f,_,w1,he,by
  simp only[resolve,rangeCall,List.map_toArray,mC,List.map_nil];rw[mH];rfl,fun _ _=>trivial,VV,fun h=>by simp[Fence.wide]at h,wg (Calls.mono GY ?_)⟩
 rintro e w' ⟨v,ρ',bx',rfl,h',hJ⟩;have sb:∀rc,ρ'.hold l=some (.loop rc)->w'.heap[l]? =some (.loop rc):=fun rc hh=>(h'.hold l _ hh).1;have setl:∀rc o',ρ'.hold l=some (.loop rc)->aA X ⟨ρ'.at_,fun k=>if k=l then some (.loop o')else ρ'.hold k⟩ σ bx' {a with defers:=mark++a.defers} (w'.putObj l (.loop o')):=fun rc o' hh=>
  h'.Ee hh (.inr sf) (by
   cases h0:X.r0.hold l with
   |none=>exact .inl rfl
   |some o=>have:=h.kf l o h0;omega) sI rfl rfl (py w' l _) (World.putObj_heap_same (Array.getElem?_eq_some_iff.1 (sb rc hh)).1) (h'.y0 mn _ _)
 rcases hJ with⟨hh,hJ⟩|⟨jump,hh,hJ⟩
 ·exact⟨none,_,run_endLoop (sb _ hh) sI,hQ .normal .normal _ _ _ _ _ trivial (tw bx' hJ) (setl _ _ hh)⟩
 ·refine⟨some jump,_,run_endLoop (sb _ hh) sI,?_⟩;cases jump with
  |ret=>exact wpIn_ret (hQ .ret .ret _ _ _ _ _ trivial (hJ bx' rfl) (setl _ _ hh))
  |exit id=>exact wpIn_exit (hQ (.exit id) (.exit id) _ _ _ _ _ rfl (hJ bx' rfl) (setl _ _ hh))
  |_=>exact hJ.elim
def Mh{F:Fence}{n:Nat}{Q:Exit->Act->World->Prop}{c:Code}(h:c.wpIn F n P (Exit.noGoto Q) a w):(Code.scope c).wpIn F n P Q a w:=by
 intro b k cs hro hb hr;have hs:step P (lone (b.atR a (.code (.scope c)::k)) cs w)= .next (lone (b.atR a (.code c:: .inScope c::k)) cs w):=step_lone_go (by simp[stepG,stepG.exec,Frame.atR])
 have dW:∀a w,step P (lone (b.atR a (.inScope c::k)) cs w)= .next (lone (b.atR a k) cs w):=fun a w=>step_lone_go (by simp[stepG,stepG.exec,Frame.atR])
 have h0:(lone (b.atR a (.code (.scope c)::k)) cs w).fenced P F:=fenced_calm hb hr rfl;obtain⟨e,a₁,w₁,hq,qx⟩:=h b (.inScope c::k) cs hro hb hr;cases e with
 |normal=>exact⟨.normal,a₁,w₁,hq,.head h0 hs (StepsIn.trans qx (.one (fenced_calm hb hr rfl) (dW _ _)))⟩
 |exit id=>
  have hx:exitTo id (.inScope c::k)=exitTo id k:=by simp[exitTo]
  exact⟨_,a₁,w₁,hq,fun k' hk=> .head h0 hs (qx.1 k' (by rw[hx];exact hk)),
   fun NO hk=>let ⟨k₁,h1,h2⟩:=qx.2 NO (by rw[hx];exact hk);⟨k₁,h1,.head h0 hs h2⟩⟩
 |goto l=>exact hq.elim
 |ret=>exact⟨_,a₁,w₁,hq,.of_steps (.one h0 hs) qx⟩
 |panic ch=>exact⟨_,a₁,w₁,hq,.of_steps (.one h0 hs) qx⟩
 |outgrown=>exact⟨_,a₁,w₁,hq,.of_steps (.one h0 hs) qx⟩
theorem aH.NT{S:Nat->Prop}{v:Value}(h:aH w S ρ .gZ v):∃b,v= .bool b:=by
 cases h with
 |pure h=>cases h with|gZ b=>exact⟨b,rfl⟩
theorem dS(hm:P.follows .mixedOrders=true):∀(c:Code),Sound P c
 | .skip=>fun r n C X Qd Q ρ σ bx a w hG hr bD h hc hQ=>wpIn_skip (hQ .normal .normal _ _ _ _ _ trivial hc h)
 | .label _=>fun r n C X Qd Q ρ σ bx a w hG hr bD h hc hQ=>wpIn_label (hQ .normal .normal _ _ _ _ _ trivial hc h)
 | .exit id=>fun r n C X Qd Q ρ σ bx a w hG hr bD h hc hQ=>wpIn_exit (hQ (.exit id) (.exit id) _ _ _ _ _ rfl hc h)
 | .ret=>fun r n C X Qd Q ρ σ bx a w hG hr bD h hc hQ=>wpIn_ret (hQ .ret .ret _ _ _ _ _ trivial hc h)
 | .seq x y=>fun r n C X Qd Q ρ σ bx a w hG hr bD h hc hQ=>by
   simp only[dA,bA]at bD;refine wpIn_seq (dS hm x r n C X _ _ ρ σ bx a w hG hr bD.1 h hc fun e e' σ' bx' a' w' ρ' hx hq h'=>?_);rcases hx.cases with⟨rfl,rfl⟩|⟨rfl,rfl⟩|⟨_,rfl,rfl⟩|⟨_,rfl,rfl⟩|⟨_,_,rfl,rfl,_⟩
   ·exact dS hm y r n C X _ _ ρ' σ' bx' a' w' hG hr bD.2 h' hq hQ
   all_goals exact hQ _ _ _ _ _ _ _ hx hq h'
 | .cond c x y=>fun r n C X Qd Q ρ σ bx a w hG hr bD h hc hQ=>by
   simp only[dA,bA]at bD;have RQ:=h.ev c;simp only[cR]at hc;cases hd:ev σ c with
   |bool t=>
    rw[hd]at hc RQ;refine wpIn_cond RQ.jQ ?_;cases t with
    |true=>exact dS hm x r n C X _ _ ρ σ bx a w hG hr bD.1 h hc hQ
    |false=>exact dS hm y r n C X _ _ ρ σ bx a w hG hr bD.2 h hc hQ
   |gZ=>
    rw[hd]at hc RQ;obtain⟨b,hb⟩:=RQ.NT;refine wpIn_cond hb ?_;cases b with
    |true=>exact dS hm x r n C X _ _ ρ σ bx a w hG hr bD.1 h hc.1 hQ
    |false=>exact dS hm y r n C X _ _ ρ σ bx a w hG hr bD.2 h hc.2 hQ
   |_=>rw[hd]at hc;exact hc.elim
 | .block id c=>fun r n C X Qd Q ρ σ bx a w hG hr bD h hc hQ=>by
   refine wpIn_block (dS hm c r n C X _ _ ρ σ bx a w hG hr bD h hc fun e e' σ' bx' a' w' ρ' hx hq h'=>?_);rcases hx.cases with⟨rfl,rfl⟩|⟨rfl,rfl⟩|⟨E0,rfl,rfl⟩|⟨_,rfl,rfl⟩|⟨_,_,rfl,rfl,_⟩
   rotate_left 2
   ·simp only[rb]at hq;simp only[Exit.inBlock];split at hq
    ·rename_i he;rw[if_pos he];exact hQ .normal .normal _ _ _ _ _ trivial hq h'
    ·rename_i he;rw[if_neg he];exact hQ _ _ _ _ _ _ _ hx hq h'
   all_goals exact hQ _ _ _ _ _ _ _ hx hq h'
 | .loop c=>fun r n C X Qd Q ρ σ bx a w hG hr bD h hc hQ=>by
   obtain⟨I,μ,h0,hl⟩:=hc;refine wpIn_loop_ghost (fun m a w=>∃ρ σ bx,aA X ρ σ bx a w/\I σ bx/\μ σ bx=m) (μ σ bx) ⟨ρ,σ,bx,h,h0,rfl⟩ ?_;rintro m a w ⟨ρ,σ,bx,h,hI,rfl⟩;obtain⟨bx0,Zv,AA⟩:=hl σ bx hI;have h0:aA X ρ σ bx0 a w:=by
    rcases Zv with rfl|⟨bF,s,es,hk,ho,rfl⟩
    ·exact h
    ·exact h.N0 (by have:=hG.lo;omega) hk ho
   refine dS hm c r n C X _ _ ρ σ bx0 a w hG hr bD h0 AA fun e e' σ' bx' a' w' ρ' hx hq h'=>?_;rcases hx.cases with⟨rfl,rfl⟩|⟨rfl,rfl⟩|⟨_,rfl,rfl⟩|⟨_,rfl,rfl⟩|⟨_,_,rfl,rfl,_⟩
   ·exact⟨_,hq.2,ρ',σ',bx',h',hq.1,rfl⟩
   all_goals exact hQ _ _ _ _ _ _ _ hx hq h'
 | .region id ops draw=>fun r n C X Qd Q ρ σ bx a w hG hr bD h hc hQ=>by
   simp only[dA,bA,List.all_eq_true]at bD;obtain⟨ct,bD⟩:=bD;have ct:∀o∈ops.toList,∀t,o.dst=some t->t<X.N:=fun o ho t ht=>by
    have:=ct o ho;rw[ht]at this;simpa using this
   cases draw with
   |false=>
    simp only[cR]at hc;refine wpIn_region ?_;have:=LD (r:=r) (n:=n) (Q:=Q) hG (fun l hl=>(hr l hl).1) ct (K:=fun acc σ' bx'=>vd Qd acc σ' bx') (fun acc σ' bx' a' w' ρ' mD hK h'=>hQ .normal .normal _ _ _ _ _ trivial (by
     cases acc with
     |nil=>exact hK
     |cons c l=>cases c<;>first|exact hK|exact absurd rfl (mD _ _)) h') (fun d acc σ' bx' a' w' ρ' v hK h' NO=>hQ (.cU d) (.panic [pe v]) _ _ _ _ _ ⟨v,rfl,NO⟩ hK h') (nU C.tab (4000000+id)) ops.toList [] [] ρ σ bx a w rfl (by intro d l;simp) h hc
    rw[List.range_eq_range'];simpa using this
   |true=>
    simp only[cR,oZ]at hc;refine wpIn_region_any hm ?_;split at hc
    ·obtain⟨t,Wd,bw⟩:=hc;simp only[C0,bA]at Wd;refine OB rfl rfl rfl Wd.1 hG.dra (fun l hl=>(hr l hl).1) ct (fun σ bx a' w' ρ' hq h'=>hQ .normal .normal _ _ _ _ _ trivial hq h') (fun d σ' bx' a' w' ρ' v hp h' NO=>hQ (.cU d) (.panic [pe v]) _ _ _ _ _ ⟨v,rfl,NO⟩ (hp σ') h') _ _ t ρ σ bx a _ sI ?_ ?_ ?_ bw (h.ext ⟨rfl,rfl,rfl,Nat.le_refl _,fun _ _=>rfl⟩)
     ·exact Nat.le_trans (List.length_filter_le _ _) sI
     ·intro k o _ hL;exfalso;simp[Array.getD]at hL
     ·have:(fun j=>(Array.replicate ops.size false).getD j false)=fun _=>false:=by funext j;simp[Array.getD]
      rw[this];exact Wd.2
    rename_i NH;simp only[nT,Bool.false_or,Bool.or_eq_true,NH,false_or]at bD;obtain⟨cs,vs,σs,bs,NP,qi,fN,JF,hQd⟩:=C3 (C:=C.As) (fun _ _ _ _ _ _ hf=>hf) rfl rfl rfl _ _ _ _ hc;have hR:=XG (C:=C.As) (id:=id) (tab:=C.tab) (by simpa using bD) rfl (by simpa using JF) fN;subst NP;subst qi;refine Mv hR hG.As (fun l hl=>(hr l hl).1) ct (fun a' w' ρ' h'=>hQ .normal .normal _ _ _ _ _ trivial hQd h') _ _ ρ (σs 0) (bs 0) a _ sI ?_ ⟨fun i o ho hL=>?_,fun j hj=>?_,fun t=> .inr ⟨fun j hj=>?_,rfl⟩,fun s=> .inr ⟨fun j hj=>?_,rfl⟩⟩ (h.ext ⟨rfl,rfl,rfl,Nat.le_refl _,fun _ _=>rfl⟩)
    ·exact Nat.le_trans (List.length_filter_le _ _) sI
    all_goals
     exfalso;simp[Array.getD]at *
 | .rangeFunc g ps assign body=>I7 (dS hm assign) (dS hm body)
 | .scope c=>fun r n C X Qd Q ρ σ bx a w hG hr bD h hc hQ=>by
   refine Mh (dS hm c r n C X _ _ ρ σ bx a w hG hr bD h hc fun e e' σ' bx' a' w' ρ' hx hq h'=>?_);rcases hx.cases with⟨rfl,rfl⟩|⟨rfl,rfl⟩|⟨_,rfl,rfl⟩|⟨_,rfl,rfl⟩|⟨_,_,rfl,rfl,_⟩
   rotate_left 3
   ·exact hq.elim
   all_goals exact hQ _ _ _ _ _ _ _ hx hq h'
 | .goto _=>fun r n C X Qd Q ρ σ bx a w hG hr bD h hc hQ=>hc.elim
 | .refuse _=>fun r n C X Qd Q ρ σ bx a w hG hr bD h hc hQ=>hc.elim
end Go.V
namespace Go.V
open Go.RowKit
variable {P:Program} {C:Calc} {X:Ctx} {ρ:cM} {σ:Env} {bx:ae} {a:Act} {w:World} {r:Option Nat} {n:Nat}
def vK(tmps:Array Value):ResultVar->Sem Value
 | .tmp t=>pure (tmps.getD t undef)
 | .cell a t=>do loadVar t (<-asAddr (tmps.getD a undef))
theorem Fs(h:aA X ρ σ bx a w):∀(rv:List ResultVar) (rs:List D),jD P σ bx rv=some rs->∃vs:List Value,(rv.mapM (vK a.tmps)).run P w= .ok vs w/\vs.length=rs.length/\∀(i:Nat) d v,rs[i]? =some d->vs[i]? =some v->aH w (az X ρ bx w) ρ d v
 |[],rs,hr=>by
  simp only[jD,sJ]at hr;subst hr;exact⟨[],by simp,rfl,fun i d v hd=>by simp at hd⟩
 |x::rv,rs,hr=>by
  simp only[jD]at hr;obtain⟨y,ys,h1,h2,rfl⟩:=pb hr;obtain⟨vs,g1,g2,g3⟩:=Fs h rv ys h2;have hx:∃v,(vK a.tmps x).run P w= .ok v w/\aH w (az X ρ bx w) ρ y v:=by
   cases x with
   |tmp t=>
    simp only[o7,sJ]at h1;subst h1;exact⟨_,by simp only[vK,Sem.run_pure],h.tmps t⟩
   |cell t T=>
    simp only[o7]at h1;obtain⟨ad,v,k1,k2,k3⟩:=AN h (h.tmps t) h1;exact⟨v,by simp only[vK,k1,asAddr,Sem.run_bind,Sem.run_pure,Result.andThen_ok,k2],k3⟩
  obtain⟨v,k1,k2⟩:=hx;refine⟨v::vs,by simp only[List.mapM_cons,Sem.run_bind,k1,Result.andThen_ok,g1,Sem.run_pure],by simp[g2],fun i d u hd hu=>?_⟩;cases i with
  |zero=>simp only[List.getElem?_cons_zero,sJ]at hd hu;subst hd;subst hu;exact k2
  |succ i=>exact g3 i d u (by simpa using hd) (by simpa using hu)
def rZ(h:aA X ρ σ bx a w){fn:Func}{rs:List D}(hr:jD P σ bx fn.results.toList=some rs):∃v,(results fn a.tmps).run P w= .ok v w/\aH w (az X ρ bx w) ρ (l9 rs) v:=by
 obtain⟨vs,g1,g2,g3⟩:=Fs h _ _ hr;have bR:(results fn a.tmps).run P w= .ok (if h:vs.toArray.size=1 then vs.toArray[0]else .tuple vs.toArray) w:=by
  have e:results fn a.tmps=(fn.results.mapM (vK a.tmps)>>=fun vs=>pure (if h:vs.size=1 then vs[0]else .tuple vs)):=by
   unfold results
   congr 1
  rw[e,Sem.run_bind,Array.mapM_eq_mapM_toList,Sem.run_map,g1,Result.andThen_ok,Result.andThen_ok,Sem.run_pure]
 refine⟨_,bR,?_⟩
 match rs,vs,g2,g3 with
 |[],[],_,_=>simp only[l9];exact .aL rfl (fun i d v hd=>by simp at hd)
 |[d],[v],_,g3=>exact g3 0 d v rfl rfl
 |d1::d2::ds,v1::v2::vs,g2,g3=>
  simp only[l9];rw[dif_neg sI];exact .aL (by simpa using g2) (fun i d v hd hv=>g3 i d v hd (by simpa using hv))
theorem vZ:∀(ds:List D) (k t:Nat),bB k ds t=if t<k then .raw undef else(ds[t - k]?).getD (.raw undef)
 |[],k,t=>by simp[bB]
 |d::ds,k,t=>by
  simp only[bB,ak];by_cases h:t=k
  ·subst h;simp
  ·rw[if_neg h,vZ ds (k+1) t];by_cases h2:t<k
   ·rw[if_pos oM,if_pos h2]
   ·rw[if_neg oM,if_neg h2];have:t - k=(t - (k+1))+1:=oM;rw[this];simp
theorem aA.Sm(h:aA X ρ σ bx a w)(mM:X.md=0){d:Deferred}{ds:List Deferred}(hd:a.defers=d::ds):∃r,d=ic r/\ρ.hold r=some (.deferred (some [])):=by
 have hm:=(h.marks.resolve_left oM).1;rw[if_pos mM,hd]at hm;generalize hl:([]:List D)=l at hm;generalize hx:d::ds=dd at hm;cases hm with
 |nil=>cases hx
 |mark h1=>injection hx with e1 e2;exact⟨_,e1,h1⟩
 |call=>cases hl
theorem oI{fn:Func}{rs:List D}(bF:X.lo=0)(yG:X.ml=X.w0.heap.size)(mM:X.md=0){R:Ending->World->Prop}:∀(ds:List Deferred) (a:Act) (ρ:cM) (w:World),a.defers=ds->aA X ρ σ bx a w->jD P σ bx fn.results.toList=some rs->
 (∀ρ' w' v,aA X ρ' σ bx {a with defers:=[]} w'->(∀b o,ρ.hold b=some o->o≠ .deferred (some [])->ρ'.hold b=some o)->aH w' (az X ρ' bx w') ρ' (l9 rs) v->R (.returned v) w')->LeavesInM Fence.wide n P fn a.tmps R ds .returning w
 |[],a,ρ,w,hd,h,hr,hR=>by
  obtain⟨v,g1,g2⟩:=rZ h hr;exact⟨v,g1,hR ρ w v (h.switch h.size (.nil (.inl mM)) h.tmps) (fun _ _ h _=>h) g2⟩
 |d::ds,a,ρ,w,hd,h,hr,hR=>by
  obtain⟨r,rfl,hh⟩:=h.Sm mM hd;have hw:=(h.hold r _ hh).1;obtain⟨ρ',h',hk⟩:=h.take hd yG oM (py w r (.deferred none)) (World.putObj_heap_same (Array.getElem?_eq_some_iff.1 hw).1) bF;refine⟨by simp,.inl ⟨r,_,rfl,run_takeDeferred hw,?_⟩⟩;exact oI bF yG mM ds {a with defers:=ds} ρ' _ rfl h' hr fun ρ2 w2 v g1 g2 g3=>hR ρ2 w2 v g1 (fun b o ho aP=>g2 b o (hk b o ho aP) aP) g3
theorem yW{fn:Func}(bF:X.lo=0)(yG:X.ml=X.w0.heap.size)(mM:X.md=0){chain:List PanicEntry}{d0:D}{v0:Value}{R:Ending->World->Prop}:∀(ds:List Deferred) (a:Act) (ρ:cM) (w:World),a.defers=ds->aA X ρ σ bx a w->aH w (az X ρ bx w) ρ d0 v0->
 (∀ρ' w',aA X ρ' σ bx {a with defers:=[]} w'->aH w' (az X ρ' bx w') ρ' d0 v0->R (.panicked chain) w')->LeavesInM Fence.wide n P fn a.tmps R ds (.panicking chain) w
 |[],a,ρ,w,hd,h,hr,hR=>hR ρ w (h.switch h.size (.nil (.inl mM)) h.tmps) hr
 |d::ds,a,ρ,w,hd,h,hr,hR=>by
  obtain⟨r,rfl,hh⟩:=h.Sm mM hd;have hw:=(h.hold r _ hh).1;obtain⟨ρ',h',hk,CJ⟩:=h.Mb hd yG oM (py w r (.deferred none)) (World.putObj_heap_same (Array.getElem?_eq_some_iff.1 hw).1) bF;refine⟨by simp,.inl ⟨r,_,rfl,run_takeDeferred hw,?_⟩⟩;exact yW bF yG mM ds {a with defers:=ds} ρ' _ rfl h' (CJ _ _ hr) fun ρ2 w2 g1 g3=>hR ρ2 w2 g1 g3
def nN{S:Nat->Prop}{ds:List D}{vs:Array Value}{N:Nat}(hl:vs.size=ds.length)(hlen:ds.length<=N)(hv:∀(i:Nat) x v,ds[i]? =some x->vs[i]? =some v->aH w S ρ x v):
 (vs++Array.replicate (N - vs.size) undef).size=N/\∀t,aH w S ρ (bB 0 ds t) ((vs++Array.replicate (N - vs.size) undef).getD t undef):=by
 refine⟨by simp;omega,fun t=>?_⟩;rw[vZ];simp only[Nat.not_lt_zero,if_false,Nat.sub_zero];by_cases ht:t<ds.length
 ·have hd:ds[t]? =some ds[t]:=gE ht;have htv:t<vs.size:=oM;have hva:vs[t]? =some vs[t]:=Array.getElem?_eq_getElem htv;have:(vs++Array.replicate (N - vs.size) undef).getD t undef=vs[t]:=by rw[Array.getD_eq_getD_getElem?,Array.getElem?_append_left htv,hva];rfl
  rw[this,hd];exact hv t _ _ hd hva
 ·have hd:ds[t]? =none:=List.getElem?_eq_none oM;have:(vs++Array.replicate (N - vs.size) undef).getD t undef=undef:=by
   rw[Array.getD_eq_getD_getElem?,Array.getElem?_append_right oM,Array.getElem?_replicate];split<;>rfl
  rw[this,hd];exact .pure (.raw _)
def PL(hm:P.follows .mixedOrders=true){f:FuncId}{fn:Func}{O:gN}{tab:List (Nat×List (Nat×Nat))}{ds:List D}{d:D}(hf:P.funcs[f]? =some fn)
 (eM:(fn.name== "runtime.NumGoroutine")=false) (hlen:ds.length<=fn.ntmps) (hO:Ok P O) (h:qh P O tab fn ds d):ao P f ds d:=by
 obtain⟨c,hb,bD,hc⟩:=h;obtain⟨hN,bD⟩:fn.ntmps<=ed/\dA tab fn.ntmps c=true:=by simpa[codeOk,ed]using bD
 intro w S vs hS G6 hl hv;refine .inl ⟨Go.MuLone.run_callFunc_enter hf eM hb vs w,callsIn_wide.1 (callsIn_of_wp_marks (F:=Fence.wide) (n:=0) hf hb trivial ?_)⟩;obtain⟨k1,k2⟩:=nN (w:=w) (ρ:=⟨fun _ _=>none,fun _=>none⟩) (S:=fun b=>S b) (N:=fn.ntmps) hl hlen (fun i x v hx aT=> .pure (hv i x v hx aT));have h0:aA ⟨w,S,w.heap.size,fun _=>False,fun _=>False,fn.ntmps,⟨fun _ _=>none,fun _=>none⟩,w.heap.size,0,fun _ _=>True,0⟩ ⟨fun _ _=>none,fun _=>none⟩ (bB 0 ds) (fun _=> .none) {tmps:=vs++Array.replicate (fn.ntmps - vs.size) undef,defers:=[]} w:=
  ⟨.refl _ _,hS,Nat.le_refl _,fun _ h=>h.elim,fun _ h=>h.elim,k1,.nil (.inl rfl),hN,Nat.le_refl _,fun t=>(k2 t).mono (fun _ _=>rfl) (fun b hb=>⟨hS b hb,.inl hb,fun t ht=>by simp[Bx.none]at ht⟩) (fun _ _ _ h=>h),.pure (G6.mono (fun _ _=>rfl) (fun b hb=>⟨hS b hb,.inl hb,fun t ht=>by simp[Bx.none]at ht⟩)),fun t ht=>absurd rfl ht.1,fun t t' p p' ht=>by simp[Bx.none]at ht,(fun t e p hp=>by cases hp),(fun t e p hp=>by cases hp),(fun t e hp=>by cases hp),(fun t e hp=>by cases hp),fun _ _ _ _ _=>trivial,trivial,fun _ _ _=>trivial,(fun t e hp=>by cases hp),⟨fun t ht=>by simp[Bx.none]at ht,fun t t' p p' ht=>by simp[Bx.none]at ht⟩⟩
 refine dS hm c none 0 ⟨O,tab,0,fn.ntmps,0,none,false,false⟩ _ _ _ _ _ _ _ w ⟨hO,Nat.le_refl _,Nat.le_refl _,(fun _ _ _ hk=>by cases hk),(fun hf=>by cases hf),(fun hf=>by have:(0:Nat)=3:=hf;omega),fun hf=>by have:(0:Nat)=3:=hf;omega⟩ (fun l hl=>by cases hl) bD h0 hc fun e e' σ' bx' a' w' ρ' hx hq h'=>?_;have fin:(aK (jD P σ' bx' fn.results.toList) fun rs=>aK (bz bx' (l9 rs)) fun r=>bN r d)->LeavesInM Fence.wide 0 P fn a'.tmps (fun e w'=>∃v,e= .returned v/\cB w S d v w') a'.defers .returning w':=by
  intro hq;cases hr:jD P σ' bx' fn.results.toList with
  |none=>rw[hr]at hq;exact hq.elim
  |some rs=>
   rw[hr]at hq;simp only[aK]at hq;cases ho:bz bx' (l9 rs)with
   |none=>rw[ho]at hq;exact hq.elim
   |some x=>
    rw[ho]at hq;refine oI rfl rfl rfl a'.defers a' ρ' w' rfl h' hr fun ρ2 w2 v g1 _ g3=>⟨v,rfl,?_,?_⟩
    ·refine aH.ve hq (nV g1 _ _ v ⟨fun b hb=>?_,fun t _ hk p hp=>?_⟩ g3 ho)
     ·rcases hb.2.1 with h1|h1
      ·exact .inl h1
      ·exact .inr ⟨h1,hb.1⟩
     ·obtain⟨p',bJ,_,_,gJ,hh⟩:=g1.box t hk;rw[hp]at bJ;injection bJ with bJ;subst bJ;exact .inr ⟨gJ.1,hh.lt⟩
    ·exact⟨g1.fr.os,g1.fr.tape,g1.fr.output,g1.fr.size,fun k hk=>g1.fr.block k hk (fun hm=>hm.elim id id)⟩
 rcases hx.cases with⟨rfl,rfl⟩|⟨rfl,rfl⟩|⟨_,rfl,rfl⟩|⟨_,rfl,rfl⟩|⟨_,_,rfl,rfl,_⟩
 ·exact fin hq
 ·exact fin hq
 all_goals exact hq.elim
def M9(hm:P.follows .mixedOrders=true){f:FuncId}{fn:Func}{O:gN}{tab:List (Nat×List (Nat×Nat))}{base:Nat}{ds:List D}{bx:ae}{Q Qp:D->ae->Prop}(hf:P.funcs[f]? =some fn)
 (eM:(fn.name== "runtime.NumGoroutine")=false) (hlen:ds.length<=fn.ntmps) (hO:Ok P O) (h:mf P O tab fn base ds bx Q Qp):bj P f base ds bx Q Qp:=by
 obtain⟨c,hb,bD,hc⟩:=h;obtain⟨hN,bD⟩:fn.ntmps<=ed/\dA tab fn.ntmps c=true:=by simpa[codeOk,ed]using bD
 intro X ρ σ a w vs hS mn hl hv;refine .inl ⟨Go.MuLone.run_callFunc_enter hf eM hb vs w,callsIn_wide.1 (callsIn_of_wp_marks (F:=Fence.wide) (n:=0) hf hb trivial ?_)⟩;obtain⟨k1,k2⟩:=nN (N:=fn.ntmps) hl hlen hv;have h0:=hS.sub (E:=fun _=>False) (N:=fn.ntmps) (ml:=w.heap.size) (md:=0) (a':={tmps:=vs++Array.replicate (fn.ntmps - vs.size) undef,defers:=[]}) hN (fun _ h=>h.elim) k1 (.nil (.inl rfl)) (Nat.le_refl _) k2;refine dS hm c none 0 ⟨O,tab,base,base+fn.ntmps,0,none,true,false⟩ _ _ _ _ _ _ _ w ⟨hO,Nat.le_refl _,Nat.zero_le _,(fun _ _ _ hk=>by cases hk),(fun hf=>by cases hf),(fun hf=>by have:(0:Nat)=3:=hf;omega),fun hf=>by have:(0:Nat)=3:=hf;omega⟩ (fun l hl=>by cases hl) bD h0 hc fun e e' σ' bx' a' w' ρ' hx hq h'=>?_;have fin:(aK (jD P σ' bx' fn.results.toList) fun rs=>Q (l9 rs) bx')->LeavesInM Fence.wide 0 P fn a'.tmps (fun e w'=>(∃v,e= .returned v/\∃d bx' ρ',Q d bx'/\aA X ρ' σ bx' a w'/\aH w' (az X ρ' bx' w') ρ' d v)\/∃v,e= .panicked [pe v]/\∃d bx' ρ',Qp d bx'/\aA X ρ' σ bx' a w'/\aH w' (az X ρ' bx' w') ρ' d v) a'.defers .returning w':=by
  intro hq;cases hr:jD P σ' bx' fn.results.toList with
  |none=>rw[hr]at hq;exact hq.elim
  |some rs=>
   rw[hr]at hq;exact oI rfl rfl rfl a'.defers a' ρ' w' rfl h' hr fun ρ2 w2 v g1 _ g3=> .inl ⟨v,rfl,l9 rs,bx',ρ2,hq,hS.back rfl rfl g1 (fun _ h=>h.elim) (fun _ h=>h.elim) (fun _ h=>h.elim) (hS.y0 mn _ _),g3⟩
 rcases hx.cases with⟨rfl,rfl⟩|⟨rfl,rfl⟩|⟨_,rfl,rfl⟩|⟨_,rfl,rfl⟩|⟨d,v,rfl,rfl,hv⟩
 ·exact fin hq
 ·exact fin hq
 ·exact hq.elim
 ·exact hq.elim
 ·exact yW rfl rfl rfl a'.defers a' ρ' w' rfl h' hv fun ρ2 w2 g1 g3=> .inr ⟨v,rfl,d,bx',ρ2,hq,hS.back rfl rfl g1 (fun _ h=>h.elim) (fun _ h=>h.elim) (fun _ h=>h.elim) (hS.y0 mn _ _),g3⟩
end Go.V
namespace Go.V
open Go.RowKit
variable {P:Program} {X:Ctx} {ρ:cM} {σ:Env} {bx:ae} {a:Act} {w:World}
def jY(gs l:Nat)(rc:Loop)(items:List (List D))(J:Nat->ae->Prop)(Jx:Code->ae->Prop)(c:ae)(h:Nat->Option Obj):Prop:=
 (c gs).k=0/\(((c gs).sz<=items.length/\h l=some (.loop rc)/\J (c gs).sz (bU gs c))\/
  ((c gs).sz=items.length+1/\∃jump,h l=some (.loop {rc with state:=.done,pending:=some jump})/\Jx jump (bU gs c)))
def Ctx.kX(X:Ctx)(lo:Nat)(Y:ae->(Nat->Option Obj)->Prop):Ctx:={X with lo:=lo,Y:=Y}
theorem aA.kX(h:aA X ρ σ bx a w){lo:Nat}{Y:ae->(Nat->Option Obj)->Prop}(yc:∀c h h',Y c h->(∀b o,h b=some o->h' b=some o)->Y c h')(inv:Y (bU lo bx) ρ.hold)(y0:lo=0->∀c h,Y c h):aA (X.kX lo Y) ρ σ bx a w:=
 ⟨h.fr,h.s0,h.nb,h.mb,h.ec,h.size,h.marks,h.pU,h.rA,h.tmps,h.fI,h.box,h.inj,h.n9,h.r0,h.hold,h.gy,yc,inv,y0,h.kf,h.maps.of (fun _ h=>⟨h,rfl,rfl⟩) (fun _ _ _ h=>h) (fun _ _ _ _ _ h=>h) (fun _ h=>h)⟩
theorem aA.N5{lo:Nat}{Y:ae->(Nat->Option Obj)->Prop}(h:aA (X.kX lo Y) ρ σ bx a w)(mn:X.lo=0)(xY:∀c h,X.Y c h):aA X ρ σ bx a w:=
 ⟨h.fr,h.s0,h.nb,h.mb,h.ec,h.size,h.marks,h.pU,h.rA,h.tmps,h.fI,h.box,h.inj,h.n9,h.r0,h.hold,h.gy,fun _ _ _ _ _=>xY _ _,xY _ _,fun _ c h=>xY c h,h.kf,h.maps.of (fun _ h=>⟨h,rfl,rfl⟩) (fun _ _ _ h=>h) (fun _ _ _ _ _ h=>h) (fun _ h=>h)⟩
def ky{m n:Nat}(h:m<=n)(bx:ae):bU m (bU n bx)=bU m bx:=by
 funext s;unfold bU;by_cases h1:s<m
 ·have:s<n:=oM;simp[h1,this]
 ·simp[h1]
def Nb(hm:P.follows .mixedOrders=true){f:FuncId}{fn:Func}{O:gN}{tab:List (Nat×List (Nat×Nat))}{caps:List D}{items:List (List D)}(hf:P.funcs[f]? =some fn)
 (eM:(fn.name== "runtime.NumGoroutine")=false) (hlen:caps.length+1<=fn.ntmps) (hO:Ok P O) (h:RB P O tab fn caps items):xW P f caps items (fn.ntmps+1):=by
 obtain⟨c,hb,bD,Bg,hc⟩:=h;obtain⟨hN,bD⟩:fn.ntmps<=ed/\dA tab fn.ntmps c=true:=by simpa[codeOk,ed]using bD
 intro X ρ σ bx a w fu gs rc vs J Jx;intro hS mn hl sf oF CM hv hJ nh;have Cx:aA X ρ σ (ak bx gs {bx gs with k:=0,sz:=0}) a w:=hS.less fun s=>by
  by_cases e:s=gs
  ·subst e;exact .inr ⟨by omega,by simp[ak],by simp[ak],by simp[ak,J_],by simp[ak]⟩
  ·exact .inl (by simp[ak,e])
 have yz:bU gs (ak bx gs {bx gs with k:=0,sz:=0})=bU gs bx:=kx fun s hs=>by
  have:s≠gs:=oM;simp[ak,this]
 have bw:∀b,az X ρ bx w b->az X ρ (ak bx gs {bx gs with k:=0,sz:=0}) w b:=fun b eg=>⟨eg.1,eg.2.1,fun t ht p hp=>by
  by_cases e:t=gs
  ·subst e;simp[ak]at ht
  ·simp only[ak,e,if_false]at ht hp;exact eg.2.2 t ht p hp⟩
 generalize gI:ak bx gs {bx gs with k:=0,sz:=0}=bx1 at Cx yz bw;have yC:(bx1 gs).k=0/\(bx1 gs).sz=0:=by rw[<-gI];simp[ak]
 obtain⟨k1,k2⟩:=nN (w:=w) (ρ:=ρ) (S:=az X ρ bx1 w) (ds:=.fn (.yield fu) []::caps) (vs:= #[Value.func (.yield fu) #[] #[]]++vs) (N:=fn.ntmps) (by simp[CM];omega) (by simpa using hlen) (fun i x v hx aT=>by
  cases i with
  |zero=>
   simp only[List.getElem?_cons_zero,sJ]at hx;subst hx;have dZ:v=Value.func (.yield fu) #[] #[]:=by
    rw[Array.getElem?_append_left sI]at aT;injection aT with aT;exact aT.symm
   subst dZ;exact .fn rfl sI
  |succ i=>
   simp only[List.getElem?_cons_succ]at hx;rw[Array.getElem?_append_right sI]at aT;have dZ:vs[i]? =some v:=by simpa using aT
   exact .pure ((hv i x v hx dZ).lA bw))
 have sb:=(hS.hold fu _ hl).1;have hE:∀b,b=fu->∀o,w.heap[b]? =some o->Obj.nk o=false:=by
  rintro b rfl o ho;rw[sb]at ho;injection ho with ho;subst ho;rfl
 have u9:=Cx.sub (E:=fun b=>b=fu) (N:=fn.ntmps) (ml:=w.heap.size) (md:=0) (a':={tmps:=(#[Value.func (.yield fu) #[] #[]]++vs)++Array.replicate (fn.ntmps - (#[Value.func (.yield fu) #[] #[]]++vs).size) undef,defers:=[]}) hN hE k1 (.nil (.inl rfl)) (Nat.le_refl _) k2;have pc:∀(c:ae) (h h':Nat->Option Obj),jY gs fu rc items J Jx c h->(∀b o,h b=some o->h' b=some o)->jY gs fu rc items J Jx c h':=by
  rintro c h h' ⟨g0,g1|⟨g1,jump,g2,g3⟩⟩ hh
  ·exact⟨g0,.inl ⟨g1.1,hh _ _ g1.2.1,g1.2.2⟩⟩
  ·exact⟨g0,.inr ⟨g1,jump,hh _ _ g2,g3⟩⟩
 have cutgs:∀bx:ae,bU (gs+1) bx gs=bx gs:=fun bx=>by simp[bU]
 have hW:=u9.kX (lo:=gs+1) (Y:=jY gs fu rc items J Jx) pc ⟨by rw[cutgs];exact yC.1,.inl ⟨by rw[cutgs,yC.2];omega,hl,by rw[cutgs,yC.2,ky oM,yz];exact hJ⟩⟩ (fun h0=>by omega);generalize Nn:X.sub ρ bx1 w (fun b=>b=fu) fn.ntmps w.heap.size 0=Y at u9 hW;have VC:Y.lo=0/\(∀c h,Y.Y c h)/\Y.S0=X.S0/\Y.n0=X.n0/\Y.E fu/\Y.ml=Y.w0.heap.size/\Y.N=fn.ntmps/\Y.md=0:=by rw[<-Nn];exact⟨rfl,fun _ _=>trivial,rfl,rfl,.inl rfl,rfl,rfl,rfl⟩
 obtain⟨ylo,yY,yS,yn,yE,yml,yN,ymd⟩:=VC;have back:∀(ρ':cM) (σ':Env) (bx':ae) (a':Act) (w':World),aA Y ρ' σ' bx' a' w'->aA X ρ' σ bx' a w':=by
  intro ρ' σ' bx' a' w' hs;rw[<-Nn]at hs;exact Cx.back rfl rfl hs (fun b hb=>by subst hb;exact .inr sf) (fun b hb=>by subst hb;rw[hl];simp) (fun b hb=>by subst hb;exact .inl oF) (hS.y0 mn _ _)
 have good:Good P ⟨O,tab,gs+1,gs+1+fn.ntmps,gs+1,some (items,gs,fu),false,false⟩ (Y.kX (gs+1) (jY gs fu rc items J Jx)):=by
  refine⟨hO,Nat.le_refl _,Nat.le_refl _,fun it2 g2 l2 hy ρ1 σi bxi ai wi us ds NQ hi gL fq=>?_,(fun hf=>by cases hf),(fun hf=>by have:Y.md=3:=hf;omega),fun hf=>by have:Y.md=3:=hf;omega⟩;simp only[sJ,Prod.mk.injEq]at hy;obtain⟨rfl,rfl,rfl⟩:=hy;have ar:=(gS.1 hi).1;have hinv:jY gs fu rc items J Jx (bU (gs+1) bxi) ρ1.hold:=NQ.inv;obtain⟨g0,g1⟩:=hinv;rw[cutgs]at g0 g1;rcases g1 with⟨g1,g2,g3⟩|⟨g1,_⟩
  ·rw[ky oM]at g3;have yJ:=NQ.N5 ylo yY;obtain⟨f2,tm,as,bd,hy,hR⟩:=nh (bxi gs).sz ds ρ1 bxi wi us hi (back _ _ _ _ _ yJ) g2 g3 gL (fun i x v hx aT=>by
    have:=fq i x v hx aT;have e:az (Y.kX (gs+1) (jY gs fu rc items J Jx)) ρ1 bxi wi=az X ρ1 bxi wi:=by funext b;simp only[az,Ctx.kX,yS,yn]
    rw[e]at this;exact this)
   refine⟨f2,tm,as,bd,hy,fun m=>(hR m).mono ?_⟩;rintro e w2 ⟨ρ2,bK,b,rfl,q1,q2,q3,q4⟩;refine⟨ρ2,bK,b,rfl,?_⟩;have JL:bK gs=bxi gs:=q1 gs (Nat.le_refl _) oM;have Qg:qE (gs+1) (gs+1+fn.ntmps) bxi bK=bK:=by
    funext s;unfold qE;by_cases hs:gs+1<=s/\s<gs+1+fn.ntmps
    ·rw[if_pos hs];exact(q1 s oM oM).symm
    ·rw[if_neg hs]
   show aA _ ρ2 σi (ak (qE (gs+1) (gs+1+fn.ntmps) bxi bK) gs _) ai w2;rw[Qg];have h3:=q2 Y σi ai yS yn yE yJ (yY _ _);have h4:aA Y ρ2 σi (ak bK gs {bxi gs with sz:=if b=true then(bxi gs).sz+1 else items.length+1}) ai w2:=h3.less fun s=>by
    by_cases e:s=gs
    ·subst e;exact .inr ⟨by omega,by simp[ak,g0],by simp[ak,JL],by simp[ak,g0,J_],by simp[ak,g0]⟩
    ·exact .inl (by simp[ak,e])
   have K9:∀b',bU gs (ak bK gs b')=bU gs bK:=fun b'=>kx fun s hs=>by
    have:s≠gs:=oM;simp[ak,this]
   refine h4.kX pc ?_ (fun h0=>by omega);refine⟨by rw[cutgs];simp[ak,g0],?_⟩;rw[cutgs,ky oM,K9];simp only[ak,if_true];rcases q4 with⟨rfl,q5,q6⟩|⟨rfl,jump,q5,q6⟩
   ·exact .inl ⟨by simp;omega,q5,by simpa using q6⟩
   ·exact .inr ⟨by simp,jump,q5,q6⟩
  ·omega
 refine⟨Go.MuLone.run_callFunc_enter hf eM hb _ w,callsIn_wide.1 (callsIn_of_wp_marks (F:=Fence.wide) (n:=0) hf hb trivial ?_)⟩;refine dS hm c none 0 ⟨O,tab,gs+1,gs+1+fn.ntmps,gs+1,some (items,gs,fu),false,false⟩ (Y.kX (gs+1) (jY gs fu rc items J Jx)) _ _ _ _ _ _ w good (fun l hl=>by cases hl) (by show dA tab Y.N c=true;rw[yN];exact bD) hW (hc gs fu bx1 yC.1 yC.2) fun e e' σ' bx' a' w' ρ' hx hq h'=>?_;have fin:items.length<=(bx' gs).sz->LeavesInM Fence.wide 0 P fn a'.tmps (fun e w'=>∃v ρ' bx',e= .returned v/\aA X ρ' σ bx' a w'/\
  ((ρ'.hold fu=some (.loop rc)/\J items.length (bU gs bx'))\/∃jump,ρ'.hold fu=some (.loop {rc with state:=.done,pending:=some jump})/\Jx jump (bU gs bx'))) a'.defers .returning w':=by
  intro hq;have hinv:jY gs fu rc items J Jx (bU (gs+1) bx') ρ'.hold:=h'.inv;obtain⟨g0,g1⟩:=hinv;rw[cutgs,ky oM]at g1;have yJ:=h'.N5 ylo yY;refine oI ylo yml ymd a'.defers a' ρ' w' rfl yJ (rs:=[]) (by rw[Bg];rfl) fun ρ2 w2 v s1 s2 _=>⟨v,ρ2,bx',rfl,back _ _ _ _ _ s1,?_⟩
  rcases g1 with⟨g1,g2,g3⟩|⟨g1,jump,g2,g3⟩
  ·have e:(bx' gs).sz=items.length:=oM;rw[e]at g3;exact .inl ⟨s2 _ _ g2 sI,g3⟩
  ·exact .inr ⟨jump,s2 _ _ g2 sI,g3⟩
 rcases hx.cases with⟨rfl,rfl⟩|⟨rfl,rfl⟩|⟨_,rfl,rfl⟩|⟨_,rfl,rfl⟩|⟨_,_,rfl,rfl,_⟩
 ·exact fin hq
 ·exact fin hq
 all_goals exact hq.elim
def KV(hm:P.follows .mixedOrders=true){f:FuncId}{fn:Func}{O:gN}{tab:List (Nat×List (Nat×Nat))}{b:Bx}{items:List (List D)}{pd:Option D}(hf:P.funcs[f]? =some fn)
 (eM:(fn.name== "runtime.NumGoroutine")=false) (hlen:2<=fn.ntmps) (hO:Ok P O) (h:PK P O tab fn b items pd):zI P f b items pd (fn.ntmps+2):=by
 obtain⟨c,hb,bD,Bg,hc⟩:=h;obtain⟨hN,bD⟩:fn.ntmps<=ed/\dA tab fn.ntmps c=true:=by simpa[codeOk,ed]using bD
 intro X ρ σ bx a w fu gs ep rc u J Jx;intro hS mn hl sf oF hbo hu hJ nh;have Cx:aA X ρ σ (ak bx gs {bx gs with k:=0,sz:=0}) a w:=hS.less fun s=>by
  by_cases e:s=gs
  ·subst e;exact .inr ⟨by omega,by simp[ak],by simp[ak],by simp[ak,J_],by simp[ak]⟩
  ·exact .inl (by simp[ak,e])
 have yz:bU gs (ak bx gs {bx gs with k:=0,sz:=0})=bU gs bx:=kx fun s hs=>by
  have:s≠gs:=oM;simp[ak,this]
 have bw:∀b,az X ρ bx w b->az X ρ (ak bx gs {bx gs with k:=0,sz:=0}) w b:=fun b eg=>⟨eg.1,eg.2.1,fun t ht p hp=>by
  by_cases e:t=gs
  ·subst e;simp[ak]at ht
  ·simp only[ak,e,if_false]at ht hp;exact eg.2.2 t ht p hp⟩
 have VR:ak bx gs {bx gs with k:=0,sz:=0} (gs+1)=⟨ep,1,b.sz,b.ty,b.es⟩:=by rw[<-hbo];simp[ak]
 have JT:=hu.mono (w':=w) (S':=az X ρ (ak bx gs {bx gs with k:=0,sz:=0}) w) (ρ':=ρ) (fun _ _=>rfl) bw (fun _ _ _ h=>h);generalize gI:ak bx gs {bx gs with k:=0,sz:=0}=bx1 at Cx yz bw VR JT;have yC:(bx1 gs).k=0/\(bx1 gs).sz=0:=by rw[<-gI];simp[ak]
 obtain⟨k1,k2⟩:=nN (w:=w) (ρ:=ρ) (S:=az X ρ bx1 w) (ds:=[.fn (.yield fu) [],.loc (gs+1) ep 0 0]) (vs:= #[Value.func (.yield fu) #[] #[],u]) (N:=fn.ntmps) rfl hlen (fun i x v hx aT=>by
  rcases i with _|_|i
  ·simp at hx aT;subst hx;subst aT;exact .fn rfl sI
  ·simp at hx aT;subst hx;subst aT;exact JT
  ·simp at hx)
 have sb:=(hS.hold fu _ hl).1;have hE:∀b,b=fu->∀o,w.heap[b]? =some o->Obj.nk o=false:=by
  rintro b rfl o ho;rw[sb]at ho;injection ho with ho;subst ho;rfl
 have u9:=Cx.sub (E:=fun b=>b=fu) (N:=fn.ntmps) (ml:=w.heap.size) (md:=0) (a':={tmps:= #[Value.func (.yield fu) #[] #[],u]++Array.replicate (fn.ntmps - #[Value.func (.yield fu) #[] #[],u].size) undef,defers:=[]}) hN hE k1 (.nil (.inl rfl)) (Nat.le_refl _) k2;have pc:∀(c:ae) (h h':Nat->Option Obj),jY gs fu rc items J Jx c h->(∀b o,h b=some o->h' b=some o)->jY gs fu rc items J Jx c h':=by
  rintro c h h' ⟨g0,g1|⟨g1,jump,g2,g3⟩⟩ hh
  ·exact⟨g0,.inl ⟨g1.1,hh _ _ g1.2.1,g1.2.2⟩⟩
  ·exact⟨g0,.inr ⟨g1,jump,hh _ _ g2,g3⟩⟩
 have cutgs:∀bx:ae,bU (gs+1) bx gs=bx gs:=fun bx=>by simp[bU]
 have hW:=u9.kX (lo:=gs+1) (Y:=jY gs fu rc items J Jx) pc ⟨by rw[cutgs];exact yC.1,.inl ⟨by rw[cutgs,yC.2];omega,hl,by rw[cutgs,yC.2,ky oM,yz];exact hJ⟩⟩ (fun h0=>by omega);generalize Nn:X.sub ρ bx1 w (fun b=>b=fu) fn.ntmps w.heap.size 0=Y at u9 hW;have VC:Y.lo=0/\(∀c h,Y.Y c h)/\Y.S0=X.S0/\Y.n0=X.n0/\Y.E fu/\Y.ml=Y.w0.heap.size/\Y.N=fn.ntmps/\Y.md=0:=by rw[<-Nn];exact⟨rfl,fun _ _=>trivial,rfl,rfl,.inl rfl,rfl,rfl,rfl⟩
 obtain⟨ylo,yY,yS,yn,yE,yml,yN,ymd⟩:=VC;have back:∀(ρ':cM) (σ':Env) (bx':ae) (a':Act) (w':World),aA Y ρ' σ' bx' a' w'->aA X ρ' σ bx' a w':=by
  intro ρ' σ' bx' a' w' hs;rw[<-Nn]at hs;exact Cx.back rfl rfl hs (fun b hb=>by subst hb;exact .inr sf) (fun b hb=>by subst hb;rw[hl];simp) (fun b hb=>by subst hb;exact .inl oF) (hS.y0 mn _ _)
 have good:Good P ⟨O,tab,gs+2,gs+2+fn.ntmps,gs+1,some (items,gs,fu),true,false⟩ (Y.kX (gs+1) (jY gs fu rc items J Jx)):=by
  refine⟨hO,Nat.le_refl _,(by show gs+1<=gs+2;omega),fun it2 g2 l2 hy ρ1 σi bxi ai wi us ds NQ hi gL fq=>?_,(fun hf=>by cases hf),(fun hf=>by have:Y.md=3:=hf;omega),fun hf=>by have:Y.md=3:=hf;omega⟩;simp only[sJ,Prod.mk.injEq]at hy;obtain⟨rfl,rfl,rfl⟩:=hy;have ar:=(gS.1 hi).1;have hinv:jY gs fu rc items J Jx (bU (gs+1) bxi) ρ1.hold:=NQ.inv;obtain⟨g0,g1⟩:=hinv;rw[cutgs]at g0 g1;rcases g1 with⟨g1,g2,g3⟩|⟨g1,_⟩
  ·rw[ky oM]at g3;have yJ:=NQ.N5 ylo yY;obtain⟨f2,tm,as,bd,hy,hR⟩:=nh (bxi gs).sz ds ρ1 bxi wi us hi (back _ _ _ _ _ yJ) g2 g3 gL (fun i x v hx aT=>by
    have:=fq i x v hx aT;have e:az (Y.kX (gs+1) (jY gs fu rc items J Jx)) ρ1 bxi wi=az X ρ1 bxi wi:=by funext b;simp only[az,Ctx.kX,yS,yn]
    rw[e]at this;exact this)
   refine⟨f2,tm,as,bd,hy,fun m=>(hR m).mono ?_⟩;rintro e w2 ⟨ρ2,bK,b,rfl,q1,q2,q3,q4⟩;refine⟨ρ2,bK,b,rfl,?_⟩;have JL:bK gs=bxi gs:=q1 gs (Nat.le_refl _) oM;have Qg:qE (gs+1) (gs+2+fn.ntmps) bxi bK=bK:=by
    funext s;unfold qE;by_cases hs:gs+1<=s/\s<gs+2+fn.ntmps
    ·rw[if_pos hs];exact(q1 s oM oM).symm
    ·rw[if_neg hs]
   show aA _ ρ2 σi (ak (qE (gs+1) (gs+2+fn.ntmps) bxi bK) gs _) ai w2;rw[Qg];have h3:=q2 Y σi ai yS yn yE yJ (yY _ _);have h4:aA Y ρ2 σi (ak bK gs {bxi gs with sz:=if b=true then(bxi gs).sz+1 else items.length+1}) ai w2:=h3.less fun s=>by
    by_cases e:s=gs
    ·subst e;exact .inr ⟨by omega,by simp[ak,g0],by simp[ak,JL],by simp[ak,g0,J_],by simp[ak,g0]⟩
    ·exact .inl (by simp[ak,e])
   have K9:∀b',bU gs (ak bK gs b')=bU gs bK:=fun b'=>kx fun s hs=>by
    have:s≠gs:=oM;simp[ak,this]
   refine h4.kX pc ?_ (fun h0=>by omega);refine⟨by rw[cutgs];simp[ak,g0],?_⟩;rw[cutgs,ky oM,K9];simp only[ak,if_true];rcases q4 with⟨rfl,q5,q6⟩|⟨rfl,jump,q5,q6⟩
   ·exact .inl ⟨by simp;omega,q5,by simpa using q6⟩
   ·exact .inr ⟨by simp,jump,q5,q6⟩
  ·omega
 refine⟨Go.MuLone.run_callFunc_enter hf eM hb _ w,callsIn_wide.1 (callsIn_of_wp_marks (F:=Fence.wide) (n:=0) hf hb trivial ?_)⟩;refine dS hm c none 0 ⟨O,tab,gs+2,gs+2+fn.ntmps,gs+1,some (items,gs,fu),true,false⟩ (Y.kX (gs+1) (jY gs fu rc items J Jx)) _ _ _ _ _ _ w good (fun l hl=>by cases hl) (by show dA tab Y.N c=true;rw[yN];exact bD) hW (hc gs fu ep bx1 yC.1 yC.2 VR) fun e e' σ' bx' a' w' ρ' hx hq h'=>?_;have fin:(items.length<=(bx' gs).sz/\(pd=none\/items.length<(bx' gs).sz))->LeavesInM Fence.wide 0 P fn a'.tmps (fun e w'=>(∃v ρ' bx',e= .returned v/\aA X ρ' σ bx' a w'/\
  ((pd=none/\ρ'.hold fu=some (.loop rc)/\J items.length (bU gs bx'))\/∃jump,ρ'.hold fu=some (.loop {rc with state:=.done,pending:=some jump})/\Jx jump (bU gs bx')))\/
  ∃d v ρ' bx',pd=some d/\e= .panicked [pe v]/\aA X ρ' σ bx' a w'/\aH w' (az X ρ' bx' w') ρ' d v/\J items.length (bU gs bx')) a'.defers .returning w':=by
  rintro⟨hq,iK⟩;have hinv:jY gs fu rc items J Jx (bU (gs+1) bx') ρ'.hold:=h'.inv;obtain⟨g0,g1⟩:=hinv;rw[cutgs,ky oM]at g1;have yJ:=h'.N5 ylo yY;refine oI ylo yml ymd a'.defers a' ρ' w' rfl yJ (rs:=[]) (by rw[Bg];rfl) fun ρ2 w2 v s1 s2 _=> .inl ⟨v,ρ2,bx',rfl,back _ _ _ _ _ s1,?_⟩;rcases g1 with⟨g1,g2,g3⟩|⟨g1,jump,g2,g3⟩
  ·have e:(bx' gs).sz=items.length:=oM;rw[e]at g3;exact .inl ⟨iK.resolve_right oM,s2 _ _ g2 sI,g3⟩
  ·exact .inr ⟨jump,s2 _ _ g2 sI,g3⟩
 rcases hx.cases with⟨rfl,rfl⟩|⟨rfl,rfl⟩|⟨_,rfl,rfl⟩|⟨_,rfl,rfl⟩|⟨d,v,rfl,rfl,hv⟩
 ·exact fin hq
 ·exact fin hq
 ·exact hq.elim
 ·exact hq.elim
 ·obtain⟨NL,hz⟩:=hq;have hinv:jY gs fu rc items J Jx (bU (gs+1) bx') ρ'.hold:=h'.inv;obtain⟨g0,g1⟩:=hinv;rw[cutgs,ky oM]at g1;have yJ:=h'.N5 ylo yY;have eS:az (Y.kX (gs+1) (jY gs fu rc items J Jx)) ρ' bx' w'=az Y ρ' bx' w':=by funext b;simp only[az,Ctx.kX]
  rw[eS]at hv;refine yW ylo yml ymd a'.defers a' ρ' w' rfl yJ hv fun ρ2 w2 s1 s3=> .inr ⟨d,v,ρ2,bx',NL,rfl,back _ _ _ _ _ s1,?_,?_⟩
  ·have eX:az Y ρ2 bx' w2=az X ρ2 bx' w2:=by funext b;simp only[az,yS,yn]
   rw[eX]at s3;exact s3
  ·rcases g1 with⟨_,_,g3⟩|⟨g1,_⟩
   ·rw[hz]at g3;exact g3
   ·omega
def cJ(P:Program):gN:=⟨ao P,bj P,xW P,zI P⟩
def sV(P:Program):Ok P (cJ P):=⟨fun _ _ _ h=>h,fun _ _ _ _ _ _ h=>h,fun _ _ _ _ h=>h,fun _ _ _ _ _ h=>h⟩
def aw(hm:P.follows .mixedOrders=true){f:FuncId}{fn:Func}{tab:List (Nat×List (Nat×Nat))}{ds:List D}{d:D}(h:qh P (cJ P) tab fn ds d)(hf:P.funcs[f]? =some fn)
 (eM:(fn.name== "runtime.NumGoroutine")=false) (hlen:decide (ds.length<=fn.ntmps)=true):ao P f ds d:=PL hm hf eM (of_decide_eq_true hlen) (sV P) h
def aI(hm:P.follows .mixedOrders=true){f:FuncId}{fn:Func}{tab:List (Nat×List (Nat×Nat))}{base:Nat}{ds:List D}{bx:ae}{Q Qp:D->ae->Prop}(h:mf P (cJ P) tab fn base ds bx Q Qp)(hf:P.funcs[f]? =some fn)
 (eM:(fn.name== "runtime.NumGoroutine")=false) (hlen:decide (ds.length<=fn.ntmps)=true):bj P f base ds bx Q Qp:=M9 hm hf eM (of_decide_eq_true hlen) (sV P) h
def M_(hm:P.follows .mixedOrders=true){f:FuncId}{fn:Func}{tab:List (Nat×List (Nat×Nat))}{caps:List D}{items:List (List D)}(h:RB P (cJ P) tab fn caps items)(hf:P.funcs[f]? =some fn)
 (eM:(fn.name== "runtime.NumGoroutine")=false) (hlen:decide (caps.length+1<=fn.ntmps)=true):xW P f caps items (fn.ntmps+1):=Nb hm hf eM (of_decide_eq_true hlen) (sV P) h
def Cr(hm:P.follows .mixedOrders=true){f:FuncId}{fn:Func}{tab:List (Nat×List (Nat×Nat))}{b:Bx}{items:List (List D)}{pd:Option D}(h:PK P (cJ P) tab fn b items pd)(hf:P.funcs[f]? =some fn)
 (eM:(fn.name== "runtime.NumGoroutine")=false) (hlen:decide (2<=fn.ntmps)=true):zI P f b items pd (fn.ntmps+2):=KV hm hf eM (of_decide_eq_true hlen) (sV P) h
end Go.V
