/- Plain laws: VC. -/
import Derived.Test.YtkgloohlmogakaaGreatDoorVM
import Derived.Sort.LoopGhostIn
import Derived.Conc.MuLone
import Derived.RangeFuncRecord
import Derived.RangeFuncIn
import Derived.Scope
import Derived.RangeFuncLeaves
set_option linter.all false
set_option maxHeartbeats 8000000
namespace Go.V
open Go.RowKit
mutual
def fe(s e s' e':Nat):D->D
 | .loc t k i j=>if t=s/\k=e then .loc s' e' i j else .loc t k i j
 | .bp t k sz o n=>if t=s/\k=e then .bp s' e' sz o n else .bp t k sz o n
 | .fJ t k i j n=>if t=s/\k=e then .fJ s' e' i j n else .fJ t k i j n
 | .agg ds=> .agg (sg s e s' e' ds)
 | .aI ds=> .aI (sg s e s' e' ds)
 | .fn f ds=> .fn f (sg s e s' e' ds)
 | .iC f ds=> .iC f (sg s e s' e' ds)
 | .dI t d=> .dI t (fe s e s' e' d)
 |d=>d
def sg(s e s' e':Nat):List D->List D
 |[]=>[]
 |d::ds=>fe s e s' e' d::sg s e s' e' ds
end
section
variable (s e s' e':Nat)
theorem xy:∀ds:List D,sg s e s' e' ds=ds.map (fe s e s' e')
 |[]=>by simp[sg]
 |d::ds=>by simp[sg,xy ds]
theorem FI(d:D):(fe s e s' e' d).cells=d.cells.map (fe s e s' e'):=by
 cases d with
 |agg ds=>simp only[fe,D.cells,xy]
 |loc t k i j=>simp only[D.cells,mC,List.map_nil];by_cases h:t=s/\k=e<;>simp[fe,h]
 |bp t k sz o n=>simp only[D.cells,mC,List.map_nil];by_cases h:t=s/\k=e<;>simp[fe,h]
 |fJ t k i j n=>simp only[D.cells,mC,List.map_nil];by_cases h:t=s/\k=e<;>simp[fe,h]
 |_=>simp[fe,D.cells]
end
variable {P:Program} {X:Ctx} {ρ ρ':cQ} {σ:Env} {bx:ae} {a:Act} {w:World} {s e s' e':Nat} {S:Nat->Prop} {d:D} {v:Value}
theorem bB.yg(h:bB w S d v):fe s e s' e' d=d:=by
 have hL:∀(ds:List D) (vs:Array Value),vs.size=ds.length->(∀(i:Nat) d v,ds[i]? =some d->vs[i]? =some v->fe s e s' e' d=d)->sg s e s' e' ds=ds:=by
  intro ds vs hl h;rw[xy];refine List.ext_getElem? fun i=>?_;rw[gM];cases hd:ds[i]? with
  |none=>rfl
  |some d=>
   have hi:i<vs.size:=by have:=(gS.1 hd).1;omega
   rw[Option.map_some,h i d vs[i] hd (Array.getElem?_eq_getElem hi)]
 induction h with
 |agg hl _ ih=>simp only[fe,hL _ _ hl ih]
 |aI hl _ ih=>simp only[fe,hL _ _ hl ih]
 |fn hl _ ih=>simp only[fe,hL _ _ hl ih]
 |iC hl _ ih=>simp only[fe,hL _ _ hl ih]
 |dI _ ih=>simp only[fe,ih]
 |_=>simp only[fe]
theorem aJ.yg(h:aJ w S ρ d v)(h1:∀t k p,ρ t k=some p->ρ' t k=some p)(h2:∀p,ρ s e=some p->ρ' s' e'=some p):aJ w S ρ' (fe s e s' e' d) v:=by
 have hL:∀(ds:List D) (vs:Array Value),vs.size=ds.length->(∀(i:Nat) d v,ds[i]? =some d->vs[i]? =some v->aJ w S ρ' (fe s e s' e' d) v)->vs.size=(sg s e s' e' ds).length/\∀(i:Nat) d v,(sg s e s' e' ds)[i]? =some d->vs[i]? =some v->aJ w S ρ' d v:=by
  intro ds vs hl h;rw[xy];refine⟨by simpa using hl,fun i d v hd hv=>?_⟩;rw[gM,mS]at hd;obtain⟨d0,ni,rfl⟩:=hd;exact h i d0 v ni hv
 induction h with
 |pure h=>rw[h.yg];exact .pure h
 |@loc t k i j q p hp hq=>
  simp only[fe];split
  ·rename_i hc;obtain⟨rfl,rfl⟩:=hc;exact .loc (h2 _ hp) hq
  ·exact .loc (h1 _ _ _ hp) hq
 |@bp t k sz o n off cap p hp bP h0 dY hn dK=>
  simp only[fe];split
  ·rename_i hc;obtain⟨rfl,rfl⟩:=hc;exact .bp (h2 _ hp) bP h0 dY hn dK
  ·exact .bp (h1 _ _ _ hp) bP h0 dY hn dK
 |@fJ t k i j n off cap p hp dY hn dK=>
  simp only[fe];split
  ·rename_i hc;obtain⟨rfl,rfl⟩:=hc;exact .fJ (h2 _ hp) dY hn dK
  ·exact .fJ (h1 _ _ _ hp) dY hn dK
 |omap hp=>simp only[fe];exact .omap (h1 _ _ _ hp)
 |agg hl _ ih=>simp only[fe];exact .agg (hL _ _ hl ih).1 (hL _ _ hl ih).2
 |aI hl _ ih=>simp only[fe];exact .aI (hL _ _ hl ih).1 (hL _ _ hl ih).2
 |fn hl _ ih=>simp only[fe];exact .fn (hL _ _ hl ih).1 (hL _ _ hl ih).2
 |iC hl _ ih=>simp only[fe];exact .iC (hL _ _ hl ih).1 (hL _ _ hl ih).2
 |dI _ ih=>simp only[fe];exact .dI ih
def jD(s s':Nat)(oV:Nat->Bool)(bx:ae):ae:=fun t=>
 if t=s' then⟨(bx s').ep+1,1,(bx s).sz,(bx s).ty,(bx s).es⟩else if t=s then {bx s with k:=0}
 else if oV t then {bx t with es:=(bx t).es.map (fe s (bx s).ep s' ((bx s').ep+1))}else bx t
theorem Holds.yg{p:Place}{es:List D}(h:Holds w S ρ p es)(h1:∀t k p,ρ t k=some p->ρ' t k=some p)(h2:∀p,ρ s e=some p->ρ' s' e'=some p):Holds w S ρ' p (es.map (fe s e s' e')):=by
 obtain⟨⟨cur,hc,hs,us,hu⟩,hl,hm,hz⟩:=h;refine⟨⟨cur,hc,hs,us,fun i d j c hi hj=>?_⟩,by simpa using hl,hm,fun i d hi=>?_⟩
 ·rw[gM,mS]at hi;obtain⟨d0,hi,rfl⟩:=hi;rw[FI,gM,mS]at hj;obtain⟨c0,hj,rfl⟩:=hj;obtain⟨g1,g2,g3⟩:=hu i d0 j c0 hi hj;exact⟨g1,g2.yg h1 h2,g3⟩
 ·rw[gM,mS]at hi;obtain⟨d0,hi,rfl⟩:=hi;rw[FI,List.length_map];exact hz i d0 hi
theorem gj.yg{ds:List D}{es:List MapEntry}(h:gj ds es):ds.map (fe s e s' e')=ds:=by
 induction h with
 |nil=>rfl
 |cons hk hv _ ih=>
  rw[mC,ih];simp only[fe,sg,bB.yg (hk.rep (w:=default) (S:=fun _=>True)),bB.yg (hv.rep (w:=default) (S:=fun _=>True))]
theorem oF.yg{ρ:cQ}{o:Obj}{es:List D}(h:oF ρ o es):es.map (fe s e s' e')=es:=by
 cases h with
 |@map ew clock es h=>
  rw[mC,h.yg];simp only[fe]
 |@iter m k p since last seen hp=>
  have:(seen.toList.map fun n:Nat=>D.int .i64 (n:Int)).map (fe s e s' e')=seen.toList.map fun n:Nat=>D.int .i64 (n:Int):=by
   rw[List.map_map];exact List.map_congr_left fun x hx=>by simp only[Function.comp,fe]
  rw[mC,mC,mC,this];simp only[fe]
theorem aA.KJ(h:aA X ρ σ bx a w)(bH:X.lo=0)(bw:s≠s')(hk:(bx s).k=1)(cW:(bx s').k=0)(oV:Nat->Bool):
 ∃ρ',aA X ρ' σ (jD s s' oV bx) a w/\(∀d v,aJ w (az X ρ bx w) ρ d v->aJ w (az X ρ' (jD s s' oV bx) w) ρ' d v)/\(∀p,ρ s (bx s).ep=some p->ρ' s' ((bx s').ep+1)=some p)/\ρ'.hold=ρ.hold:=by
 have hρ:∀t k p,ρ t k=some p->(if t=s'/\k=(bx s').ep+1 then ρ s (bx s).ep else ρ t k)=some p:=by
  intro t k p hp;rw[if_neg]
  ·exact hp
  ·rintro⟨rfl,rfl⟩;have:=h.ou _ _ _ hp;omega
 have hR:∀p,ρ s (bx s).ep=some p->(if s'=s'/\(bx s').ep+1=(bx s').ep+1 then ρ s (bx s).ep else ρ s' ((bx s').ep+1))=some p:=fun p hp=>by simpa using hp
 have live:∀t,t≠s'->lv (jD s s' oV bx t).k->t≠s/\(jD s s' oV bx t).k=(bx t).k/\(jD s s' oV bx t).ep=(bx t).ep/\(jD s s' oV bx t).sz=(bx t).sz/\(jD s s' oV bx t).ty=(bx t).ty:=by
  intro t ht hk;unfold jD at hk⊢;simp only[ht,if_false]at hk⊢;by_cases hs:t=s
  ·subst hs;simp[Kx]at hk
  ·simp only[hs,if_false]at hk⊢;split<;>exact⟨hs,rfl,rfl,rfl,rfl⟩
 have at':jD s s' oV bx s'=⟨(bx s').ep+1,1,(bx s).sz,(bx s).ty,(bx s).es⟩:=by simp[jD]
 refine⟨⟨fun t k=>if t=s'/\k=(bx s').ep+1 then ρ s (bx s).ep else ρ t k,ρ.hold⟩,?_⟩;have hS:∀b,az X ρ bx w b->az X ⟨fun t k=>if t=s'/\k=(bx s').ep+1 then ρ s (bx s).ep else ρ t k,ρ.hold⟩ (jD s s' oV bx) w b:=by
  intro b hb;refine⟨hb.1,hb.2.1,fun t ht p hp=>?_⟩;by_cases kQ:t=s'
  ·subst kQ;rw[at']at hp;simp only[and_self,if_true]at hp;exact hb.2.2 s hk p hp
  ·obtain⟨_,g1,g2,_⟩:=live t kQ (by rw[ht];decide);rw[g1]at ht;rw[g2]at hp;simp only[kQ,false_and,if_false]at hp;exact hb.2.2 t ht p hp
 have hD:∀d v,aJ w (az X ρ bx w) ρ d v->aJ w (az X ⟨fun t k=>if t=s'/\k=(bx s').ep+1 then ρ s (bx s).ep else ρ t k,ρ.hold⟩ (jD s s' oV bx) w) ⟨fun t k=>if t=s'/\k=(bx s').ep+1 then ρ s (bx s).ep else ρ t k,ρ.hold⟩ d v:=
  fun d v hr=>hr.mono (fun _ _=>rfl) hS hρ
 refine⟨⟨h.fr,h.s0,h.nb,h.mb,h.ec,h.size,h.marks.mono (fun _ _=>rfl) hS hρ (fun _ h=>h),h.qh,h.rQ,fun t=>hD _ _ (h.tmps t),hD _ _ h.fK,fun t ht=>?_,fun t t' p p' ht oR W3 hp bL=>?_,fun t k p hp=>?_,fun t k p hp=>hρ t k p (h.r0 t k p hp),h.hold,h.gA,h.yc,h.y0 bH _ _,h.y0,h.kl,h.maps.of (fun t ht=>?_) hρ (fun _ _ _ _ _ h=>h) (fun _ h=>h)⟩,hD,fun p hp=>by simpa using hp,rfl⟩
 ·by_cases kQ:t=s'
  ·subst kQ;obtain⟨p,hp,h2,h3,h4,h5⟩:=h.box s (by rw[hk];decide);rw[at'];exact⟨p,by simpa using hp,h2,h3,⟨h4.1,fun _=>h4.2 hk⟩,h5.mono rfl (fun _ _=>rfl) hS hρ⟩
  ·obtain⟨g0,g1,g2,g3,g4⟩:=live t kQ ht;obtain⟨p,hp,h2,h3,h4,h5⟩:=h.box t (by rw[<-g1];exact ht);refine⟨p,?_,h2.trans g3.symm,h3.trans g4.symm,⟨h4.1,fun iL=>h4.2 (g1▸iL)⟩,?_⟩
   ·rw[g2];simp only[kQ,false_and,if_false];exact hp
   ·have h6:=h5.mono (w':=w) rfl (fun _ _=>rfl) hS (ρ':=ρ) (fun _ _ _ h=>h);unfold jD;simp only[kQ,g0,if_false];split
    ·exact h6.yg hρ hR
    ·exact h6.mono rfl (fun _ _=>rfl) (fun _ h=>h) hρ
 ·by_cases kQ:t=s'
  ·subst kQ;obtain⟨g0,g1,g2,_⟩:=live t' (Ne.symm W3) oR;rw[at']at hp;rw[g2]at bL;simp only[and_self,if_true]at hp;simp only[Ne.symm W3,false_and,if_false]at bL;exact h.inj s t' p p' hk (by rw[<-g1];exact oR) (Ne.symm g0) hp bL
  ·obtain⟨g0,g1,g2,_⟩:=live t kQ (by rw[ht];decide);rw[g2]at hp;simp only[kQ,false_and,if_false]at hp;by_cases QP:t'=s'
   ·subst QP;rw[at']at bL;simp only[and_self,if_true]at bL;exact h.inj t s p p' (by rw[<-g1];exact ht) (by rw[hk];decide) g0 hp bL
   ·obtain⟨k0,k1,k2,_⟩:=live t' QP oR;rw[k2]at bL;simp only[QP,false_and,if_false]at bL;exact h.inj t t' p p' (by rw[<-g1];exact ht) (by rw[<-k1];exact oR) W3 hp bL
 ·by_cases kQ:t=s'
  ·subst kQ;rw[at'];simp only[true_and]at hp;split at hp
   ·rename_i kN;rw[kN];exact Nat.le_refl _
   ·have:=h.ou _ _ _ hp;simp only;omega
  ·simp only[kQ,false_and,if_false]at hp;have:=h.ou _ _ _ hp;unfold jD;simp only[kQ,if_false];split
   ·rename_i hs;subst hs;exact this
   ·split<;>exact this
 ·unfold jD at ht⊢;by_cases kQ:t=s'
  ·subst kQ;simp at ht
  ·simp only[kQ,if_false]at ht⊢;by_cases hs:t=s
   ·subst hs;simp at ht
   ·simp only[hs,if_false]at ht⊢;by_cases WV:oV t=true
    ·simp only[WV,if_true]at ht⊢;obtain⟨p,o,_,_,_,g4⟩:=h.maps.has t ht;refine⟨ht,?_,?_⟩<;>first|trivial|rfl|exact g4.yg
    ·simp only[WV]at ht⊢;refine⟨ht,?_,?_⟩<;>first|trivial|rfl
theorem aA.rename(h:aA X ρ σ bx a w)(bH:X.lo=0)(bw:s≠s')(hk:(bx s).k=1)(cW:(bx s').k=0)(oV:Nat->Bool):
 ∃ρ',aA X ρ' σ (jD s s' oV bx) a w/\(∀d v,aJ w (az X ρ bx w) ρ d v->aJ w (az X ρ' (jD s s' oV bx) w) ρ' d v):=
 let ⟨ρ',h1,h2,_⟩:=h.KJ bH bw hk cW oV
 ⟨ρ',h1,h2⟩
end Go.V
namespace Go.V
open Go.RowKit
variable {P:Program} {C:Calc} {X:Ctx} {ρ:cQ} {σ:Env} {bx:ae} {a:Act} {w:World} {r:Option Nat} {n:Nat}
def ri(P:Program)(C:Calc)(full:List Oper)(o:Oper)(σ:Env)(bx:ae)(K:Cl->Env->ae->Prop):Prop:=
 match o.guard with
 |none=>bq P C o σ bx K
 |some (j,want)=>aM (pX full[j]? σ) fun g=>gK g want (bq P C o σ bx K) (K .n (put σ o.dst (.raw undef)) bx)
def tK{c:Cl}{x y:Prop}(h:∀d,c≠ .cX d):jt c x y=y:=by cases c<;>first|rfl|exact absurd rfl (h _)
def zp(full:List Oper)(o:Oper)(rest:List Oper)(acc:List Cl)(K:List Cl->Env->ae->Prop):
 qV P C full (o::rest) acc σ bx K=ri P C full o σ bx fun c σ' bx'=>jt c (K (c::acc) σ' bx') (qV P C full rest (c::acc) σ' bx' K):=by
 obtain⟨dst,op,ty,pos,af,g⟩:=o;cases g with
 |none=>rfl
 |some g=>obtain⟨j,want⟩:=g;rfl
structure Gd(P:Program)(C:Calc)(full:List Oper)(o:Oper)(σ:Env)(bx:ae)(c:Cl)(v:D)(bx':ae):Prop where
 np:∀x,c≠ .cX x
 same:∀s,c.wr s=false->bx' s=bx s
 SP:eU o.op=0->c= .n
 SQ:eU o.op≠2->∀s,c.wr s=false
 run:∀σ₂ bx₂,(∀t∈o.looksAt full.toArray,σ₂ t=σ t)->(∀s,c.rd s=true->bx₂ s=bx s)->∀K:Cl->Env->ae->Prop,K c (put σ₂ o.dst v) (gn c bx' bx₂)->ri P C full o σ₂ bx₂ K
def nS{full:List Oper}{o:Oper}{σ₂:Env}(h:∀t∈o.looksAt full.toArray,σ₂ t=σ t):Alike σ σ₂ o.op:=fun x hx=>P6 fun t ht=>h t (by
 subst ht;exact List.mem_append_left _ (List.mem_filterMap.2 ⟨.tmp t,hx,rfl⟩))
def NK(hT:∀f b ds bx Q Qp,¬C.o.ux f b ds bx Q Qp)(lB:C.yl=none)(rM:C.pn=false)(nj:C.df=false){full:List Oper}{o:Oper}{K:Cl->Env->ae->Prop}(hs:ri P C full o σ bx K):∃c v bx',K c (put σ o.dst v) bx'/\Gd P C full o σ bx c v bx':=by
 unfold ri at hs;split at hs
 ·rename_i hg;obtain⟨c,v,bx',hK,he⟩:=zO hT lB rM nj hs;refine⟨c,v,bx',hK,⟨he.np,he.same,he.SP,he.SQ,fun σ₂ bx₂ h1 h2 K hK=>?_⟩⟩;unfold ri;rw[hg];exact he.run σ₂ bx₂ (nS h1) h2 K hK
 ·rename_i j want hg;cases hz:pX full[j]? σ with
  |none=>rw[hz]at hs;exact hs.elim
  |some g=>
   rw[hz]at hs;have hgu:∀σ₂:Env,(∀t∈o.looksAt full.toArray,σ₂ t=σ t)->pX full[j]? σ₂=some g:=by
    intro σ₂ h1;rw[<-hz];unfold pX;cases hj:full[j]? with
    |none=>rfl
    |some o'=>
     dsimp only;cases hd:o'.dst with
     |none=>rfl
     |some d=>
      dsimp only;rw[h1 d];refine List.mem_append_right _ ?_;rw[hg];simp[hj,hd]
   simp only[aM,gK]at hs;by_cases hw:g=some want
   ·rw[if_pos hw]at hs;obtain⟨c,v,bx',hK,he⟩:=zO hT lB rM nj hs;refine⟨c,v,bx',hK,⟨he.np,he.same,he.SP,he.SQ,fun σ₂ bx₂ h1 h2 K hK=>?_⟩⟩;unfold ri;rw[hg];simp only[hgu σ₂ h1,aM,gK,hw,if_true];exact he.run σ₂ bx₂ (nS h1) h2 K hK
   ·rw[if_neg hw]at hs;refine⟨_,_,_,hs,⟨(by intro x;simp),fun _ _=>rfl,fun _=>rfl,fun _ _=>rfl,fun σ₂ bx₂ h1 h2 K hK=>?_⟩⟩;unfold ri;rw[hg];simp only[hgu σ₂ h1,aM,gK,hw,if_false];rw[iN (fun _=>rfl)]at hK;exact hK
def rj{ops:Array Oper}(h:aA X ρ σ bx a w)(hG:Good P C X)(nk:∀l,r=some l->X.md=1){o:Oper}(cw:∀t,o.dst=some t->t<X.N){K:Cl->Env->ae->Prop}(hs:ri P C ops.toList o σ bx K)
 {next:Act->World->Prop} {Q:Exit->Act->World->Prop} (hK:∀c σ' bx' a' w' ρ',(∀x,c≠ .cX x)->K c σ' bx'->aA X ρ' σ' bx' a' w'->next a' w')
 (hP:∀d σ' bx' a' w' ρ' v,K (.cX d) σ' bx'->aA X ρ' σ' bx' a' w'->aJ w' (az X ρ' bx' w') ρ' d v->Q (.panic [pe v]) a' w'):
 if Region.wanted o (yielded ops a.tmps)=true then o.wpIn (Fw r) n P a w next Q else(∀f,o.about P w a.eval=some f->(Fw r).fn f)/\next (a.put o.dst undef) w:=by
 unfold ri at hs;split at hs
 ·rename_i hg;rw[if_pos (by simp[Region.wanted,hg])];exact DJ h hG nk cw hs hK hP
 ·rename_i j want hg;cases hz:pX ops.toList[j]? σ with
  |none=>rw[hz]at hs;exact hs.elim
  |some g=>
   rw[hz]at hs;have hy:yielded ops a.tmps j=g:=by
    unfold pX at hz;split at hz
    ·rename_i o' jN;split at hz
     ·rename_i d hd;have ht:=h.tmps d;have tV:ops[j]? =some o':=by rw[aG]at jN;exact jN
      unfold vQ at hz;split at hz
      ·rename_i b hb;rw[hb]at ht;have:=ht.jR;injection hz with hz;subst hz;have ar:d<a.tmps.size:=by
        rcases Nat.lt_or_ge d a.tmps.size with h1|h1
        ·exact h1
        ·rw[Array.getD_eq_getD_getElem?,Array.getElem?_eq_none h1]at this;cases this
       have ez:a.tmps[d]? =some (.bool b):=by
        rw[Array.getD_eq_getD_getElem?,Array.getElem?_eq_getElem ar]at this;rw[Array.getElem?_eq_getElem ar];simpa using this
       simp[yielded,tV,hd,ez]
      ·rename_i vs hb;rw[hb]at ht;have:=ht.Ea;split at hz
       ·injection hz with hz;subst hz;rw[Array.getD_eq_getD_getElem?]at this;simp only[yielded,tV,Option.bind_some,hd];cases ez:a.tmps[d]? with
        |none=>rfl
        |some v=>rw[ez]at this;simp only[Option.getD_some]at this;rw[this]
       ·cases hz
      ·cases hz
     ·cases hz
    ·cases hz
   simp only[aM,gK]at hs;by_cases hw:g=some want
   ·rw[if_pos hw]at hs;rw[if_pos (by simp[Region.wanted,hg,hy,hw])];exact DJ h hG nk cw hs hK hP
   ·rw[if_neg hw]at hs;rw[if_neg (by simp[Region.wanted,hg,hy,hw])];exact⟨fun _ _=>trivial,hK _ _ _ _ _ _ (by intro x;simp) hs (h.put cw (.pure (.raw _)))⟩
theorem Fx{ops:Array Oper}(hG:Good P C X)(nk:∀l,r=some l->X.md=1)(cw:∀o∈ops.toList,∀t,o.dst=some t->t<X.N){Q:Exit->Act->World->Prop}{K:List Cl->Env->ae->Prop}
 (hQ:∀acc σ' bx' a' w' ρ',(∀d l,acc≠ .cX d::l)->K acc σ' bx'->aA X ρ' σ' bx' a' w'->Q .normal a' w')
 (hP:∀d acc σ' bx' a' w' ρ' v,K (.cX d::acc) σ' bx'->aA X ρ' σ' bx' a' w'->aJ w' (az X ρ' bx' w') ρ' d v->Q (.panic [pe v]) a' w'):∀(rest done:List Oper) (acc:List Cl) (ρ:cQ) (σ:Env) (bx:ae) (a:Act) (w:World),ops.toList=done++rest->(∀d l,acc≠ .cX d::l)->aA X ρ σ bx a w->qV P C ops.toList rest acc σ bx K->
  wpOpsIn (Fw r) n P ops Q (List.range' done.length rest.length) a w
 |[],done,acc,ρ,σ,bx,a,w,hl,mK,h,hs=>hQ _ _ _ _ _ _ mK hs h
 |o::rest,done,acc,ρ,σ,bx,a,w,hl,mK,h,hs=>by
  rw[zp]at hs;have ho:ops[done.length]? =some o:=by rw[<-aG,hl];simp
  simp only[List.length_cons,List.range'_succ,wpOpsIn,ho];exact rj h hG nk (cw o (by rw[hl];simp)) hs (fun c σ' bx' a' w' ρ' hc hK h'=>by
   rw[tK hc]at hK;have:=Fx hG nk cw hQ hP rest (done++[o]) (c::acc) ρ' σ' bx' a' w' (by rw[hl];simp) (fun d l e=>hc d (by injection e)) h' hK;simpa using this) (fun d σ' bx' a' w' ρ' v hK h' hr=>hP _ _ _ _ _ _ _ _ hK h' hr)
def Uc{acc:List Cl}{x y:Prop}(h:∀d l,acc≠ .cX d::l):vG acc x y=y:=by
 unfold vG;split
 ·exact absurd rfl (h _ _)
 ·rfl
theorem A7{ops:Array Oper}(hG:Good P C X)(nk:∀l,r=some l->X.md=1)(cw:∀o∈ops.toList,∀t,o.dst=some t->t<X.N){Q:Exit->Act->World->Prop}{K:List Cl->Env->ae->Prop}
 (hQ:∀acc σ' bx' a' w' ρ',(∀d l,acc≠ .cX d::l)->K acc σ' bx'->aA X ρ' σ' bx' a' w'->Q .normal a' w')
 (hP:∀d acc σ' bx' a' w' ρ' v,K (.cX d::acc) σ' bx'->aA X ρ' σ' bx' a' w'->aJ w' (az X ρ' bx' w') ρ' d v->Q (.panic [pe v]) a' w') {ps:List (Nat×Nat)}:∀(rest done:List Oper) (i:Nat) (acc:List Cl) (ρ:cQ) (σ:Env) (bx:ae) (a:Act) (w:World),ops.toList=done++rest->(∀d l,acc≠ .cX d::l)->aA X ρ σ bx a w->sX P C ops.toList ps i rest acc σ bx K->
  wpOpsIn (Fw r) n P ops Q (List.range' done.length rest.length) a w
 |[],done,i,acc,ρ,σ,bx,a,w,hl,mK,h,hs=>hQ _ _ _ _ _ _ mK hs h
 |o::rest,done,i,acc,ρ,σ,bx,a,w,hl,mK,h,hs=>by
  simp only[sX]at hs;cases hz:rh C.lo (pV ps i) σ bx with
  |none=>rw[hz]at hs;exact hs.elim
  |some s=>
   rw[hz]at hs;have hs:qV P C ops.toList [o] acc s.1 s.2 (fun r7 σ' bx'=>vG r7 (K r7 σ' bx') (sX P C ops.toList ps (i+1) rest r7 σ' bx' K)):=hs;have h:=AL hG.lo _ h hz;rw[zp]at hs;have ho:ops[done.length]? =some o:=by rw[<-aG,hl];simp
   simp only[List.length_cons,List.range'_succ,wpOpsIn,ho];exact rj h hG nk (cw o (by rw[hl];simp)) hs (fun c σ' bx' a' w' ρ' hc hK h'=>by
    have hn:∀d l,c::acc≠ .cX d::l:=fun d l e=>hc d (by injection e);rw[tK hc]at hK;simp only[qV,Uc hn]at hK;have:=A7 hG nk cw hQ hP rest (done++[o]) (i+1) (c::acc) ρ' σ' bx' a' w' (by rw[hl];simp) hn h' hK;simpa using this) (fun d σ' bx' a' w' ρ' v hK h' hr=>hP _ _ _ _ _ _ _ _ hK h' hr)
def L7{ops:Array Oper}(hG:Good P C X)(nk:∀l,r=some l->X.md=1)(cw:∀o∈ops.toList,∀t,o.dst=some t->t<X.N){Q:Exit->Act->World->Prop}{K:List Cl->Env->ae->Prop}
 (hQ:∀acc σ' bx' a' w' ρ',(∀d l,acc≠ .cX d::l)->K acc σ' bx'->aA X ρ' σ' bx' a' w'->Q .normal a' w')
 (hP:∀d acc σ' bx' a' w' ρ' v,K (.cX d::acc) σ' bx'->aA X ρ' σ' bx' a' w'->aJ w' (az X ρ' bx' w') ρ' d v->Q (.panic [pe v]) a' w') (ps:List (Nat×Nat)) (rest done:List Oper) (acc:List Cl) (ρ:cQ) (σ:Env) (bx:ae) (a:Act) (w:World) (hl:ops.toList=done++rest) (mK:∀d l,acc≠ .cX d::l) (h:aA X ρ σ bx a w) (hs:zo P C ops.toList ps rest acc σ bx K):
  wpOpsIn (Fw r) n P ops Q (List.range' done.length rest.length) a w:=by
 cases ps with
 |nil=>exact Fx hG nk cw hQ hP rest done acc ρ σ bx a w hl mK h hs
 |cons p ps=>exact A7 hG nk cw hQ hP rest done 0 acc ρ σ bx a w hl mK h hs
theorem Dg(hT:∀f b ds bx Q Qp,¬C.o.ux f b ds bx Q Qp)(lB:C.yl=none)(rM:C.pn=false)(nj:C.df=false){full:List Oper}{K:List Cl->Env->ae->Prop}:∀(rest:List Oper) (acc:List Cl) (σ:Env) (bx:ae),qV P C full rest acc σ bx K->
 ∃(cs:Nat->Cl) (vs:Nat->D) (σs:Nat->Env) (bs:Nat->ae),σs 0=σ/\bs 0=bx/\(∀(k:Nat) o,rest[k]? =some o->σs (k+1)=put (σs k) o.dst (vs k)/\Gd P C full o (σs k) (bs k) (cs k) (vs k) (bs (k+1)))/\
  K (((List.range rest.length).map cs).reverse++acc) (σs rest.length) (bs rest.length)
 |[],acc,σ,bx,h=>⟨fun _=> .n,fun _=> .undef,fun _=>σ,fun _=>bx,rfl,rfl,fun k o ho=>by simp at ho,h⟩
 |o::rest,acc,σ,bx,h=>by
  rw[zp]at h;obtain⟨c,v,bx',hK,he⟩:=NK hT lB rM nj h;rw[tK he.np]at hK;obtain⟨cs,vs,σs,bs,h1,h2,h3,h4⟩:=Dg hT lB rM nj rest _ _ _ hK;refine⟨fun k=>match k with|0=>c|k+1=>cs k,fun k=>match k with|0=>v|k+1=>vs k,fun k=>match k with|0=>σ|k+1=>σs k,fun k=>match k with|0=>bx|k+1=>bs k,rfl,rfl,fun k o' ho=>?_,?_⟩
  ·cases k with
   |zero=>
    simp only[List.getElem?_cons_zero,sJ]at ho;subst ho;exact⟨h1,by show Gd P C full o σ bx c v (bs 0);rw[h2];exact he⟩
   |succ k=>exact h3 k o' (by simpa using ho)
  ·simp only[List.length_cons,List.range_succ_eq_map,mC,List.map_map,List.reverse_cons,List.append_assoc,List.singleton_append];exact h4
def aU{α:Type}(W:Nat->Prop)(L:Nat->Prop)(val:Nat->α)(init x:α):Prop:=
 (∃j,L j/\W j/\(∀j',L j'->W j'->j'<=j)/\x=val j)\/((∀j,L j->¬W j)/\x=init)
theorem aU.seq{α:Type}{W:Nat->Prop}[DecidablePred W]{val:Nat->α}{xs:Nat->α}(m:Nat)(h:∀k,k<m->xs (k+1)=if W k then val k else xs k):aU W (· <m) val (xs 0) (xs m):=by
 induction m with
 |zero=>exact .inr ⟨fun j hj=>absurd hj (Nat.not_lt_zero j),rfl⟩
 |succ m ih=>
  have ih:=ih fun k hk=>h k oM;have hm:=h m oM;by_cases hw:W m
  ·rw[if_pos hw]at hm;exact .inl ⟨m,Nat.lt_succ_self m,hw,fun j' hj _=>Nat.le_of_lt_succ hj,hm⟩
  ·rw[if_neg hw]at hm;rw[hm];rcases ih with⟨j,h1,h2,h3,h4⟩|⟨h1,h2⟩
   ·refine .inl ⟨j,Nat.lt_succ_of_lt h1,h2,fun j' hj kg=>?_,h4⟩;rcases Nat.lt_succ_iff_lt_or_eq.1 hj with hj|rfl
    ·exact h3 j' hj kg
    ·exact absurd kg hw
   ·refine .inr ⟨fun j hj kg=>?_,h2⟩;rcases Nat.lt_succ_iff_lt_or_eq.1 hj with hj|rfl
    ·exact h1 j hj kg
    ·exact hw kg
theorem aU.uniq{α:Type}{W L L':Nat->Prop}{val:Nat->α}{init x y:α}(h:aU W L val init x)(h':aU W L' val init y)(hL:∀j,W j->(L j<->L' j)):x=y:=by
 rcases h with⟨j,h1,h2,h3,rfl⟩|⟨h1,rfl⟩
 ·rcases h' with⟨j',g1,g2,g3,rfl⟩|⟨g1,rfl⟩
  ·have:j=j':=Nat.le_antisymm (g3 j ((hL j h2).1 h1) h2) (h3 j' ((hL j' g2).2 g1) g2);rw[this]
  ·exact absurd h2 (g1 j ((hL j h2).1 h1))
 ·rcases h' with⟨j',g1,g2,g3,rfl⟩|⟨g1,rfl⟩
  ·exact absurd g2 (h1 j' ((hL j' g2).2 g1))
  ·rfl
theorem aU.step{α:Type}{W L:Nat->Prop}[DecidablePred W]{val:Nat->α}{init x:α}{i:Nat}{L':Nat->Prop}(h:aU W L val init x)(pY:∀j,L' j<->L j\/j=i)(ho:W i->∀j,L j->W j->j<=i):
 aU W L' val init (if W i then val i else x):=by
 by_cases hw:W i
 ·rw[if_pos hw];refine .inl ⟨i,(pY i).2 (.inr rfl),hw,fun j hj tW=>?_,rfl⟩;rcases(pY j).1 hj with hj|rfl
  ·exact ho hw j hj tW
  ·exact Nat.le_refl _
 ·rw[if_neg hw];rcases h with⟨j,h1,h2,h3,rfl⟩|⟨h1,rfl⟩
  ·refine .inl ⟨j,(pY j).2 (.inl h1),h2,fun j' hj tW=>?_,rfl⟩;rcases(pY j').1 hj with hj|rfl
   ·exact h3 j' hj tW
   ·exact absurd tW hw
  ·refine .inr ⟨fun j hj tW=>?_,rfl⟩;rcases(pY j).1 hj with hj|rfl
   ·exact h1 j hj tW
   ·exact hw tW
theorem Gm{c c':Cl}(h:apart c c')(s:Nat):(c.wr s=true->c'.rd s=true->False)/\(c'.wr s=true->c.rd s=true->False):=by
 cases c<;>cases c'<;>simp_all[apart,Cl.wr,Cl.rd];all_goals first
  |(intro e;subst e;first|exact h|exact fun e=>h e|exact fun e=>h e.symm)
  |trivial
theorem GB:∀ {ps:List (Nat×Nat)} {acc:List Cl},EG ps acc->∀i j,(i,j)∈ps->Cf acc[i]? acc[j]?
 |[],_,_,i,j,hm=>by cases hm
 |(i',j')::ps,acc,h,i,j,hm=>by
  rcases List.mem_cons.1 hm with e|hm
  ·injection e with e1 e2;subst e1;subst e2;exact h.1
  ·exact GB h.2 i j hm
end Go.V
namespace Go.V
open Go.RowKit
variable {P:Program} {C:Calc} {X:Ctx} {ρ:cQ} {σ:Env} {bx:ae} {a:Act} {w:World} {r:Option Nat} {n:Nat}
theorem AE(ops:List Oper)(acc:Array Nat):(ops.foldl (fun acc o=>acc.push (o.after.foldl (fun s e=>if Region.binds .any e then s|||2 ^ e.on|||acc.getD e.on 0 else s) 0)) acc).size=acc.size+ops.length:=by
 induction ops generalizing acc with
 |nil=>rfl
 |cons o ops ih=>rw[List.foldl_cons,ih];simp;omega
def lC(acc:Array Nat)(o:Oper):Nat:=o.after.foldl (fun s e=>if Region.binds .any e then s|||2 ^ e.on|||acc.getD e.on 0 else s) 0
theorem Ch(ops:List Oper)(acc:Array Nat)(k:Nat)(hk:k<acc.size):(ops.foldl (fun acc o=>acc.push (lC acc o)) acc)[k]? =acc[k]?:=by
 induction ops generalizing acc with
 |nil=>rfl
 |cons o ops ih=>
  rw[List.foldl_cons,ih _ (by simp;omega),Array.getElem?_push,if_neg oM]
def AF(ops:List Oper)(o:Oper):(ops++[o]).foldl (fun acc o=>acc.push (lC acc o)) #[]=(ops.foldl (fun acc o=>acc.push (lC acc o)) #[]).push (lC (ops.foldl (fun acc o=>acc.push (lC acc o)) #[]) o):=by rw[List.foldl_append];rfl
def M1{acc:Array Nat}{L:Nat->Prop}{o:Oper}(hL:∀e∈o.after,Region.binds .any e=true->L e.on/\∀j,(acc.getD e.on 0).testBit j=true->L j){j:Nat}(h:(lC acc o).testBit j=true):L j:=by
 unfold lC at h;rw[<-Array.foldl_toList]at h;have key:∀(es:List Edge) (s:Nat),(∀e∈es,Region.binds .any e=true->L e.on/\∀j,(acc.getD e.on 0).testBit j=true->L j)->(s.testBit j=true->L j)->
  (es.foldl (fun s e=>if Region.binds .any e then s|||2 ^ e.on|||acc.getD e.on 0 else s) s).testBit j=true->L j:=by
  intro es;induction es with
  |nil=>exact fun s _ hs h=>hs h
  |cons e es ih=>
   intro s he hs h;rw[List.foldl_cons]at h;refine ih _ (fun e' Hh=>he e' (List.mem_cons_of_mem _ Hh)) ?_ h;intro h;split at h
   ·rename_i hb;obtain⟨g1,g2⟩:=he e (List.mem_cons_self ..) hb;simp only[Nat.testBit_or,Nat.testBit_two_pow,Bool.or_eq_true,decide_eq_true_eq]at h;rcases h with(h|h)|h
    ·exact hs h
    ·exact h▸g1
    ·exact g2 j h
   ·exact hs h
 exact key _ 0 (fun e he=>hL e (by simpa using he)) sI h
def oY{ops:List Oper}{L:Nat->Prop}(hL:∀(i:Nat) o,ops[i]? =some o->L i->∀e∈o.after,Region.binds .any e=true->L e.on/\e.on<i):
 ∀(i:Nat) o,ops[i]? =some o->(∀e∈o.after,Region.binds .any e=true->L e.on/\e.on<i)->∀j,((Region.before ops.toArray).getD i 0).testBit j=true->L j:=by
 have hb:Region.before ops.toArray=ops.foldl (fun acc o=>acc.push (lC acc o)) #[]:=by
  unfold Region.before;rw[List.foldl_toArray];rfl
 rw[hb];intro i;induction i using Nat.strongRecOn with
 |_ i ih=>
  intro o ho he j hj;have hi:=(gS.1 ho).1;have WY:ops=ops.take i++[o]++ops.drop (i+1):=by
   have:=List.take_append_drop i ops;rw[List.drop_eq_getElem_cons hi]at this;have jN:ops[i]=o:=by rw[gE hi]at ho;injection ho
   rw[jN]at this;simpa using this.symm
  have mK:∀k,k<i->((ops.take i).foldl (fun acc o=>acc.push (lC acc o)) #[]).getD k 0=(ops.foldl (fun acc o=>acc.push (lC acc o)) #[]).getD k 0:=by
   intro k hk;rw[Array.getD_eq_getD_getElem?,Array.getD_eq_getD_getElem?]
   congr 1
   conv=>rhs;rw[<-List.take_append_drop i ops,List.foldl_append]
   refine(Ch _ _ _ ?_).symm;have:=AE (ops.take i) #[];unfold lC;rw[this];simp;omega
  have mM:(ops.foldl (fun acc o=>acc.push (lC acc o)) #[]).getD i 0=lC ((ops.take i).foldl (fun acc o=>acc.push (lC acc o)) #[]) o:=by
   have bP:((ops.take i).foldl (fun acc o=>acc.push (lC acc o)) #[]).size=i:=by
    have:=AE (ops.take i) #[];unfold lC;rw[this];simp;omega
   rw[Array.getD_eq_getD_getElem?]
   conv=>lhs;rw[WY,List.foldl_append]
   rw[Ch _ _ _ (by rw[AF];simp[bP]),AF,Array.getElem?_push,if_pos bP.symm];rfl
  rw[mM]at hj;refine M1 (fun e Sj hb=>?_) hj;obtain⟨g1,g2⟩:=he e Sj hb;refine⟨g1,fun j' pE=>?_⟩;rw[mK _ g2]at pE;have ar:e.on<ops.length:=oM;exact ih e.on g2 ops[e.on] (gE ar) (hL e.on _ (gE ar) g1) j' pE
end Go.V
namespace Go.V
open Go.RowKit
variable {P:Program} {C:Calc} {X:Ctx} {ρ:cQ} {σ:Env} {bx:ae} {a:Act} {w:World} {r:Option Nat} {n:Nat}
def Jb{full:List Oper}{ps:List (Nat×Nat)}(h:Cs full ps=true):
 (∀(j:Nat) o,full[j]? =some o->∀e∈o.after,Region.binds .any e=true->e.on<j)/\
 ∀(i j:Nat) o o',full[j]? =some o->full[i]? =some o'->i≠j->ordered (Region.before full.toArray) i j=false->
  (∀d,o'.dst=some d->d∉tmpsOf full o)/\(∀d,o.dst=some d->d∉tmpsOf full o')/\
  (eU o.op=2->eU o'.op≠0->(full.length - 1 - j,full.length - 1 - i)∈ps\/(full.length - 1 - i,full.length - 1 - j)∈ps):=by
 simp only[Cs,List.all_eq_true,bA]at h;refine⟨fun j o ho e he Wi=>?_,fun i j o o' ho jN pD D6=>?_⟩
 ·have:=(h (o,j) (List.mem_zipIdx_iff_getElem?.2 ho)).1 e (by simpa using he);rw[Wi]at this;simpa using this
 ·have:=(h (o,j) (List.mem_zipIdx_iff_getElem?.2 ho)).2 (o',i) (List.mem_zipIdx_iff_getElem?.2 jN);simp only[Bool.or_eq_true,beq_iff_eq,pD,D6,Bool.false_eq_true,false_or,bA,Bool.not_eq_true',List.contains_eq_mem,decide_eq_true_eq,Bool.and_eq_false_iff]at this;obtain⟨⟨h1,h2⟩,h3⟩:=this;refine⟨fun d hd=>?_,fun d hd=>?_,fun h4 h5=>?_⟩
  ·rw[hd]at h1;simpa using h1
  ·rw[hd]at h2;simpa using h2
  ·rcases h3 with(h3|h3)|h3
   ·simp[h4,h5]at h3
   ·exact .inl h3
   ·exact .inr h3
theorem filter_le{α:Type}{p q:α->Bool}:∀ {l:List α},(∀x∈l,q x=true->p x=true)->(l.filter q).length<=(l.filter p).length
 |[],_=>Nat.le_refl _
 |z::l,h1=>by
  have ih:=filter_le (fun x hx=>h1 x (List.mem_cons_of_mem _ hx));cases hq:q z with
  |true=>simp[hq,h1 z sI hq,ih]
  |false=>
   cases hp:p z with
   |true=>simp[hq,hp];omega
   |false=>simp[hq,hp,ih]
theorem filter_lt{α:Type}{p q:α->Bool}:∀ {l:List α},(∀x∈l,q x=true->p x=true)->(∃x∈l,p x=true/\q x=false)->(l.filter q).length<(l.filter p).length
 |[],_,h=>by obtain⟨x,hx,_⟩:=h;cases hx
 |y::l,h1,h2=>by
  have hle:(l.filter q).length<=(l.filter p).length:=filter_le fun x hx=>h1 x (List.mem_cons_of_mem _ hx);obtain⟨x,hx,hp,hq⟩:=h2;rcases List.mem_cons.1 hx with rfl|hx
  ·simp only[List.filter_cons,hp,hq,if_true,Bool.false_eq_true,if_false,List.length_cons];omega
  ·have ih:=filter_lt (fun x hx=>h1 x (List.mem_cons_of_mem _ hx)) ⟨x,hx,hp,hq⟩;cases SB:q y with
   |true=>simp[SB,h1 y sI SB];exact ih
   |false=>
    cases hpy:p y with
    |true=>simp[SB,hpy];omega
    |false=>simp[SB,hpy];exact ih
structure qx(P:Program)(C:Calc)(full:List Oper)(cs:Nat->Cl)(vs:Nat->D)(σs:Nat->Env)(bs:Nat->ae):Prop where
 at_:∀(k:Nat) o,full[k]? =some o->σs (k+1)=put (σs k) o.dst (vs k)/\Gd P C full o (σs k) (bs k) (cs k) (vs k) (bs (k+1))
 back:∀(j:Nat) o,full[j]? =some o->∀e∈o.after,Region.binds .any e=true->e.on<j
 free:∀(i j:Nat) o o',full[j]? =some o->full[i]? =some o'->i≠j->ordered (Region.before full.toArray) i j=false->
  (∀d,o'.dst=some d->d∉tmpsOf full o)/\(∀s,(cs i).wr s=true->(cs j).rd s=true->False)
def Wt(full:List Oper)(t:Nat)(j:Nat):Prop:=∃o,full[j]? =some o/\o.dst=some t
def Ws(full:List Oper)(cs:Nat->Cl)(s:Nat)(j:Nat):Prop:=j<full.length/\(cs j).wr s=true
structure Inv(full:List Oper)(cs:Nat->Cl)(vs:Nat->D)(σs:Nat->Env)(bs:Nat->ae)(L:Nat->Prop)(σ:Env)(bx:ae):Prop where
 closed:∀(i:Nat) o,full[i]? =some o->L i->∀e∈o.after,Region.binds .any e=true->L e.on
 lt:∀j,L j->j<full.length
 t:∀t,aU (Wt full t) L vs (σs 0 t) (σ t)
 s:∀s,aU (Ws full cs s) L (fun j=>bs (j+1) s) (bs 0 s) (bx s)
section
variable {full:List Oper} {cs:Nat->Cl} {vs:Nat->D} {σs:Nat->Env} {bs:Nat->ae} {L:Nat->Prop}
open Classical in
theorem qx.S7(hR:qx P C full cs vs σs bs)(t m:Nat)(hm:m<=full.length):aU (Wt full t) (· <m) vs (σs 0 t) (σs m t):=by
 refine aU.seq (xs:=fun k=>σs k t) m fun k hk=>?_;have cW:k<full.length:=oM;have ho:=gE cW;rw[(hR.at_ k _ ho).1];by_cases hw:Wt full t k
 ·rw[if_pos hw];obtain⟨o,jN,hd⟩:=hw;rw[ho]at jN;injection jN with jN;subst jN;simp[put,hd,aj]
 ·rw[if_neg hw];cases hd:full[k].dst with
  |none=>rfl
  |some d=>
   have:t≠d:=fun e=>hw ⟨_,ho,by rw[hd,e]⟩;simp[put,aj,this]
open Classical in
theorem qx.S6(hR:qx P C full cs vs σs bs)(s m:Nat)(hm:m<=full.length):aU (Ws full cs s) (· <m) (fun j=>bs (j+1) s) (bs 0 s) (bs m s):=by
 refine aU.seq (xs:=fun k=>bs k s) m fun k hk=>?_;have cW:k<full.length:=oM;have ho:=gE cW;by_cases hw:Ws full cs s k
 ·rw[if_pos hw]
 ·rw[if_neg hw];refine(hR.at_ k _ ho).2.same s ?_;cases h:(cs k).wr s with
  |false=>rfl
  |true=>exact absurd ⟨cW,h⟩ hw
theorem qx.cut(hR:qx P C full cs vs σs bs)(hL:∀(i:Nat) o,full[i]? =some o->L i->∀e∈o.after,Region.binds .any e=true->L e.on){i:Nat}{o:Oper}(hi:full[i]? =some o)(hn:¬L i)
 (he:∀e∈o.after,Region.binds .any e=true->L e.on) {j:Nat} {o':Oper} (hj:full[j]? =some o') (Hu:j≠i->ordered (Region.before full.toArray) j i=true):L j<->j<i:=by
 have pY:∀(i:Nat) o,full[i]? =some o->L i->∀e∈o.after,Region.binds .any e=true->L e.on/\e.on<i:=fun i o h1 h2 e h3 h4=>⟨hL i o h1 h2 e h3 h4,hR.back i o h1 e h3 h4⟩
 by_cases gV:j=i
 ·subst gV;exact⟨fun h=>absurd h hn,fun h=>absurd h (Nat.lt_irrefl _)⟩
 ·have Hu:=Hu gV;unfold ordered at Hu;rcases Nat.lt_or_gt_of_ne gV with ar|Wz
  ·rw[Nat.max_eq_right oM,Nat.min_eq_left oM]at Hu;exact⟨fun _=>ar,fun _=>oY pY i o hi (fun e h1 h2=>⟨he e h1 h2,hR.back i o hi e h1 h2⟩) j Hu⟩
  ·rw[Nat.max_eq_left oM,Nat.min_eq_right oM]at Hu;exact⟨fun h=>absurd (oY pY j o' hj (fun e h1 h2=>pY j o' hj h e h1 h2) i Hu) hn,fun h=>by omega⟩
theorem qx.SY(hR:qx P C full cs vs σs bs){i j:Nat}{o:Oper}(hi:full[i]? =some o){t:Nat}(hj:Wt full t j)(ht:t∈tmpsOf full o)(gV:j≠i):ordered (Region.before full.toArray) j i=true:=by
 obtain⟨o',jN,hd⟩:=hj;cases h:ordered (Region.before full.toArray) j i with
 |true=>rfl
 |false=>exact absurd ht ((hR.free j i o o' hi jN gV h).1 t hd)
theorem qx.SX(hR:qx P C full cs vs σs bs){i j:Nat}{o:Oper}(hi:full[i]? =some o){s:Nat}(hj:Ws full cs s j)(ht:(cs i).rd s=true)(gV:j≠i):ordered (Region.before full.toArray) j i=true:=by
 cases h:ordered (Region.before full.toArray) j i with
 |true=>rfl
 |false=>exact((hR.free j i o _ hi (gE hj.1) gV h).2 s hj.2 ht).elim
theorem qx.ZN(hR:qx P C full cs vs σs bs)(hI:Inv full cs vs σs bs L σ bx){i:Nat}{o:Oper}(hi:full[i]? =some o)(hn:¬L i)(he:∀e∈o.after,Region.binds .any e=true->L e.on):
 (∀t∈o.looksAt full.toArray,σ t=σs i t)/\∀s,(cs i).rd s=true->bx s=bs i s:=by
 have ar:=(gS.1 hi).1;refine⟨fun t ht=>?_,fun s hs=>?_⟩
 ·refine(hI.t t).uniq (hR.S7 t i oM) fun j hj=>?_;have pE:=hj;obtain⟨o',jN,_⟩:=pE;exact hR.cut hI.closed hi hn he jN fun gV=>hR.SY hi hj (List.mem_append_right _ ht) gV
 ·refine(hI.s s).uniq (hR.S6 s i oM) fun j hj=>?_;exact hR.cut hI.closed hi hn he (gE hj.1) fun gV=>hR.SX hi hj hs gV
open Classical in
theorem qx.goes(hR:qx P C full cs vs σs bs)(hI:Inv full cs vs σs bs L σ bx){i:Nat}{o:Oper}(hi:full[i]? =some o)(hn:¬L i)(he:∀e∈o.after,Region.binds .any e=true->L e.on){L':Nat->Prop}(pY:∀j,L' j<->L j\/j=i):
 Inv full cs vs σs bs L' (put σ o.dst (vs i)) (gn (cs i) (bs (i+1)) bx):=by
 have ar:=(gS.1 hi).1;refine⟨fun k o' hk hLk e Sj hb=>?_,fun j hj=>?_,fun t=>?_,fun s=>?_⟩
 ·rcases(pY k).1 hLk with h|rfl
  ·exact(pY _).2 (.inl (hI.closed k o' hk h e Sj hb))
  ·rw[hi]at hk;injection hk with hk;subst hk;exact(pY _).2 (.inl (he e Sj hb))
 ·rcases(pY j).1 hj with h|rfl
  ·exact hI.lt j h
  ·exact ar
 ·have:=(hI.t t).step (i:=i) pY fun hw j V1 tW=>by
   have ae8:=tW;obtain⟨o',jN,_⟩:=ae8;obtain⟨o2,tV,qD⟩:=hw;rw[hi]at tV;injection tV with tV;subst tV;exact Nat.le_of_lt ((hR.cut hI.closed hi hn he jN fun gV=>hR.SY hi tW (List.mem_append_left _ (by simp[qD])) gV).1 V1)
  have e:put σ o.dst (vs i) t=if Wt full t i then vs i else σ t:=by
   by_cases hw:Wt full t i
   ·rw[if_pos hw];obtain⟨o2,tV,qD⟩:=hw;rw[hi]at tV;injection tV with tV;subst tV;simp[put,qD,aj]
   ·rw[if_neg hw];cases hd:o.dst with
    |none=>rfl
    |some d=>
     have:t≠d:=fun e=>hw ⟨_,hi,by rw[hd,e]⟩;simp[put,aj,this]
  rw[e];exact this
 ·have:=(hI.s s).step (i:=i) pY fun hw j V1 tW=>by
   have nk:(cs i).rd s=true:=by
    have:=hw.2;revert this;cases cs i<;>simp[Cl.wr,Cl.rd]
   exact Nat.le_of_lt ((hR.cut hI.closed hi hn he (gE tW.1) fun gV=>hR.SX hi tW nk gV).1 V1)
  have e:gn (cs i) (bs (i+1)) bx s=if Ws full cs s i then bs (i+1) s else bx s:=by
   by_cases hw:Ws full cs s i
   ·rw[if_pos hw];simp[gn,hw.2]
   ·rw[if_neg hw];cases h:(cs i).wr s with
    |true=>exact absurd ⟨ar,h⟩ hw
    |false=>simp[gn,h]
  rw[e];exact this
theorem qx.ends(hR:qx P C full cs vs σs bs)(hI:Inv full cs vs σs bs L σ bx)(eH:∀j,j<full.length->L j):σ=σs full.length/\bx=bs full.length:=by
 refine⟨funext fun t=>(hI.t t).uniq (hR.S7 t _ (Nat.le_refl _)) fun j hj=>?_,funext fun s=>(hI.s s).uniq (hR.S6 s _ (Nat.le_refl _)) fun j hj=>?_⟩
 ·obtain⟨o,ho,_⟩:=hj;have:=(gS.1 ho).1;exact⟨fun _=>this,fun h=>eH j h⟩
 ·exact⟨fun _=>hj.1,fun h=>eH j h⟩
end
def MX{ops:Array Oper}{cs:Nat->Cl}{vs:Nat->D}{σs:Nat->Env}{bs:Nat->ae}(hR:qx P C ops.toList cs vs σs bs)(hG:Good P C X)(nk:∀l,r=some l->X.md=1)(cw:∀o∈ops.toList,∀t,o.dst=some t->t<X.N)
 {Q:Exit->Act->World->Prop} (hQ:∀a' w' ρ',aA X ρ' (σs ops.toList.length) (bs ops.toList.length) a' w'->Q .normal a' w'):∀(fuel:Nat) (listed:Array Bool) (ρ:cQ) (σ:Env) (bx:ae) (a:Act) (w:World),listed.size=ops.size->
  ((List.range ops.size).filter fun j=> !listed.getD j false).length<=fuel->Inv ops.toList cs vs σs bs (fun j=>listed.getD j false=true) σ bx->aA X ρ σ bx a w->wpAnyIn (Fw r) n P .any ops Q fuel listed a w:=by
 have CN:∀(listed:Array Bool) (ρ:cQ) (σ:Env) (bx:ae) (a:Act) (w:World),Region.ready .any ops listed=[]->Inv ops.toList cs vs σs bs (fun j=>listed.getD j false=true) σ bx->listed.size=ops.size->aA X ρ σ bx a w->Q .normal a w:=by
  intro listed ρ σ bx a w hr hI bP h;have eH:∀j,j<ops.toList.length->listed.getD j false=true:=by
   intro j;induction j using Nat.strongRecOn with
   |_ j ih=>
    intro hj;have pE:j<ops.size:=by simpa using hj
    cases hl:listed.getD j false with
    |true=>rfl
    |false=>
     have ho:ops[j]? =some ops[j]:=Array.getElem?_eq_getElem pE;have:j∈Region.ready .any ops listed:=mem_ready.2 ⟨by
      have qa:j<listed.size:=oM;simp only[Array.getD,qa,dif_pos]at hl⊢;exact hl,ops[j],ho,fun e he hb=>by
       have ar:=hR.back j ops[j] (by rw[aG];exact ho) e he hb;exact ih e.on ar oM⟩
     rw[hr]at this;cases this
  obtain⟨rfl,rfl⟩:=hR.ends hI eH;exact hQ a w ρ h
 intro fuel;induction fuel with
 |zero=>
  intro listed ρ σ bx a w bP hf hI h;have uR:Region.ready .any ops listed=[]:=by
   cases hr:Region.ready .any ops listed with
   |nil=>rfl
   |cons i rs=>
    obtain⟨h1,o,h2,_⟩:=mem_ready.1 (show i∈Region.ready .any ops listed by rw[hr];simp);have hi:i<ops.size:=(Array.getElem?_eq_some_iff.1 h2).1;have:i∈(List.range ops.size).filter fun j=> !listed.getD j false:=by
     rw[List.mem_filter,List.mem_range];refine⟨hi,?_⟩;have jG:i<listed.size:=oM;simp only[Array.getD,jG,dif_pos]at h1⊢;simpa using h1
    have:=List.length_pos_of_mem this;omega
  exact⟨uR,CN listed ρ σ bx a w uR hI bP h⟩
 |succ fuel ih=>
  intro listed ρ σ bx a w bP hf hI h;refine⟨fun hr=>CN listed ρ σ bx a w hr hI bP h,fun i hi=>?_⟩;obtain⟨h1,o,h2,h3⟩:=mem_ready.1 hi;have Ho:ops.toList[i]? =some o:=by rw[aG];exact h2
  have dN:i<ops.size:=(Array.getElem?_eq_some_iff.1 h2).1;have jG:i<listed.size:=oM;have hn:¬listed.getD i false=true:=by
   have e:listed.getD i true=listed.getD i false:=by simp[Array.getD,jG]
   rw[<-e,h1];simp
  obtain⟨f1,f2⟩:=hR.ZN hI Ho hn h3;have gI:∀j,(listed.setIfInBounds i true).getD j false=true<->listed.getD j false=true\/j=i:=by
   intro j;by_cases gV:j=i
   ·subst gV;simp[Array.getD,jG]
   ·rw[getD_set_ne false (Ne.symm gV)];simp[gV]
  unfold wpOpIn;rw[h2];dsimp only;refine rj h hG nk (cw o (by rw[Array.mem_toList_iff];exact Array.mem_of_getElem? h2)) ((hR.at_ i o Ho).2.run σ bx f1 f2 (fun c σ' bx'=>(∀x,c≠ .cX x)/\σ'=put σ o.dst (vs i)/\bx'=gn (cs i) (bs (i+1)) bx) ⟨(hR.at_ i o Ho).2.np,rfl,rfl⟩) ?_ (fun d σ' bx' a' w' ρ' v hk _ _=>absurd rfl (hk.1 d));rintro c σ' bx' a' w' ρ' _ ⟨_,rfl,rfl⟩ h';refine ih _ ρ' _ _ a' w' (by simp[bP]) ?_ (hR.goes hI Ho hn h3 gI) h';have:((List.range ops.size).filter fun j=> !(listed.setIfInBounds i true).getD j false).length<((List.range ops.size).filter fun j=> !listed.getD j false).length:=by
   refine filter_lt (fun j _ hj=>?_) ⟨i,List.mem_range.2 dN,by simpa using hn,?_⟩
   ·cases hl:listed.getD j false with
    |false=>rfl
    |true=>
     have:=(gI j).2 (.inl hl);rw[this]at hj;simp at hj
   ·have:=(gI i).2 (.inr rfl);rw[this];rfl
  omega
def tg{full:List Oper}(h:Ay full=true):
 (∀(j:Nat) o,full[j]? =some o->o.guard=none/\∀e∈o.after,Region.binds .any e=true->e.on<j)/\
 ∀(i j:Nat) o o',full[j]? =some o->full[i]? =some o'->i≠j->ordered (Region.before full.toArray) i j=false->
  (∀d,o'.dst=some d->d∉tmpsOf full o)/\(∀d,o.dst=some d->d∉tmpsOf full o'):=by
 simp only[Ay,List.all_eq_true,bA]at h;refine⟨fun j o ho=>⟨?_,fun e he Wi=>?_⟩,fun i j o o' ho jN pD D6=>?_⟩
 ·have:=(h (o,j) (List.mem_zipIdx_iff_getElem?.2 ho)).1.1;simpa using this
 ·have:=(h (o,j) (List.mem_zipIdx_iff_getElem?.2 ho)).1.2 e (by simpa using he);rw[Wi]at this;simpa using this
 ·have:=(h (o,j) (List.mem_zipIdx_iff_getElem?.2 ho)).2 (o',i) (List.mem_zipIdx_iff_getElem?.2 jN);simp only[Bool.or_eq_true,beq_iff_eq,pD,D6,Bool.false_eq_true,false_or,bA]at this;obtain⟨h1,h2⟩:=this;refine⟨fun d hd=>?_,fun d hd=>?_⟩
  ·rw[hd]at h1;simpa using h1
  ·rw[hd]at h2;simpa using h2
theorem nJ{full:List Oper}{L:Nat->Bool}{i:Nat}:sH full L i=true<->L i=false/\∃o,full[i]? =some o/\∀e∈o.after,Region.binds .any e=true->L e.on=true:=by
 unfold sH;cases hL:L i with
 |true=>simp
 |false=>
  cases ho:full[i]? with
  |none=>simp
  |some o=>
   simp only[nF,Bool.true_and,List.all_eq_true,Bool.or_eq_true,Bool.not_eq_true',true_and,sJ,exists_eq_left'];constructor
   ·intro h e he hb;rcases h e (by simpa using he)with h|h
    ·rw[hb]at h;cases h
    ·exact h
   ·intro h e he;cases hb:Region.binds .any e with
    |false=>exact .inl rfl
    |true=>exact .inr (h e (by simpa using he) hb)
def vJ(full:List Oper)(L:Nat->Bool):Prop:=∀(i:Nat) o,full[i]? =some o->L i=true->∀e∈o.after,Region.binds .any e=true->L e.on=true
def uD{L:Nat->Bool}{i k:Nat}:mI L i k=true<->L k=true\/k=i:=by simp[mI,Or.comm]
def EA(L:Nat->Bool)(i j:Nat):mI (mI L i) j=mI (mI L j) i:=by funext k;simp only[mI];cases k==i<;>cases k==j<;>rfl
theorem vJ.add{full:List Oper}{L:Nat->Bool}(h:vJ full L){i:Nat}(hi:sH full L i=true):vJ full (mI L i):=by
 intro k o hk hL e he hb;obtain⟨_,o',jN,ha⟩:=nJ.1 hi;refine uD.2 (.inl ?_);rcases uD.1 hL with h1|rfl
 ·exact h k o hk h1 e he hb
 ·rw[jN]at hk;injection hk with hk;subst hk;exact ha e he hb
def Ap{full:List Oper}{L:Nat->Bool}{i j:Nat}(hj:sH full L j=true)(pD:j≠i):sH full (mI L i) j=true:=by
 obtain⟨h1,o,ho,h2⟩:=nJ.1 hj;refine nJ.2 ⟨?_,o,ho,fun e he hb=>uD.2 (.inl (h2 e he hb))⟩;simp[mI,h1,pD]
def BO{full:List Oper}(hT:Ay full=true){L:Nat->Bool}(hL:vJ full L){i j:Nat}(hi:sH full L i=true)(hj:sH full L j=true)(pD:i≠j):ordered (Region.before full.toArray) i j=false:=by
 obtain⟨hb,_⟩:=tg hT;have pY:∀(i:Nat) o,full[i]? =some o->L i=true->∀e∈o.after,Region.binds .any e=true->L e.on=true/\e.on<i:=fun i o h1 h2 e h3 h4=>⟨hL i o h1 h2 e h3 h4,(hb i o h1).2 e h3 h4⟩
 obtain⟨jF,oi,fU,hi3⟩:=nJ.1 hi;obtain⟨oy,oj,yU,N8⟩:=nJ.1 hj;cases h:ordered (Region.before full.toArray) i j with
 |false=>rfl
 |true=>
  unfold ordered at h;rcases Nat.lt_or_gt_of_ne pD with ar|Wz
  ·rw[Nat.max_eq_right oM,Nat.min_eq_left oM]at h;have:=oY (L:=fun k=>L k=true) pY j oj yU (fun e h1 h2=>⟨N8 e h1 h2,(hb j oj yU).2 e h1 h2⟩) i h;rw[jF]at this;cases this
  ·rw[Nat.max_eq_left oM,Nat.min_eq_right oM]at h;have:=oY (L:=fun k=>L k=true) pY i oi fU (fun e h1 h2=>⟨hi3 e h1 h2,(hb i oi fU).2 e h1 h2⟩) j h;rw[oy]at this;cases this
theorem HM{o:Oper}(h:Eb o=true):(∀T a,o.op≠ .load T a)/\∀ {σ:Env} {bx:ae} {K:Cl->Env->ae->Prop} {v:D},cT P σ bx o.op=some v->K .n (put σ o.dst v) bx->bq P C o σ bx K:=by
 obtain⟨dst,op,ty,pos,af,g⟩:=o;cases op<;>first
  |(simp[Eb]at h;done)
  |exact⟨by simp,fun hv hK=>by
   simp only[bq,fE];dsimp only at hv hK;rw[hv];exact hK⟩
theorem Jm{o:Oper}(h:HO o=true):∃T a,o.op= .load T a:=by
 obtain⟨dst,op,ty,pos,af,g⟩:=o;cases op<;>first
  |(simp[HO]at h;done)
  |exact⟨_,_,rfl⟩
theorem Ip{σ:Env}{d d':Option Tmp}{x y:D}(h:∀t,d=some t->d'≠some t):put (put σ d x) d' y=put (put σ d' y) d x:=by
 cases d with
 |none=>rfl
 |some t=>
  cases d' with
  |none=>rfl
  |some t'=>
   have bw:t≠t':=fun e=>h t rfl (by rw[e]);funext k;simp only[put,aj];by_cases h1:k=t<;>by_cases h2:k=t'<;>simp[h1,h2]
   ·exact absurd (h1.symm.trans h2) bw
   ·intro e;exact absurd e bw
   ·intro e;exact absurd e.symm bw
def uF{full:List Oper}{o:Oper}{d:Option Tmp}{x:D}(h:∀t,d=some t->t∉tmpsOf full o):Alike σ (put σ d x) o.op/\Alike (put σ d x) σ o.op:=by
 have key:∀t∈o.looksAt full.toArray,put σ d x t=σ t:=by
  intro t ht;cases d with
  |none=>rfl
  |some t'=>
   have:t≠t':=fun e=>h t' rfl (by rw[<-e];exact List.mem_append_right _ ht);simp[put,aj,this]
 exact⟨nS key,nS fun t ht=>(key t ht).symm⟩
theorem Fk{base:Nat}{bx bx':ae}:∀ {l:List Nat},w7 base bx bx' l->∀s∈l,bx' (base+s)=bx (base+s)
 |[],_,s,hs=>by cases hs
 |s::l,h,s',hs=>by
  rcases List.mem_cons.1 hs with rfl|hs
  ·exact h.1
  ·exact Fk h.2 s' hs
theorem wj{full:List Oper}:∀(t:ru) {L:Nat->Bool} {F F':List (Nat×Nat)} {mj:List Nat},(∀p∈F',p∈F)->fB full L F mj t=true->fB full L F' mj t=true
 | .fin,_,_,_,_,_,h=>h
 | .stop,_,_,_,_,_,h=>h
 | .aY i n,L,F,F',mj,hF,h=>by
   simp only[fB,bA]at h⊢;exact⟨h.1,wj n hF h.2⟩
 | .load i s n,L,F,F',mj,hF,h=>by
   simp only[fB,bA]at h⊢;refine⟨h.1,wj n (fun p hp=>?_) h.2⟩;rcases List.mem_cons.1 hp with rfl|hp
   ·exact List.mem_cons_self
   ·exact List.mem_cons_of_mem _ (hF p hp)
 | .both i je a r,L,F,F',mj,hF,h=>by
   simp only[fB,bA,List.all_eq_true]at h⊢;exact⟨⟨⟨h.1.1.1,fun p hp=>h.1.1.2 p (hF p hp)⟩,wj a hF h.1.2⟩,wj r hF h.2⟩
def Ul(lB:C.yl=none)(rM:C.pn=false)(nj:C.df=false){full:List Oper}(hT:Ay full=true){Pn:D->ae->Prop}{Q:Env->ae->Prop}:∀(t:ru) (L:Nat->Bool) (F:List (Nat×Nat)) (mj:List Nat) (σ:Env) (bx:ae),vJ full L->
 fB full L F mj t=true->lq P C full Pn Q t σ bx->∀(j:Nat) o,full[j]? =some o->sH full L j=true->j∉mj->
 bq P C o σ bx fun c σ' bx'=>jt c (Eh Pn c bx') ((∀p∈F,ordered (Region.before full.toArray) p.1 j=false->bx' (C.base+p.2)=bx (C.base+p.2))/\∃t',fB full (mI L j) F [] t'=true/\lq P C full Pn Q t' σ' bx'):=by
 intro t;induction t with
 |fin=>
  intro L F mj σ bx hL bC hs j o hj hr hc;simp only[fB,bA,List.all_eq_true,List.mem_range]at bC;have:=bC.2 j (gS.1 hj).1;rw[hr]at this;cases this
 |stop=>
  intro L F mj σ bx hL bC hs j o hj hr hc;simp only[fB,bA,List.all_eq_true,List.mem_range]at bC;have:=bC.2 j (gS.1 hj).1;rw[hr]at this;exact absurd (by simpa using this) hc
 |aY i n ih=>
  intro L F mj σ bx hL bC hs j o hj hr hc;simp only[fB,bA]at bC;obtain⟨⟨⟨aeM,uS⟩,bH⟩,Hs⟩:=bC;obtain⟨_,oi,hi,_⟩:=nJ.1 uS;simp only[hi]at bH;obtain⟨AV,bz⟩:=HM (P:=P) (C:=C) bH;simp only[lq,pj,hi]at hs;cases hv:cT P σ bx oi.op with
  |none=>rw[hv]at hs;exact hs.elim
  |some v=>
   rw[hv]at hs;simp only[aM]at hs;by_cases gV:j=i
   ·subst gV;rw[hi]at hj;injection hj with hj;subst hj;exact bz hv ⟨fun _ _ _=>rfl,n,Hs,hs⟩
   ·obtain⟨h1,h2⟩:=(tg hT).2 i j o oi hj hi (Ne.symm gV) (BO hT hL uS hr (Ne.symm gV));have qO:=ih (mI L i) F [] _ bx (hL.add uS) Hs hs j o hj (Ap hr gV) sI;obtain⟨R,EZ,E0⟩:=DI lB rM nj qO;refine E0 σ (uF h1).2 _ fun c x bx' hx=>nW id (fun g=>⟨g.1,?_⟩) (EZ c x bx' hx);obtain⟨t',oR,eb⟩:=g.2;refine⟨.aY i t',?_,?_⟩
    ·simp only[fB,bA];refine⟨⟨⟨rfl,Ap uS (Ne.symm gV)⟩,?_⟩,?_⟩
     ·simp only[hi];exact bH
     ·rw[EA];exact oR
    ·simp only[lq,pj,hi];rw[xK (σ:=σ) (bx:=bx) (uF h2).1 AV,hv];simp only[aM];rw[Ip (fun t e e'=>h2 t e (List.mem_append_left _ (by simp[e'])))];exact eb
 |load i s n ih=>
  intro L F mj σ bx hL bC hs j o hj hr hc;simp only[fB,bA]at bC;obtain⟨⟨⟨aeM,uS⟩,bH⟩,Hs⟩:=bC;obtain⟨_,oi,hi,_⟩:=nJ.1 uS;simp only[hi]at bH;obtain⟨T,a,pF⟩:=Jm bH;simp only[lq,pj,hi,An,pF]at hs;obtain⟨mr,hs⟩:=hs;cases hv:iH (an P T) bx (ev σ a)with
  |none=>rw[hv]at hs;exact hs.elim
  |some v=>
   rw[hv]at hs;simp only[aM]at hs;by_cases gV:j=i
   ·subst gV;rw[hi]at hj;injection hj with hj;subst hj;obtain⟨dst,op,ty,pos,af,g⟩:=oi;dsimp only at pF;subst pF;simp only[bq,hv,aM];have WJ:=BX (ev σ a);have:∀x y:Prop,y->jt (oe (ev σ a)) x y:=fun x y hy=>by rw[tK WJ];exact hy
    exact this _ _ ⟨fun _ _ _=>rfl,n,wj n (fun p hp=>List.mem_cons_of_mem _ hp) Hs,hs⟩
   ·obtain⟨h1,h2⟩:=(tg hT).2 i j o oi hj hi (Ne.symm gV) (BO hT hL uS hr (Ne.symm gV));have qO:=ih (mI L i) ((i,s)::F) [] _ bx (hL.add uS) Hs hs j o hj (Ap hr gV) sI;obtain⟨R,EZ,E0⟩:=DI lB rM nj qO;refine E0 σ (uF h1).2 _ fun c x bx' hx=>nW id (fun g=>⟨fun p hp=>g.1 p (List.mem_cons_of_mem _ hp),?_⟩) (EZ c x bx' hx);obtain⟨t',oR,eb⟩:=g.2;have hkp:bx' (C.base+s)=bx (C.base+s):=g.1 (i,s) List.mem_cons_self (BO hT hL uS hr (Ne.symm gV));refine⟨.load i s t',?_,?_⟩
    ·simp only[fB,bA];refine⟨⟨⟨rfl,Ap uS (Ne.symm gV)⟩,?_⟩,?_⟩
     ·simp only[hi];exact bH
     ·rw[EA];exact oR
    ·simp only[lq,pj,hi,An,pF];have dF:=(uF (σ:=σ) (x:=x) h2).1 a (by rw[pF];simp[Op.operands]);rw[dF];refine⟨mr,?_⟩;rw[A2 (bx:=bx) fun s' sC=>by
      rcases mr with e|e<;>rw[e]at sC
      ·simp[Cl.rd]at sC
      ·have:s'=C.base+s:=by simpa[Cl.rd]using sC
       rw[this];exact hkp,hv]
     simp only[aM];rw[Ip (fun t e e'=>h2 t e (List.mem_append_left _ (by simp[e'])))];exact eb
 |both i je a r iha ihr=>
  intro L F mj σ bx hL bC hs j o hj hr hc;simp only[fB,bA]at bC;obtain⟨⟨⟨uS,ZV⟩,aeW⟩,aeX⟩:=bC;simp only[lq]at hs;by_cases gV:j=i
  ·subst gV;have h:=hs.1;simp only[hj,pj]at h;refine tc (fun c σ' bx'=>nW id fun g=>⟨fun p hp ho=>?_,a,aeW,g.2⟩) h;have:=(List.all_eq_true.1 ZV) p hp;rw[ho]at this;exact Fk g.1 p.2 (by simpa using this)
  ·exact ihr L F (i::mj) σ bx hL aeX hs.2 j o hj hr (by simp[gV,hc])
theorem Um{full:List Oper}{Pn:D->ae->Prop}{Q:Env->ae->Prop}{L:Nat->Bool}{F:List (Nat×Nat)}(hn:∀j,sH full L j=false):∀ {t:ru},fB full L F [] t=true->lq P C full Pn Q t σ bx->Q σ bx
 | .fin,_,hs=>hs
 | .stop,h,_=>by simp[fB]at h
 | .aY i n,h,_=>by simp only[fB,hn i]at h;simp at h
 | .load i s n,h,_=>by simp only[fB,hn i]at h;simp at h
 | .both i k a r,h,_=>by simp only[fB,hn i]at h;simp at h
def O0{ops:Array Oper}(lB:C.yl=none)(rM:C.pn=false)(nj:C.df=false)(hT:Ay ops.toList=true)(hG:Good P C X)(nk:∀l,r=some l->X.md=1)(cw:∀o∈ops.toList,∀t,o.dst=some t->t<X.N)
 {Pn:D->ae->Prop} {Qd:Env->ae->Prop} {Q:Exit->Act->World->Prop} (hQ:∀σ bx a' w' ρ',Qd σ bx->aA X ρ' σ bx a' w'->Q .normal a' w')
 (hP:∀d σ' bx' a' w' ρ' v,Pn d bx'->aA X ρ' σ' bx' a' w'->aJ w' (az X ρ' bx' w') ρ' d v->Q (.panic [pe v]) a' w'):∀(fuel:Nat) (listed:Array Bool) (t:ru) (ρ:cQ) (σ:Env) (bx:ae) (a:Act) (w:World),listed.size=ops.size->
  ((List.range ops.size).filter fun j=> !listed.getD j false).length<=fuel->vJ ops.toList (fun j=>listed.getD j false)->fB ops.toList (fun j=>listed.getD j false) [] [] t=true->lq P C ops.toList Pn Qd t σ bx->aA X ρ σ bx a w->wpAnyIn (Fw r) n P .any ops Q fuel listed a w:=by
 have WT:∀(listed:Array Bool),listed.size=ops.size->∀j,sH ops.toList (fun j=>listed.getD j false) j=true<->j∈Region.ready .any ops listed:=by
  intro listed bP j;rw[nJ,mem_ready];constructor
  ·rintro⟨h1,o,h2,h3⟩;have hj:j<ops.size:=by
    have:=(gS.1 h2).1;simpa using this
   have qa:j<listed.size:=oM;refine⟨?_,o,by rw[<-aG];exact h2,h3⟩;simp only[Array.getD,qa,dif_pos]at h1⊢;exact h1
  ·rintro⟨h1,o,h2,h3⟩;have hj:j<ops.size:=(Array.getElem?_eq_some_iff.1 h2).1;have qa:j<listed.size:=oM;refine⟨?_,o,by rw[aG];exact h2,h3⟩;simp only[Array.getD,qa,dif_pos]at h1⊢;exact h1
 have CN:∀(listed:Array Bool) (t:ru) (ρ:cQ) (σ:Env) (bx:ae) (a:Act) (w:World),listed.size=ops.size->Region.ready .any ops listed=[]->fB ops.toList (fun j=>listed.getD j false) [] [] t=true->lq P C ops.toList Pn Qd t σ bx->aA X ρ σ bx a w->Q .normal a w:=by
  intro listed t ρ σ bx a w bP hr bC hs h;refine hQ σ bx a w ρ (Um (fun j=>?_) bC hs) h;cases hj:sH ops.toList (fun j=>listed.getD j false) j with
  |false=>rfl
  |true=>
   have:=(WT listed bP j).1 hj;rw[hr]at this;cases this
 intro fuel;induction fuel with
 |zero=>
  intro listed t ρ σ bx a w bP hf fL bC hs h;have uR:Region.ready .any ops listed=[]:=by
   cases hr:Region.ready .any ops listed with
   |nil=>rfl
   |cons i rs=>
    obtain⟨h1,o,h2,_⟩:=mem_ready.1 (show i∈Region.ready .any ops listed by rw[hr];simp);have hi:i<ops.size:=(Array.getElem?_eq_some_iff.1 h2).1;have:i∈(List.range ops.size).filter fun j=> !listed.getD j false:=by
     rw[List.mem_filter,List.mem_range];refine⟨hi,?_⟩;have jG:i<listed.size:=oM;simp only[Array.getD,jG,dif_pos]at h1⊢;simpa using h1
    have:=List.length_pos_of_mem this;omega
  exact⟨uR,CN listed t ρ σ bx a w bP uR bC hs h⟩
 |succ fuel ih=>
  intro listed t ρ σ bx a w bP hf fL bC hs h;refine⟨fun hr=>CN listed t ρ σ bx a w bP hr bC hs h,fun i hi=>?_⟩;have uS:=(WT listed bP i).2 hi;obtain⟨h1,o,h2,h3⟩:=mem_ready.1 hi;have Ho:ops.toList[i]? =some o:=by rw[aG];exact h2
  have dN:i<ops.size:=(Array.getElem?_eq_some_iff.1 h2).1;have jG:i<listed.size:=oM;have hn:¬listed.getD i false=true:=by
   have e:listed.getD i true=listed.getD i false:=by simp[Array.getD,jG]
   rw[<-e,h1];simp
  have gI:∀j,(listed.setIfInBounds i true).getD j false=true<->listed.getD j false=true\/j=i:=by
   intro j;by_cases gV:j=i
   ·subst gV;simp[Array.getD,jG]
   ·rw[getD_set_ne false (Ne.symm gV)];simp[gV]
  have Lu:(fun j=>(listed.setIfInBounds i true).getD j false)=mI (fun j=>listed.getD j false) i:=by
   funext j;refine Bool.eq_iff_iff.2 ?_;rw[gI,uD]
  unfold wpOpIn;rw[h2];dsimp only;have bz:=Ul lB rM nj hT t _ [] [] σ bx fL bC hs i o Ho uS sI;refine rj h hG nk (cw o (by rw[Array.mem_toList_iff];exact Array.mem_of_getElem? h2)) (K:=fun c σ' bx'=>jt c (Eh Pn c bx') ((∀p∈([]:List (Nat×Nat)),ordered (Region.before ops.toList.toArray) p.1 i=false->bx' (C.base+p.2)=bx (C.base+p.2))/\∃t',fB ops.toList (mI (fun j=>listed.getD j false) i) [] [] t'=true/\lq P C ops.toList Pn Qd t' σ' bx')) (by
   unfold ri;rw[((tg hT).1 i o Ho).1];exact bz) ?_ (fun d σ' bx' a' w' ρ' v hk h' hr=>hP d σ' bx' a' w' ρ' v hk h' hr)
  intro c σ' bx' a' w' ρ' hc hk h';rw[tK hc]at hk;obtain⟨t',oR,eb⟩:=hk.2;refine ih _ t' ρ' σ' bx' a' w' (by simp[bP]) ?_ (by rw[Lu];exact fL.add uS) (by rw[Lu];exact oR) eb h';have:((List.range ops.size).filter fun j=> !(listed.setIfInBounds i true).getD j false).length<((List.range ops.size).filter fun j=> !listed.getD j false).length:=by
   refine filter_lt (fun j _ hj=>?_) ⟨i,List.mem_range.2 dN,by simpa using hn,?_⟩
   ·cases hl:listed.getD j false with
    |false=>rfl
    |true=>
     have:=(gI j).2 (.inl hl);rw[this]at hj;simp at hj
   ·have:=(gI i).2 (.inr rfl);rw[this];rfl
  omega
end Go.V
namespace Go.V
open Go.RowKit
variable {P:Program} {C:Calc} {X:Ctx} {ρ:cQ} {σ:Env} {bx:ae} {a:Act} {w:World} {r:Option Nat} {n:Nat}
def Yd{ops:List Oper}{acc:List Cl}{id:Nat}{cs:Nat->Cl}{vs:Nat->D}{σs:Nat->Env}{bs:Nat->ae}{tab:List (Nat×List (Nat×Nat))}(bC:Cs ops (n9 tab id)=true)(mK:acc=((List.range ops.length).map cs).reverse)(J3:EG (n9 tab id) acc)
 (fS:∀(k:Nat) o,ops[k]? =some o->σs (k+1)=put (σs k) o.dst (vs k)/\Gd P C ops o (σs k) (bs k) (cs k) (vs k) (bs (k+1))):qx P C ops cs vs σs bs:=by
 obtain⟨sR,Sn⟩:=Jb bC;refine⟨fS,sR,fun i j o o' hj hi pD D6=>?_⟩;obtain⟨h1,h2,h3⟩:=Sn i j o o' hj hi pD D6;have Z1:ordered (Region.before ops.toArray) j i=false:=by rw[<-D6];simp[ordered,Nat.max_comm,Nat.min_comm]
 obtain⟨_,_,G6⟩:=Sn j i o' o hi hj (Ne.symm pD) Z1;refine⟨h1,fun s hw hr=>?_⟩;have qa:=(gS.1 hj).1;have jG:=(gS.1 hi).1;have hEi:=(fS i o' hi).2;have hEj:=(fS j o hj).2;have hwi:eU o'.op=2:=by
  rcases Nat.decEq (eU o'.op) 2 with bw|he
  ·have:=hEi.SQ bw s;rw[hw]at this;cases this
  ·exact he
 have tW:eU o.op≠0:=fun h0=>by
  have:=hEj.SP h0;rw[this]at hr;simp[Cl.rd]at hr
 have ez:∀k,k<ops.length->acc[ops.length - 1 - k]? =some (cs k):=by
  intro k hk;rw[mK,List.getElem?_reverse (by simp;omega)];simp only[List.length_map,List.length_range];have:ops.length - 1 - (ops.length - 1 - k)=k:=oM;rw[this,gM,List.getElem?_range hk];rfl
 rcases G6 hwi tW with hm|hm
 ·have:=GB J3 _ _ hm;rw[ez i jG,ez j qa]at this;exact(Gm this s).1 hw hr
 ·have:=GB J3 _ _ hm;rw[ez i jG,ez j qa]at this;exact(Gm this s).2 hw hr
theorem Good.AJ(h:Good P C X):Good P C.AJ X:=
 ⟨⟨h.ok.to,fun _ _ _ _ _ _ hf=>hf.elim,fun _ _ _ _ hf=>hf.elim,fun _ _ _ _ _ hf=>hf.elim⟩,h.lo,h.base,(fun _ _ _ hf=>by cases hf),(fun hf=>by cases hf),fun _ _ _ _ _ h=>h,fun _ _ _ _ _ _ h=>h⟩
theorem Good.dra(h:Good P C X):Good P ⟨C.o,C.tab,C.base,C.bk,C.lo,none,false,false⟩ X:=
 ⟨h.ok,h.lo,h.base,(fun _ _ _ hf=>by cases hf),(fun hf=>by cases hf),h.it,h.A1⟩
def pM(w:World)(l:Nat)(o:Obj):Fr (fun k=>k=l) w (w.putObj l o):=
 ⟨rfl,rfl,rfl,by simp,fun k _ hk=>World.putObj_heap_other hk⟩
def XR(w:World)(S:Nat->Prop)(ρ:cQ):DX->Exit->Prop
 | .normal,.normal=>True
 | .ret,.ret=>True
 | .exit i,.exit j=>i=j
 | .goto i,.goto j=>i=j
 | .cX d,.panic ch=>∃v,ch=[pe v]/\aJ w S ρ d v
 |_,_=>False
theorem XR.cases{S:Nat->Prop}{e:DX}{e':Exit}(h:XR w S ρ e e'):(e= .normal/\e'= .normal)\/(e= .ret/\e'= .ret)\/(∃i,e= .exit i/\e'= .exit i)\/(∃l,e= .goto l/\e'= .goto l)\/∃d v,e= .cX d/\e'= .panic [pe v]/\aJ w S ρ d v:=by
 cases e with
 |normal=>cases e'<;>first|exact h.elim|exact .inl ⟨rfl,rfl⟩
 |ret=>cases e'<;>first|exact h.elim|exact .inr (.inl ⟨rfl,rfl⟩)
 |exit i=>cases e' with
  |exit j=>have:i=j:=h;subst this;exact .inr (.inr (.inl ⟨i,rfl,rfl⟩))
  |_=>exact h.elim
 |goto i=>cases e' with
  |goto j=>have:i=j:=h;subst this;exact .inr (.inr (.inr (.inl ⟨i,rfl,rfl⟩)))
  |_=>exact h.elim
 |cX d=>cases e' with
  |panic ch=>obtain⟨v,rfl,hr⟩:=h;exact .inr (.inr (.inr (.inr ⟨d,v,rfl,rfl,hr⟩)))
  |_=>exact h.elim
def Sound(P:Program)(c:Code):Prop:=
 ∀(r:Option Nat) (n:Nat) (C:Calc) (X:Ctx) (Qd:DX->Env->ae->Prop) (Q:Exit->Act->World->Prop) (ρ:cQ) (σ:Env) (bx:ae) (a:Act) (w:World),Good P C X->(∀l,r=some l->X.md=1/\∃rc,X.r0.hold l=some (.loop rc)/\¬X.E l)->
  dH C.tab X.N c=true->aA X ρ σ bx a w->cR P C c Qd σ bx->(∀e e' σ' bx' a' w' ρ',XR w' (az X ρ' bx' w') ρ' e e'->Qd e σ' bx'->aA X ρ' σ' bx' a' w'->Q e' a' w')->c.wpIn (Fw r) n P Q a w
theorem Ci{S:Nat->Prop}:∀(ps:List Tmp) (it:List D) (us:List Value) (σ:Env) (tm:Array Value),us.length=it.length->it.length=ps.length->(∀t∈ps,t<tm.size)->(∀(i:Nat) x v,it[i]? =some x->us[i]? =some v->aJ w S ρ x v)->(∀t,aJ w S ρ (σ t) (tm.getD t undef))->
 ((ps.zip us).foldl (fun tmps (x:Tmp×Value)=>tmps.setIfInBounds x.1 x.2) tm).size=tm.size/\∀t,aJ w S ρ (kC σ ps it t) (((ps.zip us).foldl (fun tmps (x:Tmp×Value)=>tmps.setIfInBounds x.1 x.2) tm).getD t undef)
 |[],it,us,σ,tm,_,h2,_,_,h=>by
  cases it with
  |nil=>exact⟨rfl,h⟩
  |cons _ _=>simp at h2
 |p::ps,it,us,σ,tm,h1,h2,ar,hr,h=>by
  cases it with
  |nil=>simp at h2
  |cons d it=>
   cases us with
   |nil=>simp at h1
   |cons u us=>
    have:=Ci ps it us (aj σ p d) (tm.setIfInBounds p u) (by simpa using h1) (by simpa using h2) (fun t ht=>by simpa using ar t (List.mem_cons_of_mem _ ht)) (fun i x v hx hv=>hr (i+1) x v (by simpa using hx) (by simpa using hv)) (fun t=>by
     by_cases e:t=p
     ·subst e;have hl:=ar t (List.mem_cons_self ..);have e2:(tm.setIfInBounds t u).getD t undef=u:=by simp[Array.getD,hl]
      rw[e2];simp only[aj,if_true];exact hr 0 d u rfl rfl
     ·have e2:(tm.setIfInBounds p u).getD t undef=tm.getD t undef:=by simp only[Array.getD_eq_getD_getElem?,Array.getElem?_setIfInBounds_ne (Ne.symm e)]
      rw[e2];simp only[aj,e,if_false];exact h t)
    refine⟨?_,this.2⟩;have h1:=this.1;simp only[List.zip_cons_cons,List.foldl_cons];rw[h1];simp
def Gf(bk:Nat)(Qd:DX->Env->ae->Prop)(σ:Env):Code->ae->Prop
 | .ret,c=>∀bK,bU bk bK=c->Qd .ret σ bK
 | .exit id,c=>∀bK,bU bk bK=c->Qd (.exit id) σ bK
 |_,_=>False
def zI{assign body:Code}(hA:Sound P assign)(hB:Sound P body){ps:Array Tmp}{l ext:Nat}{rc:Loop}{items:List (List D)}{J:Nat->ae->Prop}{Qd:DX->Env->ae->Prop}(hG:Ok P C.o)(bH:C.lo=0)(lB:C.yl=none)
 (bC:(∀t∈ps.toList,t<X.N)/\dH C.tab X.N assign=true/\dH C.tab X.N body=true)
 (hrc:rc.state= .ready/\rc.pending=none/\rc.tmps=a.tmps/\rc.params=ps/\rc.assign=assign/\rc.body=body)
 (hr:∀n it bx1,items[n]? =some it->J n (bU C.bk bx1)->it.length=ps.size/\
  cR P ⟨C.o,C.tab,C.base,C.bk+ext,C.lo,C.yl,false,false⟩ assign (dM (cR P ⟨C.o,C.tab,C.base,C.bk+ext,C.lo,C.yl,false,false⟩ body (qo C.bk ext J n Qd σ bx1)) Fv) (kC σ ps.toList it) bx1):
 DT P X l rc C.bk ext items J (Gf C.bk Qd σ) σ a:=by
 obtain⟨st,pe,fn,tm,pr,as,bd,df⟩:=rc;obtain⟨bz,hpe,AY,CW,has,hbd⟩:=hrc;simp only at bz hpe AY CW has hbd;subst bz;subst hpe;subst AY;subst CW;subst has;subst hbd;intro n it ρ1 bx1 w1 us hi h hl hJ hul gB;obtain⟨jG,xT⟩:=hr n it bx1 hi hJ;have sA:=(h.hold l _ hl).1;have Sq:l<w1.heap.size:=(Array.getElem?_eq_some_iff.1 sA).1;refine⟨fn,_,as,bd,run_yield sA (by rw[hul,jG]),fun m=>roundIn_of_wpIn trivial ?_⟩;have hlen:(pr.zip us).toList=pr.toList.zip us.toList:=by simp
 obtain⟨bP,Z6⟩:=Ci (w:=w1) (ρ:=ρ1) (S:=az X ρ1 bx1 w1) pr.toList it us.toList σ a.tmps (by simpa using hul) (by simpa using jG) (fun t ht=>by rw[h.size];exact bC.1 t ht) (fun i x v hx hv=> .pure (gB i x v hx (by simpa using hv))) h.tmps;have e1:(pr.zip us).foldl (fun tmps (x:Tmp×Value)=>tmps.setIfInBounds x.1 x.2) a.tmps=(pr.toList.zip us.toList).foldl (fun tmps (x:Tmp×Value)=>tmps.setIfInBounds x.1 x.2) a.tmps:=by rw[<-hlen,Array.foldl_toList]
 have hE:∀b,b=l->∀o,w1.heap[b]? =some o->Obj.nv o=false:=by
  rintro b rfl o ho;rw[sA]at ho;injection ho with ho;subst ho;rfl
 have hc:aA (X.sub ρ1 bx1 w1 (fun b=>b=l) X.N 0 1) ρ1 (kC σ pr.toList it) bx1 {tmps:=(pr.zip us).foldl (fun tmps (x:Tmp×Value)=>tmps.setIfInBounds x.1 x.2) a.tmps,defers:=[]} w1:=
  h.sub h.qh hE (by rw[e1,bP];exact h.size) (.inl rfl) (Nat.zero_le _) (by rw[e1];exact Z6)
 generalize hY:X.sub ρ1 bx1 w1 (fun b=>b=l) X.N 0 1=Y at hc;have hYS:Y.S0=X.S0/\Y.n0=X.n0/\Y.w0=w1/\Y.r0=ρ1/\Y.N=X.N/\Y.lo=0/\(Y.E l/\∀b,Y.E b->b=l\/BB ρ1 bx1 b)/\Y.md=1:=by rw[<-hY];exact⟨rfl,rfl,rfl,rfl,rfl,rfl,⟨.inl rfl,fun _ h=>h⟩,rfl⟩
 obtain⟨yS,yn,yw,yr,yN,ylo,yE,ymd⟩:=hYS;have run:∀(c:Code),Sound P c->dH C.tab X.N c=true->∀(Qc:DX->Env->ae->Prop) (Qm:Exit->Act->World->Prop) (ρa:cQ) (σa:Env) (xP:ae) (aa:Act) (wa:World) (Iw:Loop),ρa.hold l=some (.loop Iw)->aA Y ρa σa xP aa wa->
  cR P ⟨C.o,C.tab,C.base,C.bk+ext,C.lo,C.yl,false,false⟩ c Qc σa xP->(∀e e' σ' bx' a' w' ρ',XR w' (az Y ρ' bx' w') ρ' e e'->Qc e σ' bx'->aA Y ρ' σ' bx' a' w'->ρ'.hold l=some (.loop Iw)->Qm e' a' w')->c.wpIn (Fw (some l)) m P Qm aa wa:=by
  intro c hS aeL Qc Qm ρa σa xP aa wa Iw sT qP xT hq;have vE:=qP.sub (E:=fun _=>False) (N:=X.N) (ml:=Y.ml) (md:=1) (σ':=σa) (a':=aa) h.qh (fun b hb=>hb.elim) (by rw[qP.size,yN]) (.inl rfl) (Nat.le_trans qP.rQ qP.fr.size) qP.tmps;refine hS (some l) m ⟨C.o,C.tab,C.base,C.bk+ext,C.lo,C.yl,false,false⟩ (Y.sub ρa xP wa (fun _=>False) X.N Y.ml 1) Qc Qm ρa σa xP aa wa ⟨hG,Nat.zero_le _,Nat.zero_le _,(fun i g k hk=>?_),(fun hf=>by cases hf),(fun hf=>by have:(1:Nat)=3:=hf;omega),fun hf=>by have:(1:Nat)=3:=hf;omega⟩ (fun l' xX=>?_) aeL vE xT fun e e' σ' bx' a' w' ρ' h0 h1 h2=>hq e e' σ' bx' a' w' ρ' h0 h1 ?_ (h2.gA l _ sT fun he=>he.elim id (qP.HT sT rfl))
  ·rw[show(Calc.mk C.o C.tab C.base (C.bk+ext) C.lo C.yl false false).yl=C.yl from rfl,lB]at hk;cases hk
  ·injection xX with xX;subst xX;exact⟨rfl,Iw,sT,fun he=>he.elim id (qP.HT sT rfl)⟩
  ·have hb:=qP.back rfl rfl h2 (fun b hb=>hb.elim) (fun b hb=>hb.elim) (fun b hb=>hb.elim) (qP.y0 ylo _ _);exact hb.switch (by rw[h2.size,yN];rfl) (.inl ymd) h2.tmps
 have setl:∀(ρa:cQ) (σa:Env) (xP:ae) (aa:Act) (wa:World) (Iw:Loop) (o':Loop),ρa.hold l=some (.loop Iw)->aA Y ρa σa xP aa wa->aA Y ⟨ρa.at_,fun k=>if k=l then some (.loop o')else ρa.hold k⟩ σa xP aa (wa.putObj l (.loop o')):=fun ρa σa xP aa wa Iw o' sT qP=>
  qP.Es sT (.inl yE.1) (.inr yE.1) sI rfl rfl (pM wa l _) (World.putObj_heap_same (Array.getElem?_eq_some_iff.1 (qP.hold l _ sT).1).1) (qP.y0 ylo _ _)
 refine run as hA bC.2.1 _ _ ρ1 _ bx1 _ w1 _ hl hc xT fun e e' σa xP aa wa ρa hx hq CY E6=>?_;rcases hx.cases with⟨rfl,rfl⟩|⟨rfl,rfl⟩|⟨_,rfl,rfl⟩|⟨_,rfl,rfl⟩|⟨_,_,rfl,rfl,_⟩
 rotate_left
 ·exact hq.elim
 ·exact hq.elim
 ·exact hq.elim
 ·exact hq.elim
 ·skip
  refine⟨_,run_beginRound (CY.hold l _ E6).1 rfl,?_⟩;have hsb:=setl ρa σa xP aa wa _ ⟨.busy,none,fn,a.tmps,pr,as,bd,df⟩ E6 CY;refine run bd hB bC.2.2 _ _ _ σa xP aa _ ⟨.busy,none,fn,a.tmps,pr,as,bd,df⟩ sI hsb hq fun e e' σc bxc ac wc ρc eO iM hsc rK=>?_;have fin:∀(jump:Option Code),(jump=none->J (n+1) (bU C.bk bxc))->(∀j,jump=some j->Gf C.bk Qd σ j (bU C.bk bxc))->∃v w',(Instr.endRound l jump).run P wc= .ok v w'/\∃ρ2 bK b,Ending.returned v= .returned (.bool b)/\(∀s,C.bk<=s->s<C.bk+ext->bK s=bx1 s)/\
   (∀(X1:Ctx) (σ1:Env) (a1:Act),X1.S0=X.S0->X1.n0=X.n0->X1.E l->aA X1 ρ1 σ1 bx1 a1 w1->X1.Y (bU X1.lo bK) ρ2.hold->aA X1 ρ2 σ1 bK a1 w')/\(∀k o,k≠l->ρ1.hold k=some o->Obj.Fi o=false->ρ2.hold k=some o)/\
   ((b=true/\ρ2.hold l=some (.loop ⟨.ready,none,fn,a.tmps,pr,as,bd,df⟩)/\J (n+1) (bU C.bk bK))\/(b=false/\∃jump,ρ2.hold l=some (.loop ⟨.done,some jump,fn,a.tmps,pr,as,bd,df⟩)/\Gf C.bk Qd σ jump (bU C.bk bK))):=by
   intro jump oy yU;have WU:=setl ρc σc bxc ac wc _ ⟨if jump.isNone then .ready else .done,jump,fn,a.tmps,pr,as,bd,df⟩ rK hsc;refine⟨_,_,run_endRound jump (hsc.hold l _ rK).1,⟨ρc.at_,fun k=>if k=l then some (.loop ⟨if jump.isNone then .ready else .done,jump,fn,a.tmps,pr,as,bd,df⟩)else ρc.hold k⟩,bxc,jump.isNone,rfl,iM.1,fun X1 σ1 a1 g1 g2 g3 g4 g5=>?_,fun k o hk ho aQ=>?_,?_⟩
   ·rw[<-hY]at WU;exact g4.back g1 g2 WU (fun b hb=>by subst hb;exact .inl g3) (fun b hb=>by subst hb;rw[hl];simp) (fun b hb=>by subst hb;exact .inr g3) g5
   ·have:=WU.gA k o (by rw[yr];exact ho) (fun he=>(yE.2 k he).elim hk (h.HT ho aQ));exact this
   ·cases jump with
    |none=>
     exact .inl ⟨rfl,by simp,oy rfl⟩
    |some j=>exact .inr ⟨rfl,j,by simp,yU j rfl⟩
  rcases eO.cases with⟨rfl,rfl⟩|⟨rfl,rfl⟩|⟨id,rfl,rfl⟩|⟨_,rfl,rfl⟩|⟨_,_,rfl,rfl,_⟩
  ·exact fin none (fun _=>iM.2) (fun j hj=>by cases hj)
  ·exact fin (some .ret) (fun hj=>by cases hj) (fun j hj=>by injection hj with hj;subst hj;exact iM.2)
  ·exact fin (some (.exit id)) (fun hj=>by cases hj) (fun j hj=>by injection hj with hj;subst hj;exact iM.2)
  ·exact iM.2.elim
  ·exact iM.2.elim
end Go.V
namespace Go.V
open Go.RowKit
variable {P:Program} {C:Calc} {X:Ctx} {ρ:cQ} {σ:Env} {bx:ae} {a:Act} {w:World} {r:Option Nat} {n:Nat}
theorem Mk.marked{S:Nat->Prop}{md ml:Nat}{d:D}{ds:List Deferred}{q:Nat}(h:Mk w S ρ md ml d ds)(G6:md≠3)(hh:md≠1->ρ.hold q=some (.deferred (some []))/\ml<=q/\iu q∉ds):Mk w S ρ md ml d (iu q::ds):=by
 by_cases mR:md=1
 ·exact .inl mR
 ·obtain⟨h1,h2,h3⟩:=hh mR;exact .inr ⟨.mark h1 h2 h3 (h.resolve_left mR).1,fun h=>absurd h G6⟩
def AK(h:aA X ρ σ bx a w)(h3:X.md≠3)(hr:∀l,r=some l->X.md=1/\∃rc,X.r0.hold l=some (.loop rc)/\¬X.E l)(fn:FuncId)(ps:Array Tmp)(assign body:Code):
 ∃l mark df w1 ρ2,(Instr.enterLoop fn a.tmps ps assign body r).run P w= .ok (l,mark) w1/\aA X ρ2 σ bx {a with defers:=mark++a.defers} w1/\ρ2.at_=ρ.at_/\Below w.heap.size w w1/\
  ρ2.hold l=some (.loop ⟨.ready,none,fn,a.tmps,ps,assign,body,df⟩)/\X.w0.heap.size<=l:=by
 cases r with
 |none=>
  have h1:=h.Ao (o:=.deferred (some [])) rfl;have h2:=h1.Ao (o:=.loop ⟨.ready,none,fn,a.tmps,ps,assign,body,w.heap.size⟩) rfl;refine⟨_,_,w.heap.size,_,_,run_enterLoop_outer fn a.tmps ps assign body,h2.switch (a':={a with defers:=[iu w.heap.size]++a.defers}) h2.size (h2.marks.marked h3 fun mR=>⟨by simp,Nat.le_trans h.rQ h.fr.size,fun fO=>?_⟩) h2.tmps,rfl,((Below.refl w.heap.size w).alloc (Nat.le_refl _) _).alloc sI _,by simp,?_⟩
  ·have hm:=(h.marks.resolve_left mR).1;have:=(Array.getElem?_eq_some_iff.1 (h.hold _ _ (hm.mem _ fO)).1).1;omega
  ·have:=h.fr.size;omega
 |some l0=>
  obtain⟨_,rc,h0,hE⟩:=hr l0 rfl;have AR:=(h.hold l0 _ (h.gA l0 _ h0 hE)).1;have h2:=h.Ao (o:=.loop ⟨.ready,none,fn,a.tmps,ps,assign,body,rc.defers⟩) rfl;refine⟨w.heap.size,[],rc.defers,_,_,?_,h2,rfl,(Below.refl w.heap.size w).alloc (Nat.le_refl _) _,by simp,h.fr.size⟩;unfold Instr.enterLoop;simp only[Sem.run_bind,run_getLoop AR,run_newObj_alloc,Result.andThen,Sem.run_pure]
def Iu{g:Operand}{ps:Array Tmp}{assign body:Code}(hA:Sound P assign)(hB:Sound P body){Qd:DX->Env->ae->Prop}{Q:Exit->Act->World->Prop}(hG:Good P C X)(hr:∀l,r=some l->X.md=1/\∃rc,X.r0.hold l=some (.loop rc)/\¬X.E l)
 (bC:dH C.tab X.N (.rangeFunc g ps assign body)=true) (h:aA X ρ σ bx a w) (bH:C.lo=0) (lB:C.yl=none) {f:FuncId} {t e:Nat} {b:Bx} {items:List (List D)} {pd:Option D} {ext:Nat} {J:Nat->ae->Prop}
 (hg:ev σ g= .fn (.func f) [.loc t e 0 0]) (Fb:t<C.bk) (su:bx t=⟨e,1,b.sz,b.ty,b.es⟩) (hit:C.o.A1 f b items pd ext) (J0:J 0 (bU C.bk (aj bx t {bx t with k:=0})))
 (nr:∀n it bx1,items[n]? =some it->J n (bU C.bk bx1)->it.length=ps.size/\
  cR P ⟨C.o,C.tab,C.base,C.bk+ext,C.lo,C.yl,false,false⟩ assign (dM (cR P ⟨C.o,C.tab,C.base,C.bk+ext,C.lo,C.yl,false,false⟩ body (qo C.bk ext J n Qd σ bx1)) Fv) (kC σ ps.toList it) bx1)
 (tR:∀bx1,J items.length (bU C.bk bx1)->Eg Qd σ bx1 pd)
 (hQ:∀e e' σ' bx' a' w' ρ',XR w' (az X ρ' bx' w') ρ' e e'->Qd e σ' bx'->aA X ρ' σ' bx' a' w'->Q e' a' w'):(Code.rangeFunc g ps assign body).wpIn (Fw r) n P Q a w:=by
 have mA:X.lo=0:=by have:=hG.lo;omega
 simp only[dH,bA,List.all_eq_true,decide_eq_true_eq]at bC;have N7:=h.ev g;rw[hg]at N7;obtain⟨vs,mM,uT,hv⟩:=N7.wg;obtain⟨u,rfl⟩:∃u,vs= #[u]:=by
  obtain⟨l⟩:=vs
  match l,uT with
  |[u],_=>exact⟨u,rfl⟩
 have hu:aJ w (az X ρ bx w) ρ (.loc t e 0 0) u:=hv 0 _ u rfl rfl;obtain⟨p,hp,rfl⟩:=hu.lP;refine wpIn_rangeFunc fun fn _=>?_;obtain⟨l,mark,df,w1,ρ2,he,h2,fS,hb,hl,sE⟩:=AK (P:=P) h (fun h3=>hG.A1 h3 _ _ _ _ _ hit) hr fn ps assign body;have CJ:aA X ρ2 σ (aj bx (C.bk+1) {bx (C.bk+1)with k:=0}) {a with defers:=mark++a.defers} w1:=h2.less fun s=>by
  by_cases e:s=C.bk+1
  ·subst e;exact .inr ⟨by omega,by simp[aj],by simp[aj],by simp[aj,Kx],by simp[aj]⟩
  ·exact .inl (by simp[aj,e])
 have kQ:t≠C.bk+1:=oM;have QD:aj bx (C.bk+1) {bx (C.bk+1)with k:=0} t=⟨e,1,b.sz,b.ty,b.es⟩:=by rw[<-su];simp[aj,kQ]
 obtain⟨ρ3,h3,_,Ss,sT⟩:=CJ.KJ mA kQ (by rw[QD]) (by simp[aj]) (fun _=>false);have E2:jD t (C.bk+1) (fun _=>false) (aj bx (C.bk+1) {bx (C.bk+1)with k:=0}) (C.bk+1)=⟨(bx (C.bk+1)).ep+1,1,b.sz,b.ty,b.es⟩:=by
  unfold jD;rw[if_pos rfl,QD];simp[aj]
 have yQ:bU C.bk (jD t (C.bk+1) (fun _=>false) (aj bx (C.bk+1) {bx (C.bk+1)with k:=0}))=bU C.bk (aj bx t {bx t with k:=0}):=kD fun s hs=>by
  have h1:s≠C.bk+1:=oM;by_cases bz:s=t
  ·subst bz;simp[jD,aj,h1]
  ·simp[jD,aj,h1,bz]
 have hp3:ρ3 (C.bk+1) ((bx (C.bk+1)).ep+1)=some p:=by
  have:=Ss p (by rw[QD];show ρ2.at_ t e=some p;rw[fS];exact hp);simpa[aj]using this
 generalize jD t (C.bk+1) (fun _=>false) (aj bx (C.bk+1) {bx (C.bk+1)with k:=0})=uK at h3 E2 yQ;rw[<-yQ]at J0;have hI:=hG.ok.A1 f b items pd ext hit X ρ3 σ uK _ w1 l C.bk ((bx (C.bk+1)).ep+1) ⟨.ready,none,fn,a.tmps,ps,assign,body,df⟩ (.pointer (some ⟨p.b,0 * p.sz+0,none⟩)) J (Gf C.bk Qd σ) h3 mA (by rw[sT];exact hl) sE (by
  cases h0:X.r0.hold l with
  |none=>rfl
  |some o=>have:=h.kl l o h0;omega) E2 (.loc hp3 rfl) J0
  (zI hA hB (a:={a with defers:=mark++a.defers}) hG.ok bH lB ⟨bC.1.1,bC.1.2,bC.2⟩ ⟨rfl,rfl,rfl,rfl,rfl,rfl⟩ nr)
 obtain⟨Wo,Hd⟩:=hI;refine⟨l,mark,w1,{target:=.fn (.func f) #[.pointer (some ⟨p.b,0 * p.sz+0,none⟩)],args:= #[.func (.yield l) #[] #[]]},w1,f,_,w1,he,by
  simp only[resolve,rangeCall,List.map_toArray,mC,List.map_nil];rw[mM];rfl,fun _ _=>trivial,Wo,fun h=>by simp[Fence.wide]at h,wL (Calls.mono Hd ?_)⟩
 rintro e w' (⟨v,ρ',bx',rfl,h',hJ⟩|⟨d,v,ρ',bx',Hv,rfl,h',fw,hJ⟩)
 ·have sA:∀rc,ρ'.hold l=some (.loop rc)->w'.heap[l]? =some (.loop rc):=fun rc hh=>(h'.hold l _ hh).1;have setl:∀rc o',ρ'.hold l=some (.loop rc)->aA X ⟨ρ'.at_,fun k=>if k=l then some (.loop o')else ρ'.hold k⟩ σ bx' {a with defers:=mark++a.defers} (w'.putObj l (.loop o')):=fun rc o' hh=>
   h'.Es hh (.inr sE) (by
    cases h0:X.r0.hold l with
    |none=>exact .inl rfl
    |some o=>have:=h.kl l o h0;omega) sI rfl rfl (pM w' l _) (World.putObj_heap_same (Array.getElem?_eq_some_iff.1 (sA rc hh)).1) (h'.y0 mA _ _)
  rcases hJ with⟨hn,hh,hJ⟩|⟨jump,hh,hJ⟩
  ·have hq:=tR bx' hJ;rw[hn]at hq;exact⟨none,_,run_endLoop (sA _ hh) sI,hQ .normal .normal _ _ _ _ _ trivial hq (setl _ _ hh)⟩
  ·refine⟨some jump,_,run_endLoop (sA _ hh) sI,?_⟩;cases jump with
   |ret=>exact wpIn_ret (hQ .ret .ret _ _ _ _ _ trivial (hJ bx' rfl) (setl _ _ hh))
   |exit id=>exact wpIn_exit (hQ (.exit id) (.exit id) _ _ _ _ _ rfl (hJ bx' rfl) (setl _ _ hh))
   |_=>exact hJ.elim
 ·have hq:=tR bx' hJ;rw[Hv]at hq;exact hQ (.cX d) (.panic [pe v]) _ _ _ _ _ ⟨v,rfl,fw⟩ hq h'
def Js{g:Operand}{ps:Array Tmp}{assign body:Code}(hA:Sound P assign)(hB:Sound P body):Sound P (.rangeFunc g ps assign body):=by
 intro r n C X Qd Q ρ σ bx a w hG hr bC h hc hQ;obtain⟨bH,lB,⟨f,caps,items,ext,hg,hp,hit,J,J0,nr,tR⟩|⟨f,t,e,b,items,pd,ext,hg,Fb,su,hit,J,J0,nr,tR⟩⟩:=hc
 case inr=>exact Iu hA hB hG hr bC h bH lB hg Fb su hit J0 nr tR hQ
 have mA:X.lo=0:=by have:=hG.lo;omega
 simp only[dH,bA,List.all_eq_true,decide_eq_true_eq]at bC;have N7:=h.ev g;rw[hg]at N7;obtain⟨vs,mM,uT,hv⟩:=N7.wg;refine wpIn_rangeFunc fun fn _=>?_;obtain⟨l,mark,df,w1,ρ2,he,h2,fS,hb,hl,sE⟩:=AK h (fun h3=>hG.it h3 _ _ _ _ hit) hr fn ps assign body;have hI:=hG.ok.it f caps items ext hit X ρ2 σ bx _ w1 l C.bk ⟨.ready,none,fn,a.tmps,ps,assign,body,df⟩ vs J (Gf C.bk Qd σ) h2 mA hl sE (by
  cases h0:X.r0.hold l with
  |none=>rfl
  |some o=>have:=h.kl l o h0;omega) uT (fun i x v hx aX=>((hv i x v hx aX).fC (u9 _ hp i x hx)).mono (fun b eo=>hb.block b eo.1) (fun b eo=>⟨Nat.lt_of_lt_of_le eo.1 hb.size,eo.2.1,by rw[fS];exact eo.2.2⟩)) J0
  (zI hA hB (a:={a with defers:=mark++a.defers}) hG.ok bH lB ⟨bC.1.1,bC.1.2,bC.2⟩ ⟨rfl,rfl,rfl,rfl,rfl,rfl⟩ nr)
 obtain⟨Wo,Hd⟩:=hI;refine⟨l,mark,w1,{target:=.fn (.func f) vs,args:= #[.func (.yield l) #[] #[]]},w1,f,_,w1,he,by
  simp only[resolve,rangeCall,List.map_toArray,mC,List.map_nil];rw[mM];rfl,fun _ _=>trivial,Wo,fun h=>by simp[Fence.wide]at h,wL (Calls.mono Hd ?_)⟩
 rintro e w' ⟨v,ρ',bx',rfl,h',hJ⟩;have sA:∀rc,ρ'.hold l=some (.loop rc)->w'.heap[l]? =some (.loop rc):=fun rc hh=>(h'.hold l _ hh).1;have setl:∀rc o',ρ'.hold l=some (.loop rc)->aA X ⟨ρ'.at_,fun k=>if k=l then some (.loop o')else ρ'.hold k⟩ σ bx' {a with defers:=mark++a.defers} (w'.putObj l (.loop o')):=fun rc o' hh=>
  h'.Es hh (.inr sE) (by
   cases h0:X.r0.hold l with
   |none=>exact .inl rfl
   |some o=>have:=h.kl l o h0;omega) sI rfl rfl (pM w' l _) (World.putObj_heap_same (Array.getElem?_eq_some_iff.1 (sA rc hh)).1) (h'.y0 mA _ _)
 rcases hJ with⟨hh,hJ⟩|⟨jump,hh,hJ⟩
 ·exact⟨none,_,run_endLoop (sA _ hh) sI,hQ .normal .normal _ _ _ _ _ trivial (tR bx' hJ) (setl _ _ hh)⟩
 ·refine⟨some jump,_,run_endLoop (sA _ hh) sI,?_⟩;cases jump with
  |ret=>exact wpIn_ret (hQ .ret .ret _ _ _ _ _ trivial (hJ bx' rfl) (setl _ _ hh))
  |exit id=>exact wpIn_exit (hQ (.exit id) (.exit id) _ _ _ _ _ rfl (hJ bx' rfl) (setl _ _ hh))
  |_=>exact hJ.elim
def MJ{F:Fence}{n:Nat}{Q:Exit->Act->World->Prop}{c:Code}(h:c.wpIn F n P (Exit.noGoto Q) a w):(Code.scope c).wpIn F n P Q a w:=by
 intro b k cs hro hb hr;have hs:step P (lone (b.atR a (.code (.scope c)::k)) cs w)= .next (lone (b.atR a (.code c:: .inScope c::k)) cs w):=step_lone_go (by simp[stepG,stepG.exec,Frame.atR])
 have eb:∀a w,step P (lone (b.atR a (.inScope c::k)) cs w)= .next (lone (b.atR a k) cs w):=fun a w=>step_lone_go (by simp[stepG,stepG.exec,Frame.atR])
 have h0:(lone (b.atR a (.code (.scope c)::k)) cs w).fenced P F:=fenced_calm hb hr rfl;obtain⟨e,a₁,w₁,hq,qN⟩:=h b (.inScope c::k) cs hro hb hr;cases e with
 |normal=>exact⟨.normal,a₁,w₁,hq,.head h0 hs (StepsIn.trans qN (.one (fenced_calm hb hr rfl) (eb _ _)))⟩
 |exit id=>
  have hx:exitTo id (.inScope c::k)=exitTo id k:=by simp[exitTo]
  exact⟨_,a₁,w₁,hq,fun k' hk=> .head h0 hs (qN.1 k' (by rw[hx];exact hk)),
   fun Of hk=>let ⟨k₁,h1,h2⟩:=qN.2 Of (by rw[hx];exact hk);⟨k₁,h1,.head h0 hs h2⟩⟩
 |goto l=>exact hq.elim
 |ret=>exact⟨_,a₁,w₁,hq,.of_steps (.one h0 hs) qN⟩
 |panic ch=>exact⟨_,a₁,w₁,hq,.of_steps (.one h0 hs) qN⟩
 |outgrown=>exact⟨_,a₁,w₁,hq,.of_steps (.one h0 hs) qN⟩
theorem aJ.Ol{S:Nat->Prop}{v:Value}(h:aJ w S ρ .ic v):∃b,v= .bool b:=by
 cases h with
 |pure h=>cases h with|ic b=>exact⟨b,rfl⟩
theorem dZ(hm:P.follows .mixedOrders=true):∀(c:Code),Sound P c
 | .skip=>fun r n C X Qd Q ρ σ bx a w hG hr bC h hc hQ=>wpIn_skip (hQ .normal .normal _ _ _ _ _ trivial hc h)
 | .label _=>fun r n C X Qd Q ρ σ bx a w hG hr bC h hc hQ=>wpIn_label (hQ .normal .normal _ _ _ _ _ trivial hc h)
 | .exit id=>fun r n C X Qd Q ρ σ bx a w hG hr bC h hc hQ=>wpIn_exit (hQ (.exit id) (.exit id) _ _ _ _ _ rfl hc h)
 | .ret=>fun r n C X Qd Q ρ σ bx a w hG hr bC h hc hQ=>wpIn_ret (hQ .ret .ret _ _ _ _ _ trivial hc h)
 | .seq x y=>fun r n C X Qd Q ρ σ bx a w hG hr bC h hc hQ=>by
   simp only[dH,bA]at bC;refine wpIn_seq (dZ hm x r n C X _ _ ρ σ bx a w hG hr bC.1 h hc fun e e' σ' bx' a' w' ρ' hx hq h'=>?_);rcases hx.cases with⟨rfl,rfl⟩|⟨rfl,rfl⟩|⟨_,rfl,rfl⟩|⟨_,rfl,rfl⟩|⟨_,_,rfl,rfl,_⟩
   ·exact dZ hm y r n C X _ _ ρ' σ' bx' a' w' hG hr bC.2 h' hq hQ
   all_goals exact hQ _ _ _ _ _ _ _ hx hq h'
 | .cond c x y=>fun r n C X Qd Q ρ σ bx a w hG hr bC h hc hQ=>by
   simp only[dH,bA]at bC;have Si:=h.ev c;simp only[cR]at hc;cases hd:ev σ c with
   |bool t=>
    rw[hd]at hc Si;refine wpIn_cond Si.jR ?_;cases t with
    |true=>exact dZ hm x r n C X _ _ ρ σ bx a w hG hr bC.1 h hc hQ
    |false=>exact dZ hm y r n C X _ _ ρ σ bx a w hG hr bC.2 h hc hQ
   |ic=>
    rw[hd]at hc Si;obtain⟨b,hb⟩:=Si.Ol;refine wpIn_cond hb ?_;cases b with
    |true=>exact dZ hm x r n C X _ _ ρ σ bx a w hG hr bC.1 h hc.1 hQ
    |false=>exact dZ hm y r n C X _ _ ρ σ bx a w hG hr bC.2 h hc.2 hQ
   |_=>rw[hd]at hc;exact hc.elim
 | .block id c=>fun r n C X Qd Q ρ σ bx a w hG hr bC h hc hQ=>by
   refine wpIn_block (dZ hm c r n C X _ _ ρ σ bx a w hG hr bC h hc fun e e' σ' bx' a' w' ρ' hx hq h'=>?_);rcases hx.cases with⟨rfl,rfl⟩|⟨rfl,rfl⟩|⟨Fh,rfl,rfl⟩|⟨_,rfl,rfl⟩|⟨_,_,rfl,rfl,_⟩
   rotate_left 2
   ·simp only[rA]at hq;simp only[Exit.inBlock];split at hq
    ·rename_i he;rw[if_pos he];exact hQ .normal .normal _ _ _ _ _ trivial hq h'
    ·rename_i he;rw[if_neg he];exact hQ _ _ _ _ _ _ _ hx hq h'
   all_goals exact hQ _ _ _ _ _ _ _ hx hq h'
 | .loop c=>fun r n C X Qd Q ρ σ bx a w hG hr bC h hc hQ=>by
   obtain⟨I,μ,h0,hl⟩:=hc;refine wpIn_loop_ghost (fun m a w=>∃ρ σ bx,aA X ρ σ bx a w/\I σ bx/\μ σ bx=m) (μ σ bx) ⟨ρ,σ,bx,h,h0,rfl⟩ ?_;rintro m a w ⟨ρ,σ,bx,h,hI,rfl⟩;obtain⟨bx0,ZZ,AR⟩:=hl σ bx hI;have h0:aA X ρ σ bx0 a w:=by
    rcases ZZ with rfl|⟨bH,s,es,hk,ho,rfl⟩
    ·exact h
    ·exact h.Ou (by have:=hG.lo;omega) hk ho
   refine dZ hm c r n C X _ _ ρ σ bx0 a w hG hr bC h0 AR fun e e' σ' bx' a' w' ρ' hx hq h'=>?_;rcases hx.cases with⟨rfl,rfl⟩|⟨rfl,rfl⟩|⟨_,rfl,rfl⟩|⟨_,rfl,rfl⟩|⟨_,_,rfl,rfl,_⟩
   ·exact⟨_,hq.2,ρ',σ',bx',h',hq.1,rfl⟩
   all_goals exact hQ _ _ _ _ _ _ _ hx hq h'
 | .region id ops draw=>fun r n C X Qd Q ρ σ bx a w hG hr bC h hc hQ=>by
   simp only[dH,bA,List.all_eq_true]at bC;obtain⟨cw,bC⟩:=bC;have cw:∀o∈ops.toList,∀t,o.dst=some t->t<X.N:=fun o ho t ht=>by
    have:=cw o ho;rw[ht]at this;simpa using this
   cases draw with
   |false=>
    simp only[cR]at hc;refine wpIn_region ?_;have:=L7 (r:=r) (n:=n) (Q:=Q) hG (fun l hl=>(hr l hl).1) cw (K:=fun acc σ' bx'=>vH Qd acc σ' bx') (fun acc σ' bx' a' w' ρ' mK hK h'=>hQ .normal .normal _ _ _ _ _ trivial (by
     cases acc with
     |nil=>exact hK
     |cons c l=>cases c<;>first|exact hK|exact absurd rfl (mK _ _)) h') (fun d acc σ' bx' a' w' ρ' v hK h' Of=>hQ (.cX d) (.panic [pe v]) _ _ _ _ _ ⟨v,rfl,Of⟩ hK h') (n9 C.tab (4000000+id)) ops.toList [] [] ρ σ bx a w rfl (by intro d l;simp) h hc
    rw[List.range_eq_range'];simpa using this
   |true=>
    simp only[cR,po]at hc;refine wpIn_region_any hm ?_;split at hc
    ·obtain⟨t,WN,bz⟩:=hc;simp only[Dd,bA]at WN;refine O0 rfl rfl rfl WN.1 hG.dra (fun l hl=>(hr l hl).1) cw (fun σ bx a' w' ρ' hq h'=>hQ .normal .normal _ _ _ _ _ trivial hq h') (fun d σ' bx' a' w' ρ' v hp h' Of=>hQ (.cX d) (.panic [pe v]) _ _ _ _ _ ⟨v,rfl,Of⟩ (hp σ') h') _ _ t ρ σ bx a _ sI ?_ ?_ ?_ bz (h.ext ⟨rfl,rfl,rfl,Nat.le_refl _,fun _ _=>rfl⟩)
     ·exact Nat.le_trans (List.length_filter_le _ _) sI
     ·intro k o _ hL;exfalso;simp[Array.getD]at hL
     ·have:(fun j=>(Array.replicate ops.size false).getD j false)=fun _=>false:=by funext j;simp[Array.getD]
      rw[this];exact WN.2
    rename_i N_;simp only[nT,Bool.false_or,Bool.or_eq_true,N_,false_or]at bC;obtain⟨cs,vs,σs,bs,Og,qB,fS,J3,hQd⟩:=Dg (C:=C.AJ) (fun _ _ _ _ _ _ hf=>hf) rfl rfl rfl _ _ _ _ hc;have hR:=Yd (C:=C.AJ) (id:=id) (tab:=C.tab) (by simpa using bC) rfl (by simpa using J3) fS;subst Og;subst qB;refine MX hR hG.AJ (fun l hl=>(hr l hl).1) cw (fun a' w' ρ' h'=>hQ .normal .normal _ _ _ _ _ trivial hQd h') _ _ ρ (σs 0) (bs 0) a _ sI ?_ ⟨fun i o ho hL=>?_,fun j hj=>?_,fun t=> .inr ⟨fun j hj=>?_,rfl⟩,fun s=> .inr ⟨fun j hj=>?_,rfl⟩⟩ (h.ext ⟨rfl,rfl,rfl,Nat.le_refl _,fun _ _=>rfl⟩)
    ·exact Nat.le_trans (List.length_filter_le _ _) sI
    all_goals
     exfalso;simp[Array.getD]at *
 | .rangeFunc g ps assign body=>Js (dZ hm assign) (dZ hm body)
 | .scope c=>fun r n C X Qd Q ρ σ bx a w hG hr bC h hc hQ=>by
   refine MJ (dZ hm c r n C X _ _ ρ σ bx a w hG hr bC h hc fun e e' σ' bx' a' w' ρ' hx hq h'=>?_);rcases hx.cases with⟨rfl,rfl⟩|⟨rfl,rfl⟩|⟨_,rfl,rfl⟩|⟨_,rfl,rfl⟩|⟨_,_,rfl,rfl,_⟩
   rotate_left 3
   ·exact hq.elim
   all_goals exact hQ _ _ _ _ _ _ _ hx hq h'
 | .goto _=>fun r n C X Qd Q ρ σ bx a w hG hr bC h hc hQ=>hc.elim
 | .refuse _=>fun r n C X Qd Q ρ σ bx a w hG hr bC h hc hQ=>hc.elim
end Go.V
namespace Go.V
open Go.RowKit
variable {P:Program} {C:Calc} {X:Ctx} {ρ:cQ} {σ:Env} {bx:ae} {a:Act} {w:World} {r:Option Nat} {n:Nat}
def wo(tmps:Array Value):ResultVar->Sem Value
 | .tmp t=>pure (tmps.getD t undef)
 | .cell a t=>do loadVar t (<-asAddr (tmps.getD a undef))
theorem FJ(h:aA X ρ σ bx a w):∀(rv:List ResultVar) (rs:List D),jE P σ bx rv=some rs->∃vs:List Value,(rv.mapM (wo a.tmps)).run P w= .ok vs w/\vs.length=rs.length/\∀(i:Nat) d v,rs[i]? =some d->vs[i]? =some v->aJ w (az X ρ bx w) ρ d v
 |[],rs,hr=>by
  simp only[jE,sJ]at hr;subst hr;exact⟨[],by simp,rfl,fun i d v hd=>by simp at hd⟩
 |x::rv,rs,hr=>by
  simp only[jE]at hr;obtain⟨y,ys,h1,h2,rfl⟩:=pB hr;obtain⟨vs,g1,g2,g3⟩:=FJ h rv ys h2;have hx:∃v,(wo a.tmps x).run P w= .ok v w/\aJ w (az X ρ bx w) ρ y v:=by
   cases x with
   |tmp t=>
    simp only[pv,sJ]at h1;subst h1;exact⟨_,by simp only[wo,Sem.run_pure],h.tmps t⟩
   |cell t T=>
    simp only[pv]at h1;obtain⟨ad,v,k1,k2,k3⟩:=A3 h (h.tmps t) h1;exact⟨v,by simp only[wo,k1,asAddr,Sem.run_bind,Sem.run_pure,Result.andThen_ok,k2],k3⟩
  obtain⟨v,k1,k2⟩:=hx;refine⟨v::vs,by simp only[List.mapM_cons,Sem.run_bind,k1,Result.andThen_ok,g1,Sem.run_pure],by simp[g2],fun i d u hd hu=>?_⟩;cases i with
  |zero=>simp only[List.getElem?_cons_zero,sJ]at hd hu;subst hd;subst hu;exact k2
  |succ i=>exact g3 i d u (by simpa using hd) (by simpa using hu)
def si(h:aA X ρ σ bx a w){fn:Func}{rs:List D}(hr:jE P σ bx fn.results.toList=some rs):∃v,(results fn a.tmps).run P w= .ok v w/\aJ w (az X ρ bx w) ρ (mg rs) v:=by
 obtain⟨vs,g1,g2,g3⟩:=FJ h _ _ hr;have bQ:(results fn a.tmps).run P w= .ok (if h:vs.toArray.size=1 then vs.toArray[0]else .tuple vs.toArray) w:=by
  have e:results fn a.tmps=(fn.results.mapM (wo a.tmps)>>=fun vs=>pure (if h:vs.size=1 then vs[0]else .tuple vs)):=by
   unfold results
   congr 1
  rw[e,Sem.run_bind,Array.mapM_eq_mapM_toList,Sem.run_map,g1,Result.andThen_ok,Result.andThen_ok,Sem.run_pure]
 refine⟨_,bQ,?_⟩
 match rs,vs,g2,g3 with
 |[],[],_,_=>simp only[mg];exact .aI rfl (fun i d v hd=>by simp at hd)
 |[d],[v],_,g3=>exact g3 0 d v rfl rfl
 |d1::d2::ds,v1::v2::vs,g2,g3=>
  simp only[mg];rw[dif_neg sI];exact .aI (by simpa using g2) (fun i d v hd hv=>g3 i d v hd (by simpa using hv))
theorem wH:∀(ds:List D) (k t:Nat),bF k ds t=if t<k then .raw undef else(ds[t - k]?).getD (.raw undef)
 |[],k,t=>by simp[bF]
 |d::ds,k,t=>by
  simp only[bF,aj];by_cases h:t=k
  ·subst h;simp
  ·rw[if_neg h,wH ds (k+1) t];by_cases h2:t<k
   ·rw[if_pos oM,if_pos h2]
   ·rw[if_neg oM,if_neg h2];have:t - k=(t - (k+1))+1:=oM;rw[this];simp
theorem aA.SR(h:aA X ρ σ bx a w)(mR:X.md=0){d:Deferred}{ds:List Deferred}(hd:a.defers=d::ds):∃r,d=iu r/\ρ.hold r=some (.deferred (some [])):=by
 have hm:=(h.marks.resolve_left oM).1;rw[if_pos mR,hd]at hm;generalize hl:([]:List D)=l at hm;generalize hx:d::ds=dd at hm;cases hm with
 |nil=>cases hx
 |mark h1=>injection hx with e1 e2;exact⟨_,e1,h1⟩
 |call=>cases hl
theorem oT{fn:Func}{rs:List D}(bH:X.lo=0)(yW:X.ml=X.w0.heap.size)(mR:X.md=0){R:Ending->World->Prop}:∀(ds:List Deferred) (a:Act) (ρ:cQ) (w:World),a.defers=ds->aA X ρ σ bx a w->jE P σ bx fn.results.toList=some rs->
 (∀ρ' w' v,aA X ρ' σ bx {a with defers:=[]} w'->(∀b o,ρ.hold b=some o->o≠ .deferred (some [])->ρ'.hold b=some o)->aJ w' (az X ρ' bx w') ρ' (mg rs) v->R (.returned v) w')->LeavesInM Fence.wide n P fn a.tmps R ds .returning w
 |[],a,ρ,w,hd,h,hr,hR=>by
  obtain⟨v,g1,g2⟩:=si h hr;exact⟨v,g1,hR ρ w v (h.switch h.size (.nil (.inl mR)) h.tmps) (fun _ _ h _=>h) g2⟩
 |d::ds,a,ρ,w,hd,h,hr,hR=>by
  obtain⟨r,rfl,hh⟩:=h.SR mR hd;have hw:=(h.hold r _ hh).1;obtain⟨ρ',h',hk⟩:=h.take hd yW oM (pM w r (.deferred none)) (World.putObj_heap_same (Array.getElem?_eq_some_iff.1 hw).1) bH;refine⟨by simp,.inl ⟨r,_,rfl,run_takeDeferred hw,?_⟩⟩;exact oT bH yW mR ds {a with defers:=ds} ρ' _ rfl h' hr fun ρ2 w2 v g1 g2 g3=>hR ρ2 w2 v g1 (fun b o ho aQ=>g2 b o (hk b o ho aQ) aQ) g3
theorem ze{fn:Func}(bH:X.lo=0)(yW:X.ml=X.w0.heap.size)(mR:X.md=0){chain:List PanicEntry}{d0:D}{v0:Value}{R:Ending->World->Prop}:∀(ds:List Deferred) (a:Act) (ρ:cQ) (w:World),a.defers=ds->aA X ρ σ bx a w->aJ w (az X ρ bx w) ρ d0 v0->
 (∀ρ' w',aA X ρ' σ bx {a with defers:=[]} w'->aJ w' (az X ρ' bx w') ρ' d0 v0->R (.panicked chain) w')->LeavesInM Fence.wide n P fn a.tmps R ds (.panicking chain) w
 |[],a,ρ,w,hd,h,hr,hR=>hR ρ w (h.switch h.size (.nil (.inl mR)) h.tmps) hr
 |d::ds,a,ρ,w,hd,h,hr,hR=>by
  obtain⟨r,rfl,hh⟩:=h.SR mR hd;have hw:=(h.hold r _ hh).1;obtain⟨ρ',h',hk,CX⟩:=h.MD hd yW oM (pM w r (.deferred none)) (World.putObj_heap_same (Array.getElem?_eq_some_iff.1 hw).1) bH;refine⟨by simp,.inl ⟨r,_,rfl,run_takeDeferred hw,?_⟩⟩;exact ze bH yW mR ds {a with defers:=ds} ρ' _ rfl h' (CX _ _ hr) fun ρ2 w2 g1 g3=>hR ρ2 w2 g1 g3
def nU{S:Nat->Prop}{ds:List D}{vs:Array Value}{N:Nat}(hl:vs.size=ds.length)(hlen:ds.length<=N)(hv:∀(i:Nat) x v,ds[i]? =some x->vs[i]? =some v->aJ w S ρ x v):
 (vs++Array.replicate (N - vs.size) undef).size=N/\∀t,aJ w S ρ (bF 0 ds t) ((vs++Array.replicate (N - vs.size) undef).getD t undef):=by
 refine⟨by simp;omega,fun t=>?_⟩;rw[wH];simp only[Nat.not_lt_zero,if_false,Nat.sub_zero];by_cases ht:t<ds.length
 ·have hd:ds[t]? =some ds[t]:=gE ht;have htv:t<vs.size:=oM;have hva:vs[t]? =some vs[t]:=Array.getElem?_eq_getElem htv;have:(vs++Array.replicate (N - vs.size) undef).getD t undef=vs[t]:=by rw[Array.getD_eq_getD_getElem?,Array.getElem?_append_left htv,hva];rfl
  rw[this,hd];exact hv t _ _ hd hva
 ·have hd:ds[t]? =none:=List.getElem?_eq_none oM;have:(vs++Array.replicate (N - vs.size) undef).getD t undef=undef:=by
   rw[Array.getD_eq_getD_getElem?,Array.getElem?_append_right oM,Array.getElem?_replicate];split<;>rfl
  rw[this,hd];exact .pure (.raw _)
def Qe(hm:P.follows .mixedOrders=true){f:FuncId}{fn:Func}{O:gO}{tab:List (Nat×List (Nat×Nat))}{ds:List D}{d:D}(hf:P.funcs[f]? =some fn)
 (eT:(fn.name== "runtime.NumGoroutine")=false) (hlen:ds.length<=fn.ntmps) (hO:Ok P O) (h:qz P O tab fn ds d):ao P f ds d:=by
 obtain⟨c,hb,bC,hc⟩:=h;obtain⟨hN,bC⟩:fn.ntmps<=en/\dH tab fn.ntmps c=true:=by simpa[codeOk,en]using bC
 intro w S vs hS Hm hl hv;refine .inl ⟨Go.MuLone.run_callFunc_enter hf eT hb vs w,callsIn_wide.1 (callsIn_of_wp_marks (F:=Fence.wide) (n:=0) hf hb trivial ?_)⟩;obtain⟨k1,k2⟩:=nU (w:=w) (ρ:=⟨fun _ _=>none,fun _=>none⟩) (S:=fun b=>S b) (N:=fn.ntmps) hl hlen (fun i x v hx aX=> .pure (hv i x v hx aX));have h0:aA ⟨w,S,w.heap.size,fun _=>False,fun _=>False,fn.ntmps,⟨fun _ _=>none,fun _=>none⟩,w.heap.size,0,fun _ _=>True,0⟩ ⟨fun _ _=>none,fun _=>none⟩ (bF 0 ds) (fun _=> .none) {tmps:=vs++Array.replicate (fn.ntmps - vs.size) undef,defers:=[]} w:=
  ⟨.refl _ _,hS,Nat.le_refl _,fun _ h=>h.elim,fun _ h=>h.elim,k1,.nil (.inl rfl),hN,Nat.le_refl _,fun t=>(k2 t).mono (fun _ _=>rfl) (fun b hb=>⟨hS b hb,.inl hb,fun t ht=>by simp[Bx.none]at ht⟩) (fun _ _ _ h=>h),.pure (Hm.mono (fun _ _=>rfl) (fun b hb=>⟨hS b hb,.inl hb,fun t ht=>by simp[Bx.none]at ht⟩)),fun t ht=>absurd rfl ht.1,fun t t' p p' ht=>by simp[Bx.none]at ht,(fun t e p hp=>by cases hp),(fun t e p hp=>by cases hp),(fun t e hp=>by cases hp),(fun t e hp=>by cases hp),fun _ _ _ _ _=>trivial,trivial,fun _ _ _=>trivial,(fun t e hp=>by cases hp),⟨fun t ht=>by simp[Bx.none]at ht,fun t t' p p' ht=>by simp[Bx.none]at ht⟩⟩
 refine dZ hm c none 0 ⟨O,tab,0,fn.ntmps,0,none,false,false⟩ _ _ _ _ _ _ _ w ⟨hO,Nat.le_refl _,Nat.le_refl _,(fun _ _ _ hk=>by cases hk),(fun hf=>by cases hf),(fun hf=>by have:(0:Nat)=3:=hf;omega),fun hf=>by have:(0:Nat)=3:=hf;omega⟩ (fun l hl=>by cases hl) bC h0 hc fun e e' σ' bx' a' w' ρ' hx hq h'=>?_;have fin:(aM (jE P σ' bx' fn.results.toList) fun rs=>aM (bD bx' (mg rs)) fun r=>bN r d)->LeavesInM Fence.wide 0 P fn a'.tmps (fun e w'=>∃v,e= .returned v/\cI w S d v w') a'.defers .returning w':=by
  intro hq;cases hr:jE P σ' bx' fn.results.toList with
  |none=>rw[hr]at hq;exact hq.elim
  |some rs=>
   rw[hr]at hq;simp only[aM]at hq;cases ho:bD bx' (mg rs)with
   |none=>rw[ho]at hq;exact hq.elim
   |some x=>
    rw[ho]at hq;refine oT rfl rfl rfl a'.defers a' ρ' w' rfl h' hr fun ρ2 w2 v g1 _ g3=>⟨v,rfl,?_,?_⟩
    ·refine aJ.uy hq (n_ g1 _ _ v ⟨fun b hb=>?_,fun t _ hk p hp=>?_⟩ g3 ho)
     ·rcases hb.2.1 with h1|h1
      ·exact .inl h1
      ·exact .inr ⟨h1,hb.1⟩
     ·obtain⟨p',bL,_,_,gN,hh⟩:=g1.box t hk;rw[hp]at bL;injection bL with bL;subst bL;exact .inr ⟨gN.1,hh.lt⟩
    ·exact⟨g1.fr.os,g1.fr.tape,g1.fr.output,g1.fr.size,fun k hk=>g1.fr.block k hk (fun hm=>hm.elim id id)⟩
 rcases hx.cases with⟨rfl,rfl⟩|⟨rfl,rfl⟩|⟨_,rfl,rfl⟩|⟨_,rfl,rfl⟩|⟨_,_,rfl,rfl,_⟩
 ·exact fin hq
 ·exact fin hq
 all_goals exact hq.elim
def NA(hm:P.follows .mixedOrders=true){f:FuncId}{fn:Func}{O:gO}{tab:List (Nat×List (Nat×Nat))}{base:Nat}{ds:List D}{bx:ae}{Q Qp:D->ae->Prop}(hf:P.funcs[f]? =some fn)
 (eT:(fn.name== "runtime.NumGoroutine")=false) (hlen:ds.length<=fn.ntmps) (hO:Ok P O) (h:mn P O tab fn base ds bx Q Qp):bj P f base ds bx Q Qp:=by
 obtain⟨c,hb,bC,hc⟩:=h;obtain⟨hN,bC⟩:fn.ntmps<=en/\dH tab fn.ntmps c=true:=by simpa[codeOk,en]using bC
 intro X ρ σ a w vs hS mA hl hv;refine .inl ⟨Go.MuLone.run_callFunc_enter hf eT hb vs w,callsIn_wide.1 (callsIn_of_wp_marks (F:=Fence.wide) (n:=0) hf hb trivial ?_)⟩;obtain⟨k1,k2⟩:=nU (N:=fn.ntmps) hl hlen hv;have h0:=hS.sub (E:=fun _=>False) (N:=fn.ntmps) (ml:=w.heap.size) (md:=0) (a':={tmps:=vs++Array.replicate (fn.ntmps - vs.size) undef,defers:=[]}) hN (fun _ h=>h.elim) k1 (.nil (.inl rfl)) (Nat.le_refl _) k2;refine dZ hm c none 0 ⟨O,tab,base,base+fn.ntmps,0,none,true,false⟩ _ _ _ _ _ _ _ w ⟨hO,Nat.le_refl _,Nat.zero_le _,(fun _ _ _ hk=>by cases hk),(fun hf=>by cases hf),(fun hf=>by have:(0:Nat)=3:=hf;omega),fun hf=>by have:(0:Nat)=3:=hf;omega⟩ (fun l hl=>by cases hl) bC h0 hc fun e e' σ' bx' a' w' ρ' hx hq h'=>?_;have fin:(aM (jE P σ' bx' fn.results.toList) fun rs=>Q (mg rs) bx')->LeavesInM Fence.wide 0 P fn a'.tmps (fun e w'=>(∃v,e= .returned v/\∃d bx' ρ',Q d bx'/\aA X ρ' σ bx' a w'/\aJ w' (az X ρ' bx' w') ρ' d v)\/∃v,e= .panicked [pe v]/\∃d bx' ρ',Qp d bx'/\aA X ρ' σ bx' a w'/\aJ w' (az X ρ' bx' w') ρ' d v) a'.defers .returning w':=by
  intro hq;cases hr:jE P σ' bx' fn.results.toList with
  |none=>rw[hr]at hq;exact hq.elim
  |some rs=>
   rw[hr]at hq;exact oT rfl rfl rfl a'.defers a' ρ' w' rfl h' hr fun ρ2 w2 v g1 _ g3=> .inl ⟨v,rfl,mg rs,bx',ρ2,hq,hS.back rfl rfl g1 (fun _ h=>h.elim) (fun _ h=>h.elim) (fun _ h=>h.elim) (hS.y0 mA _ _),g3⟩
 rcases hx.cases with⟨rfl,rfl⟩|⟨rfl,rfl⟩|⟨_,rfl,rfl⟩|⟨_,rfl,rfl⟩|⟨d,v,rfl,rfl,hv⟩
 ·exact fin hq
 ·exact fin hq
 ·exact hq.elim
 ·exact hq.elim
 ·exact ze rfl rfl rfl a'.defers a' ρ' w' rfl h' hv fun ρ2 w2 g1 g3=> .inr ⟨v,rfl,d,bx',ρ2,hq,hS.back rfl rfl g1 (fun _ h=>h.elim) (fun _ h=>h.elim) (fun _ h=>h.elim) (hS.y0 mA _ _),g3⟩
end Go.V
namespace Go.V
open Go.RowKit
variable {P:Program} {X:Ctx} {ρ:cQ} {σ:Env} {bx:ae} {a:Act} {w:World}
def jZ(gs l:Nat)(rc:Loop)(items:List (List D))(J:Nat->ae->Prop)(Jx:Code->ae->Prop)(c:ae)(h:Nat->Option Obj):Prop:=
 (c gs).k=0/\(((c gs).sz<=items.length/\h l=some (.loop rc)/\J (c gs).sz (bU gs c))\/
  ((c gs).sz=items.length+1/\∃jump,h l=some (.loop {rc with state:=.done,pending:=some jump})/\Jx jump (bU gs c)))
def Ctx.ll(X:Ctx)(lo:Nat)(Y:ae->(Nat->Option Obj)->Prop):Ctx:={X with lo:=lo,Y:=Y}
theorem aA.ll(h:aA X ρ σ bx a w){lo:Nat}{Y:ae->(Nat->Option Obj)->Prop}(yc:∀c h h',Y c h->(∀b o,h b=some o->h' b=some o)->Y c h')(inv:Y (bU lo bx) ρ.hold)(y0:lo=0->∀c h,Y c h):aA (X.ll lo Y) ρ σ bx a w:=
 ⟨h.fr,h.s0,h.nb,h.mb,h.ec,h.size,h.marks,h.qh,h.rQ,h.tmps,h.fK,h.box,h.inj,h.ou,h.r0,h.hold,h.gA,yc,inv,y0,h.kl,h.maps.of (fun _ h=>⟨h,rfl,rfl⟩) (fun _ _ _ h=>h) (fun _ _ _ _ _ h=>h) (fun _ h=>h)⟩
theorem aA.Oz{lo:Nat}{Y:ae->(Nat->Option Obj)->Prop}(h:aA (X.ll lo Y) ρ σ bx a w)(mA:X.lo=0)(xY:∀c h,X.Y c h):aA X ρ σ bx a w:=
 ⟨h.fr,h.s0,h.nb,h.mb,h.ec,h.size,h.marks,h.qh,h.rQ,h.tmps,h.fK,h.box,h.inj,h.ou,h.r0,h.hold,h.gA,fun _ _ _ _ _=>xY _ _,xY _ _,fun _ c h=>xY c h,h.kl,h.maps.of (fun _ h=>⟨h,rfl,rfl⟩) (fun _ _ _ h=>h) (fun _ _ _ _ _ h=>h) (fun _ h=>h)⟩
def kF{m n:Nat}(h:m<=n)(bx:ae):bU m (bU n bx)=bU m bx:=by
 funext s;unfold bU;by_cases h1:s<m
 ·have:s<n:=oM;simp[h1,this]
 ·simp[h1]
def ND(hm:P.follows .mixedOrders=true){f:FuncId}{fn:Func}{O:gO}{tab:List (Nat×List (Nat×Nat))}{caps:List D}{items:List (List D)}(hf:P.funcs[f]? =some fn)
 (eT:(fn.name== "runtime.NumGoroutine")=false) (hlen:caps.length+1<=fn.ntmps) (hO:Ok P O) (h:R8 P O tab fn caps items):yk P f caps items (fn.ntmps+1):=by
 obtain⟨c,hb,bC,Bw,hc⟩:=h;obtain⟨hN,bC⟩:fn.ntmps<=en/\dH tab fn.ntmps c=true:=by simpa[codeOk,en]using bC
 intro X ρ σ bx a w fy gs rc vs J Jx;intro hS mA hl sE oz uT hv hJ nr;have CJ:aA X ρ σ (aj bx gs {bx gs with k:=0,sz:=0}) a w:=hS.less fun s=>by
  by_cases e:s=gs
  ·subst e;exact .inr ⟨by omega,by simp[aj],by simp[aj],by simp[aj,Kx],by simp[aj]⟩
  ·exact .inl (by simp[aj,e])
 have yQ:bU gs (aj bx gs {bx gs with k:=0,sz:=0})=bU gs bx:=kD fun s hs=>by
  have:s≠gs:=oM;simp[aj,this]
 have bz:∀b,az X ρ bx w b->az X ρ (aj bx gs {bx gs with k:=0,sz:=0}) w b:=fun b eo=>⟨eo.1,eo.2.1,fun t ht p hp=>by
  by_cases e:t=gs
  ·subst e;simp[aj]at ht
  ·simp only[aj,e,if_false]at ht hp;exact eo.2.2 t ht p hp⟩
 generalize gL:aj bx gs {bx gs with k:=0,sz:=0}=bx1 at CJ yQ bz;have xW:(bx1 gs).k=0/\(bx1 gs).sz=0:=by rw[<-gL];simp[aj]
 obtain⟨k1,k2⟩:=nU (w:=w) (ρ:=ρ) (S:=az X ρ bx1 w) (ds:=.fn (.yield fy) []::caps) (vs:= #[Value.func (.yield fy) #[] #[]]++vs) (N:=fn.ntmps) (by simp[uT];omega) (by simpa using hlen) (fun i x v hx aX=>by
  cases i with
  |zero=>
   simp only[List.getElem?_cons_zero,sJ]at hx;subst hx;have eN:v=Value.func (.yield fy) #[] #[]:=by
    rw[Array.getElem?_append_left sI]at aX;injection aX with aX;exact aX.symm
   subst eN;exact .fn rfl sI
  |succ i=>
   simp only[List.getElem?_cons_succ]at hx;rw[Array.getElem?_append_right sI]at aX;have eN:vs[i]? =some v:=by simpa using aX
   exact .pure ((hv i x v hx eN).lI bz))
 have sA:=(hS.hold fy _ hl).1;have hE:∀b,b=fy->∀o,w.heap[b]? =some o->Obj.nv o=false:=by
  rintro b rfl o ho;rw[sA]at ho;injection ho with ho;subst ho;rfl
 have vE:=CJ.sub (E:=fun b=>b=fy) (N:=fn.ntmps) (ml:=w.heap.size) (md:=0) (a':={tmps:=(#[Value.func (.yield fy) #[] #[]]++vs)++Array.replicate (fn.ntmps - (#[Value.func (.yield fy) #[] #[]]++vs).size) undef,defers:=[]}) hN hE k1 (.nil (.inl rfl)) (Nat.le_refl _) k2;have pc:∀(c:ae) (h h':Nat->Option Obj),jZ gs fy rc items J Jx c h->(∀b o,h b=some o->h' b=some o)->jZ gs fy rc items J Jx c h':=by
  rintro c h h' ⟨g0,g1|⟨g1,jump,g2,g3⟩⟩ hh
  ·exact⟨g0,.inl ⟨g1.1,hh _ _ g1.2.1,g1.2.2⟩⟩
  ·exact⟨g0,.inr ⟨g1,jump,hh _ _ g2,g3⟩⟩
 have cutgs:∀bx:ae,bU (gs+1) bx gs=bx gs:=fun bx=>by simp[bU]
 have hW:=vE.ll (lo:=gs+1) (Y:=jZ gs fy rc items J Jx) pc ⟨by rw[cutgs];exact xW.1,.inl ⟨by rw[cutgs,xW.2];omega,hl,by rw[cutgs,xW.2,kF oM,yQ];exact hJ⟩⟩ (fun h0=>by omega);generalize NQ:X.sub ρ bx1 w (fun b=>b=fy) fn.ntmps w.heap.size 0=Y at vE hW;have V5:Y.lo=0/\(∀c h,Y.Y c h)/\Y.S0=X.S0/\Y.n0=X.n0/\Y.E fy/\Y.ml=Y.w0.heap.size/\Y.N=fn.ntmps/\Y.md=0:=by rw[<-NQ];exact⟨rfl,fun _ _=>trivial,rfl,rfl,.inl rfl,rfl,rfl,rfl⟩
 obtain⟨ylo,yY,yS,yn,yE,yml,yN,ymd⟩:=V5;have back:∀(ρ':cQ) (σ':Env) (bx':ae) (a':Act) (w':World),aA Y ρ' σ' bx' a' w'->aA X ρ' σ bx' a w':=by
  intro ρ' σ' bx' a' w' hs;rw[<-NQ]at hs;exact CJ.back rfl rfl hs (fun b hb=>by subst hb;exact .inr sE) (fun b hb=>by subst hb;rw[hl];simp) (fun b hb=>by subst hb;exact .inl oz) (hS.y0 mA _ _)
 have good:Good P ⟨O,tab,gs+1,gs+1+fn.ntmps,gs+1,some (items,gs,fy),false,false⟩ (Y.ll (gs+1) (jZ gs fy rc items J Jx)):=by
  refine⟨hO,Nat.le_refl _,Nat.le_refl _,fun it2 g2 l2 hy ρ1 σi bxi ai wi us ds Oh hi gB fw=>?_,(fun hf=>by cases hf),(fun hf=>by have:Y.md=3:=hf;omega),fun hf=>by have:Y.md=3:=hf;omega⟩;simp only[sJ,Prod.mk.injEq]at hy;obtain⟨rfl,rfl,rfl⟩:=hy;have ar:=(gS.1 hi).1;have hinv:jZ gs fy rc items J Jx (bU (gs+1) bxi) ρ1.hold:=Oh.inv;obtain⟨g0,g1⟩:=hinv;rw[cutgs]at g0 g1;rcases g1 with⟨g1,g2,g3⟩|⟨g1,_⟩
  ·rw[kF oM]at g3;have y4:=Oh.Oz ylo yY;obtain⟨f2,tm,as,bd,hy,hR⟩:=nr (bxi gs).sz ds ρ1 bxi wi us hi (back _ _ _ _ _ y4) g2 g3 gB (fun i x v hx aX=>by
    have:=fw i x v hx aX;have e:az (Y.ll (gs+1) (jZ gs fy rc items J Jx)) ρ1 bxi wi=az X ρ1 bxi wi:=by funext b;simp only[az,Ctx.ll,yS,yn]
    rw[e]at this;exact this)
   refine⟨f2,tm,as,bd,hy,fun m=>(hR m).mono ?_⟩;rintro e w2 ⟨ρ2,bK,b,rfl,q1,q2,q3,q4⟩;refine⟨ρ2,bK,b,rfl,?_⟩;have Hn:bK gs=bxi gs:=q1 gs (Nat.le_refl _) oM;have QJ:qU (gs+1) (gs+1+fn.ntmps) bxi bK=bK:=by
    funext s;unfold qU;by_cases hs:gs+1<=s/\s<gs+1+fn.ntmps
    ·rw[if_pos hs];exact(q1 s oM oM).symm
    ·rw[if_neg hs]
   show aA _ ρ2 σi (aj (qU (gs+1) (gs+1+fn.ntmps) bxi bK) gs _) ai w2;rw[QJ];have h3:=q2 Y σi ai yS yn yE y4 (yY _ _);have h4:aA Y ρ2 σi (aj bK gs {bxi gs with sz:=if b=true then(bxi gs).sz+1 else items.length+1}) ai w2:=h3.less fun s=>by
    by_cases e:s=gs
    ·subst e;exact .inr ⟨by omega,by simp[aj,g0],by simp[aj,Hn],by simp[aj,g0,Kx],by simp[aj,g0]⟩
    ·exact .inl (by simp[aj,e])
   have Lz:∀b',bU gs (aj bK gs b')=bU gs bK:=fun b'=>kD fun s hs=>by
    have:s≠gs:=oM;simp[aj,this]
   refine h4.ll pc ?_ (fun h0=>by omega);refine⟨by rw[cutgs];simp[aj,g0],?_⟩;rw[cutgs,kF oM,Lz];simp only[aj,if_true];rcases q4 with⟨rfl,q5,q6⟩|⟨rfl,jump,q5,q6⟩
   ·exact .inl ⟨by simp;omega,q5,by simpa using q6⟩
   ·exact .inr ⟨by simp,jump,q5,q6⟩
  ·omega
 refine⟨Go.MuLone.run_callFunc_enter hf eT hb _ w,callsIn_wide.1 (callsIn_of_wp_marks (F:=Fence.wide) (n:=0) hf hb trivial ?_)⟩;refine dZ hm c none 0 ⟨O,tab,gs+1,gs+1+fn.ntmps,gs+1,some (items,gs,fy),false,false⟩ (Y.ll (gs+1) (jZ gs fy rc items J Jx)) _ _ _ _ _ _ w good (fun l hl=>by cases hl) (by show dH tab Y.N c=true;rw[yN];exact bC) hW (hc gs fy bx1 xW.1 xW.2) fun e e' σ' bx' a' w' ρ' hx hq h'=>?_;have fin:items.length<=(bx' gs).sz->LeavesInM Fence.wide 0 P fn a'.tmps (fun e w'=>∃v ρ' bx',e= .returned v/\aA X ρ' σ bx' a w'/\
  ((ρ'.hold fy=some (.loop rc)/\J items.length (bU gs bx'))\/∃jump,ρ'.hold fy=some (.loop {rc with state:=.done,pending:=some jump})/\Jx jump (bU gs bx'))) a'.defers .returning w':=by
  intro hq;have hinv:jZ gs fy rc items J Jx (bU (gs+1) bx') ρ'.hold:=h'.inv;obtain⟨g0,g1⟩:=hinv;rw[cutgs,kF oM]at g1;have y4:=h'.Oz ylo yY;refine oT ylo yml ymd a'.defers a' ρ' w' rfl y4 (rs:=[]) (by rw[Bw];rfl) fun ρ2 w2 v s1 s2 _=>⟨v,ρ2,bx',rfl,back _ _ _ _ _ s1,?_⟩
  rcases g1 with⟨g1,g2,g3⟩|⟨g1,jump,g2,g3⟩
  ·have e:(bx' gs).sz=items.length:=oM;rw[e]at g3;exact .inl ⟨s2 _ _ g2 sI,g3⟩
  ·exact .inr ⟨jump,s2 _ _ g2 sI,g3⟩
 rcases hx.cases with⟨rfl,rfl⟩|⟨rfl,rfl⟩|⟨_,rfl,rfl⟩|⟨_,rfl,rfl⟩|⟨_,_,rfl,rfl,_⟩
 ·exact fin hq
 ·exact fin hq
 all_goals exact hq.elim
def Lo(hm:P.follows .mixedOrders=true){f:FuncId}{fn:Func}{O:gO}{tab:List (Nat×List (Nat×Nat))}{b:Bx}{items:List (List D)}{pd:Option D}(hf:P.funcs[f]? =some fn)
 (eT:(fn.name== "runtime.NumGoroutine")=false) (hlen:2<=fn.ntmps) (hO:Ok P O) (h:Qb P O tab fn b items pd):zY P f b items pd (fn.ntmps+2):=by
 obtain⟨c,hb,bC,Bw,hc⟩:=h;obtain⟨hN,bC⟩:fn.ntmps<=en/\dH tab fn.ntmps c=true:=by simpa[codeOk,en]using bC
 intro X ρ σ bx a w fy gs ep rc u J Jx;intro hS mA hl sE oz hbo hu hJ nr;have CJ:aA X ρ σ (aj bx gs {bx gs with k:=0,sz:=0}) a w:=hS.less fun s=>by
  by_cases e:s=gs
  ·subst e;exact .inr ⟨by omega,by simp[aj],by simp[aj],by simp[aj,Kx],by simp[aj]⟩
  ·exact .inl (by simp[aj,e])
 have yQ:bU gs (aj bx gs {bx gs with k:=0,sz:=0})=bU gs bx:=kD fun s hs=>by
  have:s≠gs:=oM;simp[aj,this]
 have bz:∀b,az X ρ bx w b->az X ρ (aj bx gs {bx gs with k:=0,sz:=0}) w b:=fun b eo=>⟨eo.1,eo.2.1,fun t ht p hp=>by
  by_cases e:t=gs
  ·subst e;simp[aj]at ht
  ·simp only[aj,e,if_false]at ht hp;exact eo.2.2 t ht p hp⟩
 have Wl:aj bx gs {bx gs with k:=0,sz:=0} (gs+1)=⟨ep,1,b.sz,b.ty,b.es⟩:=by rw[<-hbo];simp[aj]
 have Ke:=hu.mono (w':=w) (S':=az X ρ (aj bx gs {bx gs with k:=0,sz:=0}) w) (ρ':=ρ) (fun _ _=>rfl) bz (fun _ _ _ h=>h);generalize gL:aj bx gs {bx gs with k:=0,sz:=0}=bx1 at CJ yQ bz Wl Ke;have xW:(bx1 gs).k=0/\(bx1 gs).sz=0:=by rw[<-gL];simp[aj]
 obtain⟨k1,k2⟩:=nU (w:=w) (ρ:=ρ) (S:=az X ρ bx1 w) (ds:=[.fn (.yield fy) [],.loc (gs+1) ep 0 0]) (vs:= #[Value.func (.yield fy) #[] #[],u]) (N:=fn.ntmps) rfl hlen (fun i x v hx aX=>by
  rcases i with _|_|i
  ·simp at hx aX;subst hx;subst aX;exact .fn rfl sI
  ·simp at hx aX;subst hx;subst aX;exact Ke
  ·simp at hx)
 have sA:=(hS.hold fy _ hl).1;have hE:∀b,b=fy->∀o,w.heap[b]? =some o->Obj.nv o=false:=by
  rintro b rfl o ho;rw[sA]at ho;injection ho with ho;subst ho;rfl
 have vE:=CJ.sub (E:=fun b=>b=fy) (N:=fn.ntmps) (ml:=w.heap.size) (md:=0) (a':={tmps:= #[Value.func (.yield fy) #[] #[],u]++Array.replicate (fn.ntmps - #[Value.func (.yield fy) #[] #[],u].size) undef,defers:=[]}) hN hE k1 (.nil (.inl rfl)) (Nat.le_refl _) k2;have pc:∀(c:ae) (h h':Nat->Option Obj),jZ gs fy rc items J Jx c h->(∀b o,h b=some o->h' b=some o)->jZ gs fy rc items J Jx c h':=by
  rintro c h h' ⟨g0,g1|⟨g1,jump,g2,g3⟩⟩ hh
  ·exact⟨g0,.inl ⟨g1.1,hh _ _ g1.2.1,g1.2.2⟩⟩
  ·exact⟨g0,.inr ⟨g1,jump,hh _ _ g2,g3⟩⟩
 have cutgs:∀bx:ae,bU (gs+1) bx gs=bx gs:=fun bx=>by simp[bU]
 have hW:=vE.ll (lo:=gs+1) (Y:=jZ gs fy rc items J Jx) pc ⟨by rw[cutgs];exact xW.1,.inl ⟨by rw[cutgs,xW.2];omega,hl,by rw[cutgs,xW.2,kF oM,yQ];exact hJ⟩⟩ (fun h0=>by omega);generalize NQ:X.sub ρ bx1 w (fun b=>b=fy) fn.ntmps w.heap.size 0=Y at vE hW;have V5:Y.lo=0/\(∀c h,Y.Y c h)/\Y.S0=X.S0/\Y.n0=X.n0/\Y.E fy/\Y.ml=Y.w0.heap.size/\Y.N=fn.ntmps/\Y.md=0:=by rw[<-NQ];exact⟨rfl,fun _ _=>trivial,rfl,rfl,.inl rfl,rfl,rfl,rfl⟩
 obtain⟨ylo,yY,yS,yn,yE,yml,yN,ymd⟩:=V5;have back:∀(ρ':cQ) (σ':Env) (bx':ae) (a':Act) (w':World),aA Y ρ' σ' bx' a' w'->aA X ρ' σ bx' a w':=by
  intro ρ' σ' bx' a' w' hs;rw[<-NQ]at hs;exact CJ.back rfl rfl hs (fun b hb=>by subst hb;exact .inr sE) (fun b hb=>by subst hb;rw[hl];simp) (fun b hb=>by subst hb;exact .inl oz) (hS.y0 mA _ _)
 have good:Good P ⟨O,tab,gs+2,gs+2+fn.ntmps,gs+1,some (items,gs,fy),true,false⟩ (Y.ll (gs+1) (jZ gs fy rc items J Jx)):=by
  refine⟨hO,Nat.le_refl _,(by show gs+1<=gs+2;omega),fun it2 g2 l2 hy ρ1 σi bxi ai wi us ds Oh hi gB fw=>?_,(fun hf=>by cases hf),(fun hf=>by have:Y.md=3:=hf;omega),fun hf=>by have:Y.md=3:=hf;omega⟩;simp only[sJ,Prod.mk.injEq]at hy;obtain⟨rfl,rfl,rfl⟩:=hy;have ar:=(gS.1 hi).1;have hinv:jZ gs fy rc items J Jx (bU (gs+1) bxi) ρ1.hold:=Oh.inv;obtain⟨g0,g1⟩:=hinv;rw[cutgs]at g0 g1;rcases g1 with⟨g1,g2,g3⟩|⟨g1,_⟩
  ·rw[kF oM]at g3;have y4:=Oh.Oz ylo yY;obtain⟨f2,tm,as,bd,hy,hR⟩:=nr (bxi gs).sz ds ρ1 bxi wi us hi (back _ _ _ _ _ y4) g2 g3 gB (fun i x v hx aX=>by
    have:=fw i x v hx aX;have e:az (Y.ll (gs+1) (jZ gs fy rc items J Jx)) ρ1 bxi wi=az X ρ1 bxi wi:=by funext b;simp only[az,Ctx.ll,yS,yn]
    rw[e]at this;exact this)
   refine⟨f2,tm,as,bd,hy,fun m=>(hR m).mono ?_⟩;rintro e w2 ⟨ρ2,bK,b,rfl,q1,q2,q3,q4⟩;refine⟨ρ2,bK,b,rfl,?_⟩;have Hn:bK gs=bxi gs:=q1 gs (Nat.le_refl _) oM;have QJ:qU (gs+1) (gs+2+fn.ntmps) bxi bK=bK:=by
    funext s;unfold qU;by_cases hs:gs+1<=s/\s<gs+2+fn.ntmps
    ·rw[if_pos hs];exact(q1 s oM oM).symm
    ·rw[if_neg hs]
   show aA _ ρ2 σi (aj (qU (gs+1) (gs+2+fn.ntmps) bxi bK) gs _) ai w2;rw[QJ];have h3:=q2 Y σi ai yS yn yE y4 (yY _ _);have h4:aA Y ρ2 σi (aj bK gs {bxi gs with sz:=if b=true then(bxi gs).sz+1 else items.length+1}) ai w2:=h3.less fun s=>by
    by_cases e:s=gs
    ·subst e;exact .inr ⟨by omega,by simp[aj,g0],by simp[aj,Hn],by simp[aj,g0,Kx],by simp[aj,g0]⟩
    ·exact .inl (by simp[aj,e])
   have Lz:∀b',bU gs (aj bK gs b')=bU gs bK:=fun b'=>kD fun s hs=>by
    have:s≠gs:=oM;simp[aj,this]
   refine h4.ll pc ?_ (fun h0=>by omega);refine⟨by rw[cutgs];simp[aj,g0],?_⟩;rw[cutgs,kF oM,Lz];simp only[aj,if_true];rcases q4 with⟨rfl,q5,q6⟩|⟨rfl,jump,q5,q6⟩
   ·exact .inl ⟨by simp;omega,q5,by simpa using q6⟩
   ·exact .inr ⟨by simp,jump,q5,q6⟩
  ·omega
 refine⟨Go.MuLone.run_callFunc_enter hf eT hb _ w,callsIn_wide.1 (callsIn_of_wp_marks (F:=Fence.wide) (n:=0) hf hb trivial ?_)⟩;refine dZ hm c none 0 ⟨O,tab,gs+2,gs+2+fn.ntmps,gs+1,some (items,gs,fy),true,false⟩ (Y.ll (gs+1) (jZ gs fy rc items J Jx)) _ _ _ _ _ _ w good (fun l hl=>by cases hl) (by show dH tab Y.N c=true;rw[yN];exact bC) hW (hc gs fy ep bx1 xW.1 xW.2 Wl) fun e e' σ' bx' a' w' ρ' hx hq h'=>?_;have fin:(items.length<=(bx' gs).sz/\(pd=none\/items.length<(bx' gs).sz))->LeavesInM Fence.wide 0 P fn a'.tmps (fun e w'=>(∃v ρ' bx',e= .returned v/\aA X ρ' σ bx' a w'/\
  ((pd=none/\ρ'.hold fy=some (.loop rc)/\J items.length (bU gs bx'))\/∃jump,ρ'.hold fy=some (.loop {rc with state:=.done,pending:=some jump})/\Jx jump (bU gs bx')))\/
  ∃d v ρ' bx',pd=some d/\e= .panicked [pe v]/\aA X ρ' σ bx' a w'/\aJ w' (az X ρ' bx' w') ρ' d v/\J items.length (bU gs bx')) a'.defers .returning w':=by
  rintro⟨hq,iM⟩;have hinv:jZ gs fy rc items J Jx (bU (gs+1) bx') ρ'.hold:=h'.inv;obtain⟨g0,g1⟩:=hinv;rw[cutgs,kF oM]at g1;have y4:=h'.Oz ylo yY;refine oT ylo yml ymd a'.defers a' ρ' w' rfl y4 (rs:=[]) (by rw[Bw];rfl) fun ρ2 w2 v s1 s2 _=> .inl ⟨v,ρ2,bx',rfl,back _ _ _ _ _ s1,?_⟩;rcases g1 with⟨g1,g2,g3⟩|⟨g1,jump,g2,g3⟩
  ·have e:(bx' gs).sz=items.length:=oM;rw[e]at g3;exact .inl ⟨iM.resolve_right oM,s2 _ _ g2 sI,g3⟩
  ·exact .inr ⟨jump,s2 _ _ g2 sI,g3⟩
 rcases hx.cases with⟨rfl,rfl⟩|⟨rfl,rfl⟩|⟨_,rfl,rfl⟩|⟨_,rfl,rfl⟩|⟨d,v,rfl,rfl,hv⟩
 ·exact fin hq
 ·exact fin hq
 ·exact hq.elim
 ·exact hq.elim
 ·obtain⟨Hv,hz⟩:=hq;have hinv:jZ gs fy rc items J Jx (bU (gs+1) bx') ρ'.hold:=h'.inv;obtain⟨g0,g1⟩:=hinv;rw[cutgs,kF oM]at g1;have y4:=h'.Oz ylo yY;have eS:az (Y.ll (gs+1) (jZ gs fy rc items J Jx)) ρ' bx' w'=az Y ρ' bx' w':=by funext b;simp only[az,Ctx.ll]
  rw[eS]at hv;refine ze ylo yml ymd a'.defers a' ρ' w' rfl y4 hv fun ρ2 w2 s1 s3=> .inr ⟨d,v,ρ2,bx',Hv,rfl,back _ _ _ _ _ s1,?_,?_⟩
  ·have eX:az Y ρ2 bx' w2=az X ρ2 bx' w2:=by funext b;simp only[az,yS,yn]
   rw[eX]at s3;exact s3
  ·rcases g1 with⟨_,_,g3⟩|⟨g1,_⟩
   ·rw[hz]at g3;exact g3
   ·omega
def cJ(P:Program):gO:=⟨ao P,bj P,yk P,zY P⟩
def tv(P:Program):Ok P (cJ P):=⟨fun _ _ _ h=>h,fun _ _ _ _ _ _ h=>h,fun _ _ _ _ h=>h,fun _ _ _ _ _ h=>h⟩
def aw(hm:P.follows .mixedOrders=true){f:FuncId}{fn:Func}{tab:List (Nat×List (Nat×Nat))}{ds:List D}{d:D}(h:qz P (cJ P) tab fn ds d)(hf:P.funcs[f]? =some fn)
 (eT:(fn.name== "runtime.NumGoroutine")=false) (hlen:decide (ds.length<=fn.ntmps)=true):ao P f ds d:=Qe hm hf eT (of_decide_eq_true hlen) (tv P) h
def aK(hm:P.follows .mixedOrders=true){f:FuncId}{fn:Func}{tab:List (Nat×List (Nat×Nat))}{base:Nat}{ds:List D}{bx:ae}{Q Qp:D->ae->Prop}(h:mn P (cJ P) tab fn base ds bx Q Qp)(hf:P.funcs[f]? =some fn)
 (eT:(fn.name== "runtime.NumGoroutine")=false) (hlen:decide (ds.length<=fn.ntmps)=true):bj P f base ds bx Q Qp:=NA hm hf eT (of_decide_eq_true hlen) (tv P) h
def NB(hm:P.follows .mixedOrders=true){f:FuncId}{fn:Func}{tab:List (Nat×List (Nat×Nat))}{caps:List D}{items:List (List D)}(h:R8 P (cJ P) tab fn caps items)(hf:P.funcs[f]? =some fn)
 (eT:(fn.name== "runtime.NumGoroutine")=false) (hlen:decide (caps.length+1<=fn.ntmps)=true):yk P f caps items (fn.ntmps+1):=ND hm hf eT (of_decide_eq_true hlen) (tv P) h
def CE(hm:P.follows .mixedOrders=true){f:FuncId}{fn:Func}{tab:List (Nat×List (Nat×Nat))}{b:Bx}{items:List (List D)}{pd:Option D}(h:Qb P (cJ P) tab fn b items pd)(hf:P.funcs[f]? =some fn)
 (eT:(fn.name== "runtime.NumGoroutine")=false) (hlen:decide (2<=fn.ntmps)=true):zY P f b items pd (fn.ntmps+2):=Lo hm hf eT (of_decide_eq_true hlen) (tv P) h
end Go.V
