/- Lemmas on plain data and programs: part B16. -/
import Derived.Test.YtkknfajchefgaaaGreatDoorB12
set_option linter.all false
set_option maxHeartbeats 8000000
namespace Go.V
open Go.Proofs Go.Proofs.Tryz Go.RowKit
class Ct(f:Nat)(ds:List D)(pre:outParam Prop)(d:outParam D):Prop where
 h:pre->av prog f ds d
abbrev Lm{α:Type}(l:List α):Prop:=l.length<=140737488355328
variable {tab:List (Nat×List (Nat×Nat))} {base aN lo:Nat} {yl:Option (List (List D)×Nat×Nat×Nat)} {pn df:Bool} {tb:FuncId->Nat->List D->ab->(D->ab->Prop)->(D->ab->Prop)->Prop} {it:FuncId->List D->List (List D)->Nat->Prop} {ib:FuncId->Bx->List (List D)->Option D->Nat->Prop} {P:Program} {bx:ab} {f:Nat} {ds:List D} {K2:Cl->D->ab->Prop} {pre:Prop} {d:D}
def pr{p:Prop}(h:p:=by first|exact True.intro|assumption|omega|(simp(disch:=omega) [*];done)|exact⟨by first|assumption|rfl|(simp[go_sem];done)|fail,by first|assumption|omega|fail,by first|assumption|(intros;exact True.intro)|(simp[*];done)|fail⟩|fail):p:=h
def pu(h:D.aH ds=true:=by first|(simp[go_sem];done)|(simp[go_sem, *];done)|fail):D.aH ds=true:=h
def ciO[h:Ct f ds pre d](h1:pre)(hp:D.aH ds=true)(hk:K2 .n d bx):c_ ⟨dD prog,tab,base,aN,lo,yl,pn,df⟩ f ds bx K2:=aI (h.h h1) hp hk
def ciT[h:Ct f ds pre d](h1:pre)(hp:D.aH ds=true)(hk:K2 .n d bx):c_ ⟨⟨(dD prog).to,tb,it,ib⟩,tab,base,aN,lo,yl,pn,df⟩ f ds bx K2:=aI (h.h h1) hp hk
def ciR{ds':List D}(ho:cE bx ds=some ds')[h:Ct f ds' pre d](hk:K2 .ra d bx)(h1:pre:=by exact pr)(hb:d.bare=true:=by first|rfl|(simp[go_sem];done)|fail):c_ ⟨dD prog,tab,base,aN,lo,yl,pn,df⟩ f ds bx K2:=lx (h.h h1) ho hb hk
theorem dp{f:Nat}(fn:Func){ds:List D}{d:D}{c:Code}{n:Nat}{pre:Prop}(tab:List (Nat×List (Nat×Nat)))(rv:List ResultVar)
 (h:pre->cD prog ⟨dD prog,tab,0,n,0,none,false,false⟩ c (Fx prog rv d) (aM 0 ds) (fun _=> .none))
 (hc:fn.body=some c:=by exact rfl) (hr:fn.results=rv.toArray:=by exact rfl) (hn:fn.ntmps=n:=by exact rfl) (bm:codeOk tab n c=true:=by kernel_rfl)
 (hf:prog.funcs[f]? =some fn:=by exact rfl) (dJ:(fn.name== "runtime.NumGoroutine")=false:=by exact rfl) (hlen:decide (ds.length<=fn.ntmps)=true:=by kernel_rfl):Ct f ds pre d:=
 ⟨fun h1=>E2 Lx.mixed (E3 c rv n hc hr hn bm (h h1)) hf dJ hlen⟩
def mY {f:FuncId} {fn:Func} {tab:List (Nat×List (Nat×Nat))} {base:Nat} {ds:List D} {m:RM} {Q:RM->ab->Prop} (h:vM prog (dD prog) tab fn base ds bx m Q) (hf:prog.funcs[f]? =some fn:=by exact rfl) (dJ:(fn.name== "runtime.NumGoroutine")=false:=by exact rfl) (hlen:decide (ds.length<=fn.ntmps)=true:=by kernel_rfl):BS prog f base ds bx m Q:=
 JX Lx.mixed hf dJ (afe hlen) (rK prog) h
def SD {f:FuncId} {fn:Func} {tab:List (Nat×List (Nat×Nat))} {base:Nat} {ds:List D} {Q Qp:D->ab->Prop} (h:El prog (dD prog) tab fn base ds bx Q Qp) (hf:prog.funcs[f]? =some fn:=by exact rfl) (dJ:(fn.name== "runtime.NumGoroutine")=false:=by exact rfl) (hlen:decide (ds.length<=fn.ntmps)=true:=by kernel_rfl):az prog f base ds bx Q Qp:=
 JW Lx.mixed hf dJ (afe hlen) (rK prog) h
@[go_sem] def apZ(bx:ab)(t:Nat)(es:List D):ff bx t es=ah bx t {bx t with es:=es}:=ax
def Hid(p:Prop):Prop:=p
theorem Hid.out{p:Prop}(h:Hid p):p:=h
def aZ:List (Nat×Nat)->Nat->Bool
 |[],_=>false
 |(a,b)::M,s=>(decide (a<=s)&&decide (s<=b))||aZ M s
@[go_sem] def adw{α:Type}(l:List α)(n:Nat):List.take (l.length - n) (l.drop n)=l.drop n:=aeu sI
attribute [go_sem] Nat.sub_zero
def an{α:Type}(M:List (Nat×Nat))(τ σ:Nat->α):Nat->α:=fun s=>if aZ M s=true then τ s else σ s
@[go_sem] def an3{α:Type}(τ σ:Nat->α):an [] τ σ=σ:=avU
@[go_sem] def alz{α:Type}(a b:Nat)(M:List (Nat×Nat))(τ σ:Nat->α)(s:Nat):an ((a,b)::M) τ σ s=if a<=s then(if s<=b then τ s else an M τ σ s)else an M τ σ s:=by by_cases h1:a<=s<;>by_cases h2:s<=b<;>simp[an,aZ,h1,h2]
def cO{α:Type}(M:List (Nat×Nat))(σ' σ:Nat->α):Prop:=∀s,aZ M s=false->σ' s=σ s
theorem cO.refl{α:Type}{M:List (Nat×Nat)}{σ:Nat->α}:cO M σ σ:=fun _ _=>rfl
theorem cO.N_{α:Type}{M:List (Nat×Nat)}{τ σ:Nat->α}:cO M (an M τ σ) σ:=fun s h=>by simp[an,h]
theorem cO.an4{α:Type}{M:List (Nat×Nat)}{τ σ:Nat->α}:cO M σ (an M τ σ):=fun s h=>by simp[an,h]
theorem cO.ah{α:Type}{M:List (Nat×Nat)}{σ' σ:Nat->α}{t:Nat}{v:α}(ht:aZ M t=true)(h:cO M σ' σ):cO M (ah σ' t v) σ:=fun s hs=>by
 have:s≠t:=fun e=>awN
 simp only[V.ah,aaw this];exact h s hs
theorem cO.an2{α:Type}{M:List (Nat×Nat)}{τ σ' σ:Nat->α}(h:cO M σ' σ):cO M (an M τ σ') σ:=fun s hs=>by simp[an,hs,h s hs]
@[go_sem] def alA{α:Type}(M:List (Nat×Nat))(τ' τ σ:Nat->α):an M τ' (an M τ σ)=an M τ' σ:=by grind [an]
def ao6(M' M:List (Nat×Nat)):Bool:=M'.all fun p=>M.any fun q=>decide (q.1<=p.1)&&decide (p.2<=q.2)
theorem Q2{M:List (Nat×Nat)}{s:Nat}:aZ M s=true<->∃p∈M,p.1<=s/\s<=p.2:=by induction M<;>grind [aZ]
theorem cO.an5{α:Type}{M M':List (Nat×Nat)}{τ σ' σ:Nat->α}(hM:ao6 M' M=true)(h:cO M σ' σ):cO M (an M' τ σ') σ:=fun s hs=>by
 have:aZ M' s=false:=by
  cases hm:aZ M' s with
  |false=>rfl
  |true=>
   obtain⟨p,hp,h1,h2⟩:=Q2.1 hm;obtain⟨q,hq,h3⟩:=ak7.1 (aaI.1 hM p hp);simp only[aas,aaH]at h3
   grind [Q2]
 simp[an,this,h s hs]
theorem cO.mix{α:Type}{M:List (Nat×Nat)}{σ' σ:Nat->α}(h:cO M σ' σ):σ'=an M σ' σ:=by
 funext s;unfold an;split
 ·rfl
 ·rename_i hs;exact h s awN
def CY{α:Type}(M:List (Nat×Nat))(σ:Nat->α):an M σ σ=σ:=(cO.mix (cO.refl (M:=M) (σ:=σ))).symm
def LN(M MB:List (Nat×Nat))(σ:Env)(bx:ab)(I:Env->ab->Prop)(σ':Env)(bx':ab):Prop:=cO M σ' σ/\cO MB bx' bx/\I σ' bx'
def ag{α:Type}{M:List (Nat×Nat)}{σ' σ:Nat->α}(h:cO M σ' σ:=by repeat (first|assumption|exact cO.refl|exact cO.N_|exact cO.an4|refine cO.ah rfl ?_|refine cO.an2 ?_|refine cO.an5 rfl ?_)):cO M σ' σ:=h
def ln{M MB:List (Nat×Nat)}{σ:Env}{bx:ab}{I:Env->ab->Prop}{σ':Env}{bx':ab}(h1:cO M σ' σ)(h2:cO MB bx' bx)(h:I σ' bx'):LN M MB σ bx I σ' bx':=⟨h1,h2,h⟩
variable {C:Calc} {Q:DX->Env->ab->Prop} {σ:Env} {c:Code}
def DH(M MB:List (Nat×Nat))(n:Nat)(I:Nat->Env->ab->Prop)(h0:I 0 σ bx)
 (hb:∀j τ β,j<n->I j τ β->cD P C c (dK (LN M MB σ bx (I (j+1))) Q) (an M τ σ) (an MB β bx))
 (he:∀τ β,I n τ β->cD P C c (dK (fun _ _=>False) Q) (an M τ σ) (an MB β bx)):cD P C (.loop c) Q σ bx:=by
 refine bB n (fun j σ1 bx1=>∃τ β,σ1=an M τ σ/\bx1=an MB β bx/\I j τ β) ⟨σ,bx,(CY ..).symm,(CY ..).symm,h0⟩ ?_ ?_
 ·rintro j σ1 bx1 hj ⟨τ,β,rfl,rfl,hi⟩;refine my (fun e σ2 aT h=>?_) (hb j τ β hj hi);cases e<;>first|exact⟨σ2,aT,h.1.mix,h.2.1.mix,h.2.2⟩|exact h
 exact awN
def adZ{G:Type}(g0:G)(μ:G->Nat)(M MB:List (Nat×Nat))(I:G->Env->ab->Prop)(h0:I g0 σ bx)
 (hb:∀g τ β,I g τ β->cD P C c (dK (LN M MB σ bx fun σ' bx'=>∃g',μ g'<μ g/\I g' σ' bx') Q) (an M τ σ) (an MB β bx)):cD P C (.loop c) Q σ bx:=by
 refine DH M MB (μ g0) (fun k τ β=>∃g,μ g+k<=μ g0/\I g τ β) ⟨g0,oM,h0⟩ ?_ ?_
 ·rintro k τ β hk ⟨g,h1,h2⟩;refine my (fun e σ2 aT h=>?_) (hb g τ β h2);cases e with
  |normal=>obtain⟨q1,q2,g',q3,q4⟩:=h;exact⟨q1,q2,g',oM,q4⟩
  |_=>exact h
 ·rintro τ β ⟨g,h1,h2⟩;refine my (fun e σ2 aT h=>?_) (hb g τ β h2);cases e with
  |normal=>obtain⟨q1,q2,g',q3,q4⟩:=h;omega
  |_=>exact h
def LU(M:List (Nat×Nat))(σ:Env)(I:Env->ab->Prop)(σ':Env)(bx':ab):Prop:=cO M σ' σ/\I σ' bx'
def lu{M:List (Nat×Nat)}{σ:Env}{I:Env->ab->Prop}{σ':Env}{bx':ab}(h1 h2:cO M σ' σ)(h:I σ' bx'):LU M σ I σ' bx':=⟨h1,h⟩
def Uw{G:Type}(g0:G)(μ:G->Nat)(M:List (Nat×Nat))(I:G->Env->ab->Prop)(h0:I g0 σ bx)
 (hb:∀g τ β,I g τ β->cD P C c (dK (LU M σ fun σ' bx'=>∃g',μ g'<μ g/\I g' σ' bx') Q) (an M τ σ) β):cD P C (.loop c) Q σ bx:=by
 refine bB (μ g0) (fun k σ1 bx1=>∃τ g,σ1=an M τ σ/\μ g+k<=μ g0/\I g τ bx1) ⟨σ,g0,(CY ..).symm,oM,h0⟩ ?_ ?_
 ·rintro k σ1 bx1 hk ⟨τ,g,rfl,h1,h2⟩;refine my (fun e σ2 aT h=>?_) (hb g τ bx1 h2);cases e with
  |normal=>obtain⟨q1,g',q3,q4⟩:=h;exact⟨σ2,g',q1.mix,oM,q4⟩
  |_=>exact h
 ·rintro σ1 bx1 ⟨τ,g,rfl,h1,h2⟩;refine my (fun e σ2 aT h=>?_) (hb g τ bx1 h2);cases e with
  |normal=>obtain⟨q1,g',q3,q4⟩:=h;omega
  |_=>exact h
def bT{α:Type}(l:List α)(M MB:List (Nat×Nat))(I:Nat->Env->ab->Prop)(hl:Lm l)(h0:I 0 σ bx)
 (hb:∀(j:Nat) x τ β,l[j]? =some x->(j:Int)<(l.length:Int)->IntKind.i64.wrap ((j:Int)+1)=((j+1:Nat):Int)->I j τ β->cD P C c (dK (LN M MB σ bx (I (j+1))) Q) (an M τ σ) (an MB β bx))
 (he:∀τ β,¬(l.length:Int)<(l.length:Int)->I l.length τ β->cD P C c (dK (fun _ _=>False) Q) (an M τ σ) (an MB β bx)):cD P C (.loop c) Q σ bx:=by
 refine DH M MB l.length I h0 (fun j τ β hj hi=>?_) fun τ β hi=>he τ β oM hi;exact hb j l[j] τ β (aaS hj) oM (aR oM) hi
def ql{α:Type}(l:List α){p:α->Bool}{A:Bool}(hA:l.all p=A)(i:Nat)(M MB:List (Nat×Nat))(hl:Lm l)(h0:σ i= .int .i64 0)
 (hb:∀(j:Nat) x τ β,l[j]? =some x->(j:Int)<(l.length:Int)->IntKind.i64.wrap ((j:Int)+1)=((j+1:Nat):Int)->τ i= .int .i64 j->Hid (p x=false->A=false)->
  cD P C c (dK (LN M MB σ bx fun τ' _=>τ' i= .int .i64 ((j+1:Nat):Int)/\p x=true) Q) (an M τ σ) (an MB β bx))
 (he:∀τ β,¬(l.length:Int)<(l.length:Int)->τ i= .int .i64 l.length->A=true->cD P C c (dK (fun _ _=>False) Q) (an M τ σ) (an MB β bx)):cD P C (.loop c) Q σ bx:=by
 subst hA;refine bT l M MB (fun j τ _=>τ i= .int .i64 j/\(l.take j).all p=true) hl ⟨h0,sI⟩ (fun j x τ β hx h1 h2 hi=>?_) fun τ β hn hi=>he τ β hn hi.1 awN;refine my (fun e σ2 aT h=>?_) (hb j x τ β hx h1 h2 hi.1 fun h=>akx.2 ⟨x,aat hx,awK⟩)
 exact auJ
def F5{α:Type}(l:List α){p:α->Bool}{A:Option Nat}(hA:l.findIdx? p=A)(i:Nat)(M MB:List (Nat×Nat))(hl:Lm l)(h0:σ i= .int .i64 0)
 (hb:∀(j:Nat) x τ β,l[j]? =some x->(j:Int)<(l.length:Int)->IntKind.i64.wrap ((j:Int)+1)=((j+1:Nat):Int)->τ i= .int .i64 j->Hid (p x=true->A=some j)->
  cD P C c (dK (LN M MB σ bx fun τ' _=>τ' i= .int .i64 ((j+1:Nat):Int)/\p x=false) Q) (an M τ σ) (an MB β bx))
 (he:∀τ β,¬(l.length:Int)<(l.length:Int)->τ i= .int .i64 l.length->A=none->cD P C c (dK (fun _ _=>False) Q) (an M τ σ) (an MB β bx)):cD P C (.loop c) Q σ bx:=by
 subst hA;refine bT l M MB (fun j τ _=>τ i= .int .i64 j/\∀k x,k<j->l[k]? =some x->p x=false) hl ⟨h0,fun k x hk=>oM⟩ (fun j x τ β hx h1 h2 hi=>?_) fun τ β hn hi=>he τ β hn hi.1 ?_
 ·refine my (fun e σ2 aT h=>?_) (hb j x τ β hx h1 h2 hi.1 fun h=>?_)
  ·exact awN
  grind [List.findIdx?_eq_some_iff_getElem]
 ·rw[List.findIdx?_eq_none_iff];intro x hx;obtain⟨k,hk,rfl⟩:=akI hx;exact awy
def yV{α S:Type}(l:List α)(step:S->α->Option S)(s0:S){A:Option S}(hA:l.foldlM step s0=A)(i:Nat)(M MB:List (Nat×Nat))(I:Nat->S->Env->ab->Prop)(hl:Lm l)(h0:σ i= .int .i64 0)(h1:I 0 s0 σ bx)
 (hb:∀(j:Nat) x s τ β,l[j]? =some x->(j:Int)<(l.length:Int)->IntKind.i64.wrap ((j:Int)+1)=((j+1:Nat):Int)->τ i= .int .i64 j->I j s τ β->Hid (step s x=none->A=none)->
  cD P C c (dK (LN M MB σ bx fun τ' β'=>τ' i= .int .i64 ((j+1:Nat):Int)/\∃s',step s x=some s'/\I (j+1) s' τ' β') Q) (an M τ σ) (an MB β bx))
 (he:∀s τ β,¬(l.length:Int)<(l.length:Int)->τ i= .int .i64 l.length->I l.length s τ β->A=some s->cD P C c (dK (fun _ _=>False) Q) (an M τ σ) (an MB β bx)):cD P C (.loop c) Q σ bx:=by
 subst hA;have key:∀j x s,l[j]? =some x->(l.take j).foldlM step s0=some s->(l.take (j+1)).foldlM step s0=step s x/\(step s x=none->l.foldlM step s0=none):=fun j x s hx hs=>by
  refine⟨by grind [List.take_add_one,List.foldlM_append],fun h=>?_⟩
  grind [List.take_append_drop,List.foldlM_append,List.drop_eq_getElem_cons]
 refine bT l M MB (fun j τ β=>τ i= .int .i64 j/\∃s,(l.take j).foldlM step s0=some s/\I j s τ β) hl ⟨h0,s0,sI,h1⟩ (fun j x τ β hx h1 h2 hi=>?_) fun τ β hn hi=>?_
 ·obtain⟨h3,s,h4,h5⟩:=hi;refine my (fun e σ2 aT h=>?_) (hb j x s τ β hx h1 h2 h3 h5 (key j x s hx h4).2)
  exact awN
 exact awN
abbrev bE(ts:List Nat):List (Nat×Nat):=ts.map fun t=>(t,t)
theorem DQ{ts:List Nat}{t:Nat}:aZ (bE ts) t=true<->t∈ts:=by
 induction ts with
 |nil=>simp[aZ]
 |cons a ts ih=>
  simp only[abk,aZ,akD,aas,aaH,aaQ,ih]
  exact awN
theorem aP.mix{β:ab}{ts:List Nat}{e esz:Nat}{x:D}{xs:List D}(h:aP β ts e esz x xs)(M:List (Nat×Nat))(hM:ts.all (aZ M)=true:=by rfl):aP (an M β bx) ts e esz x xs:=
 h.of fun t ht=>by grind [an]
def app{lo:Nat}{T:TypeId->TI}{e esz b size d:Nat}{ag jV:Bool}{z:List D}{x:D}{xs ys:List D}{K2:D×ab->Prop}(ts:List Nat)(hx:aP bx ts e esz x xs)
 (hk:∀x' β,aP β ts e esz x' (xs++ys)->K2 (x',an (bE ts) β bx)) (h1:(xs.length+ys.length) * b<=140737488355328:=by first|(simp;omega)|fail) (hz:(T e).zero.length=esz:=by simp[go_sem])
 (hd:d∈ts:=by decide) (h2:0<esz:=by omega) (h3:0<b:=by omega) (bC:∀t,t∈ts->lo<=t:=by simp):
 aJ (jC lo T ⟨.slice e esz b ag,size,jV,z⟩ (some d) bx x ys) K2:=by
 by_cases hy:ys=[]
 ·grind [nJ,cO.mix,cO.refl]
 ·refine il hx hy hz h1 h2 h3 bC fun e' bx' hb hf=>?_;have:=hk (.ba d e' esz 0 (xs++ys).length) bx' (aP.mk hd hb);rwa[<-cO.mix]at this;intro s hs
  grind [DQ]
theorem kI{α:Type}(f:α->D):∀l:List α,D.aH (l.map f)=l.all fun x=>(f x).pure
 |[]=>rfl
 |x::l=>by simp only[abk,D.aH,aep,kI f l]
def zz{P:Prop}(h:P:=by first|(simp[*];done)|(simp;omega)|(simp_all;done)|(simp_all;omega)|(refine aaR D.bool ?_;rw[abu];simp[*];omega)|fail):P:=h
theorem vV(n:Int)(h1: -9223372036854775808<=n)(h2:n<=9223372036854775807):IntKind.i64.wrap n=n:=wrap_i64 h1 oM
def sw{P Q:Prop}(k:Q)(h:Q->P:=by intro k;simp(maxSteps:=1000000) (disch:=omega) only[go_sem,vV, *,-k];all_goals exact k):P:=h k
def cdd{p:Prop}[Decidable p]{x y:Prop}(h1:p->x)(h2:¬p->y):je (decide p) x y:=aW h1 h2
def zQ{p:Prop}(h:p:=by with_reducible first|exact trivial|exact .refl _|fail):p:=h
def zK{P Q:Prop}(k:Q)(h:Q->P:=by first|((with_reducible first|refine ciO ?_ ?_|refine ciT ?_ ?_);exact pr;exact pu)|((with_reducible first|refine ln ?_ ?_|refine lu ?_ ?_);exact ag;exact ag)|(intro k;simp(maxSteps:=1000000) (disch:=omega) only[go_sem,vV, *,-k];exact k)|(refine fun(_:True)=>?_;simp(maxSteps:=1000000) (disch:=omega) only[go_sem,vV, *];done)|fail):P:=h k
class Cq(f:Nat)(ds:List D)(pre:outParam Prop)(ok:outParam Bool)(d pd:outParam D):Prop where
 h:pre->∀bx,az prog f 0 ds bx (fun d' bx'=>ok=true/\d'=d/\bx'=bx) (fun d' bx'=>ok=false/\d'=pd/\bx'=bx)
def dU{pd:D}{ok:Bool}[h:Cq f ds pre ok d pd](h1:pre)(hk:ok=true->K2 .wa d bx)(hp:ok=false->K2 (.cd pd) .undef bx):c_ ⟨dD prog,tab,base,aN,0,yl,pn,df⟩ f ds bx K2:=by
 refine bj (bP:=fun d' bx'=>ok=true/\d'=d/\bx'=bx) (Pan:=fun d' bx'=>ok=false/\d'=pd/\bx'=bx) (h.h h1 bx) rfl ?_ ?_
 ·exact awN
 exact awN
structure Hd(P:Prop):Prop where
 o:P
structure Sj(p q A B:Prop):Prop where
 a:p->A
 b:q->B
class Nm(P:Prop)(Q:outParam Prop):Prop where
 h:Q->P
structure Lf(P:Prop):Prop where
 o:P
class An(p q A B:Prop)(R:outParam Prop):Prop where
 h:R->Sj p q A B
instance (priority:=low){p q A B:Prop}:An p q A B ((p->A)/\(q->B)):=⟨fun h=>⟨h.1,h.2⟩⟩
instance{p q B:Prop}:An p q True B (q->B):=⟨fun h=>⟨fun _=>trivial,h⟩⟩
instance{p q A:Prop}:An p q A True (p->A):=⟨fun h=>⟨h,fun _=>trivial⟩⟩
instance (priority:=high){p q:Prop}:An p q True True True:=⟨fun _=>⟨fun _=>trivial,fun _=>trivial⟩⟩
instance:Nm True True:=⟨id⟩
instance(P:Prop):Nm (Lf P) P:=⟨fun h=>⟨h⟩⟩
instance{p q A B A' B' R:Prop}[h:Nm A A'][g:Nm B B'][r:An p q A' B' R]:Nm (Sj p q A B) R:=⟨fun k=>⟨fun x=>h.h ((r.h k).1 x),fun x=>g.h ((r.h k).2 x)⟩⟩
def zs{b:Bool}{p q x y A B:Prop}[h:BP b p q](k:Hd (Sj p q A B))(h1:Hd A->p->x)(h2:Hd B->q->y):je b x y:=aO (fun e=>h1 ⟨k.o.a (h.t e)⟩ (h.t e)) fun e=>h2 ⟨k.o.b (h.f e)⟩ (h.f e)
def zp{pd:D}{ok:Bool}{A B:Prop}[h:Cq f ds pre ok d pd](k:Hd (Sj (ok=true) (ok=false) A B))(h0:pre)(h1:Hd A->ok=true->K2 .wa d bx)(h2:Hd B->ok=false->K2 (.cd pd) .undef bx):c_ ⟨dD prog,tab,base,aN,0,yl,pn,df⟩ f ds bx K2:=dU h0 (fun e=>h1 ⟨k.o.a e⟩ e) fun e=>h2 ⟨k.o.b e⟩ e
def zE{P:Prop}(h:P:=by repeat' first|exact zQ|with_reducible apply zJ<;>intro _|((with_reducible refine dU ?_ (fun _=>?_) fun _=>?_);exact pr)|refine zK ?_):P:=h
def zq{p:Prop}(_:Hd True)(h:p:=by with_reducible first|exact trivial|exact .refl _|fail):p:=h
def lf{P:Prop}(k:Hd (Lf P)):P:=k.o.o
def zW {P Q Q':Prop} [n:Nm Q Q'] (k:Q') (h:Hd Q->P:=by
 intro k;repeat' first|exact zq k|(with_reducible apply zs<;>first|exact k|(clear k;intro k _)|skip)|(with_reducible apply zp<;>first|exact k|exact pr|(clear k;intro k _)|skip)|refine zK ?_
 all_goals exact lf k):P:=h ⟨n.h k⟩
def zF {P:Prop} (h:P:=by
 repeat' first|exact zQ|with_reducible apply zJ<;>intro _|((with_reducible refine dU ?_ (fun _=>?_) fun _=>?_);exact pr)|refine zK ?_
 all_goals first|with_reducible exact .refl _|(refine aq ?_;have cH:=cH.out zz;simp[*];done)|((try refine aq ?_);exact zz)):P:=h
end Go.V
