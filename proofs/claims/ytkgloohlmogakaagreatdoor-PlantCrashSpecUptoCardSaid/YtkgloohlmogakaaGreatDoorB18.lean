/- Plain laws: B18. -/
import Derived.Test.YtkgloohlmogakaaGreatDoorB11
set_option linter.all false
set_option maxHeartbeats 8000000
namespace Go.V
open Go.Proofs Go.Proofs.Tryz Go.RowKit
class Ct(f:Nat)(ds:List D)(pre:outParam Prop)(d:outParam D):Prop where
 h:pre->ao prog f ds d
abbrev Lm{α:Type}(l:List α):Prop:=l.length<=140737488355328
variable {tab:List (Nat×List (Nat×Nat))} {base bk lo:Nat} {yl:Option (List (List D)×Nat×Nat)} {pn df:Bool} {tb:FuncId->Nat->List D->ae->(D->ae->Prop)->(D->ae->Prop)->Prop} {it:FuncId->List D->List (List D)->Nat->Prop} {ib:FuncId->Bx->List (List D)->Option D->Nat->Prop} {P:Program} {bx:ae} {f:Nat} {ds:List D} {K2:Cl->D->ae->Prop} {pre:Prop} {d:D}
def pr{p:Prop}(h:p:=by first|exact True.intro|assumption|omega|(simp(disch:=omega) [*];done)|exact⟨by first|assumption|rfl|(simp[go_sem];done)|fail,by first|assumption|omega|fail,by first|assumption|(intros;exact True.intro)|(simp[*];done)|fail⟩|fail):p:=h
def pu(h:D.aF ds=true:=by first|(simp[go_sem];done)|(simp[go_sem, *];done)|fail):D.aF ds=true:=h
def ciO[h:Ct f ds pre d](h1:pre)(hp:D.aF ds=true)(hk:K2 .n d bx):fD ⟨cJ prog,tab,base,bk,lo,yl,pn,df⟩ f ds bx K2:=av (h.h h1) hp hk
def ciT[h:Ct f ds pre d](h1:pre)(hp:D.aF ds=true)(hk:K2 .n d bx):fD ⟨⟨(cJ prog).to,tb,it,ib⟩,tab,base,bk,lo,yl,pn,df⟩ f ds bx K2:=av (h.h h1) hp hk
def Vy{ds':List D}(ho:cY bx ds=some ds')[h:Ct f ds' pre d](hk:K2 .ra d bx)(h1:pre:=by exact pr)(hb:d.bare=true:=by first|rfl|(simp[go_sem];done)|fail):fD ⟨cJ prog,tab,base,bk,lo,yl,pn,df⟩ f ds bx K2:=pA (h.h h1) ho hb hk
theorem bf{f:Nat}(fn:Func){ds:List D}{d:D}{c:Code}{n:Nat}{pre:Prop}(tab:List (Nat×List (Nat×Nat)))(rv:List ResultVar)
 (h:pre->cD prog ⟨cJ prog,tab,0,n,0,none,false,false⟩ c (Mu prog rv d) (bF 0 ds) (fun _=> .none))
 (hc:fn.body=some c:=by exact rfl) (hr:fn.results=rv.toArray:=by exact rfl) (hn:fn.ntmps=n:=by exact rfl) (bC:codeOk tab n c=true:=by kernel_rfl)
 (hf:prog.funcs[f]? =some fn:=by exact rfl) (eT:(fn.name== "runtime.NumGoroutine")=false:=by exact rfl) (hlen:decide (ds.length<=fn.ntmps)=true:=by kernel_rfl):Ct f ds pre d:=
 ⟨fun h1=>aw Lx.mixed (ax c rv n hc hr hn bC (h h1)) hf eT hlen⟩
def wU {f:FuncId} {fn:Func} {tab:List (Nat×List (Nat×Nat))} {base:Nat} {ds:List D} {m:RM} {Q:RM->ae->Prop} (h:yI prog (cJ prog) tab fn base ds bx m Q) (hf:prog.funcs[f]? =some fn:=by exact rfl) (eT:(fn.name== "runtime.NumGoroutine")=false:=by exact rfl) (hlen:decide (ds.length<=fn.ntmps)=true:=by kernel_rfl):Cc prog f base ds bx m Q:=
 NG Lx.mixed hf eT (of_decide_eq_true hlen) (tv prog) h
def GV {f:FuncId} {fn:Func} {tab:List (Nat×List (Nat×Nat))} {base:Nat} {ds:List D} {Q Qp:D->ae->Prop} (h:ET prog (cJ prog) tab fn base ds bx Q Qp) (hf:prog.funcs[f]? =some fn:=by exact rfl) (eT:(fn.name== "runtime.NumGoroutine")=false:=by exact rfl) (hlen:decide (ds.length<=fn.ntmps)=true:=by kernel_rfl):bj prog f base ds bx Q Qp:=
 NF Lx.mixed hf eT (of_decide_eq_true hlen) (tv prog) h
@[go_sem] def ahN(bx:ae)(t:Nat)(es:List D):fR bx t es=aj bx t {bx t with es:=es}:=ay
def Hid(p:Prop):Prop:=p
theorem Hid.out{p:Prop}(h:Hid p):p:=h
def dA:List (Nat×Nat)->Nat->Bool
 |[],_=>false
 |(a,b)::M,s=>(decide (a<=s)&&decide (s<=b))||dA M s
@[go_sem] def US{α:Type}(l:List α)(n:Nat):List.take (l.length - n) (l.drop n)=l.drop n:=List.take_of_length_le sI
attribute [go_sem] Nat.sub_zero
def bc{α:Type}(M:List (Nat×Nat))(τ σ:Nat->α):Nat->α:=fun s=>if dA M s=true then τ s else σ s
@[go_sem] def QX{α:Type}(τ σ:Nat->α):bc [] τ σ=σ:=by funext s;simp[bc,dA]
@[go_sem] def Ow{α:Type}(a b:Nat)(M:List (Nat×Nat))(τ σ:Nat->α)(s:Nat):bc ((a,b)::M) τ σ s=if a<=s then(if s<=b then τ s else bc M τ σ s)else bc M τ σ s:=by by_cases h1:a<=s<;>by_cases h2:s<=b<;>simp[bc,dA,h1,h2]
def di{α:Type}(M:List (Nat×Nat))(σ' σ:Nat->α):Prop:=∀s,dA M s=false->σ' s=σ s
theorem di.refl{α:Type}{M:List (Nat×Nat)}{σ:Nat->α}:di M σ σ:=fun _ _=>rfl
theorem di.nH{α:Type}{M:List (Nat×Nat)}{τ σ:Nat->α}:di M (bc M τ σ) σ:=fun s h=>by simp[bc,h]
theorem di.afL{α:Type}{M:List (Nat×Nat)}{τ σ:Nat->α}:di M σ (bc M τ σ):=fun s h=>by simp[bc,h]
def di.aj{α:Type}{M:List (Nat×Nat)}{σ' σ:Nat->α}{t:Nat}{v:α}(ht:dA M t=true)(h:di M σ' σ):di M (aj σ' t v) σ:=fun s hs=>by
 have:s≠t:=fun e=>by rw[e,ht]at hs;cases hs
 simp only[V.aj,if_neg this];exact h s hs
theorem di.afK{α:Type}{M:List (Nat×Nat)}{τ σ' σ:Nat->α}(h:di M σ' σ):di M (bc M τ σ') σ:=fun s hs=>by simp[bc,hs,h s hs]
@[go_sem] def Fq{α:Type}(M:List (Nat×Nat))(τ' τ σ:Nat->α):bc M τ' (bc M τ σ)=bc M τ' σ:=by funext s;unfold bc;split<;>rfl
def agQ(M' M:List (Nat×Nat)):Bool:=M'.all fun p=>M.any fun q=>decide (q.1<=p.1)&&decide (p.2<=q.2)
theorem Ko{M:List (Nat×Nat)}{s:Nat}:dA M s=true<->∃p∈M,p.1<=s/\s<=p.2:=by
 induction M with
 |nil=>simp[dA]
 |cons p M ih=>simp[dA,ih]
theorem di.afM{α:Type}{M M':List (Nat×Nat)}{τ σ' σ:Nat->α}(hM:agQ M' M=true)(h:di M σ' σ):di M (bc M' τ σ') σ:=fun s hs=>by
 have:dA M' s=false:=by
  cases hm:dA M' s with
  |false=>rfl
  |true=>
   obtain⟨p,hp,h1,h2⟩:=Ko.1 hm;obtain⟨q,hq,h3⟩:=List.any_eq_true.1 (List.all_eq_true.1 hM p hp);simp only[bA,decide_eq_true_eq]at h3;rw[Ko.2 ⟨q,hq,by omega,by omega⟩]at hs;cases hs
 simp[bc,this,h s hs]
theorem di.mix{α:Type}{M:List (Nat×Nat)}{σ' σ:Nat->α}(h:di M σ' σ):σ'=bc M σ' σ:=by
 funext s;unfold bc;split
 ·rfl
 ·rename_i hs;exact h s (by simpa using hs)
def rP{α:Type}(M:List (Nat×Nat))(σ:Nat->α):bc M σ σ=σ:=(di.mix (di.refl (M:=M) (σ:=σ))).symm
def LN(M MB:List (Nat×Nat))(σ:Env)(bx:ae)(I:Env->ae->Prop)(σ':Env)(bx':ae):Prop:=di M σ' σ/\di MB bx' bx/\I σ' bx'
def ag{α:Type}{M:List (Nat×Nat)}{σ' σ:Nat->α}(h:di M σ' σ:=by repeat (first|assumption|exact di.refl|exact di.nH|exact di.afL|refine di.aj rfl ?_|refine di.afK ?_|refine di.afM rfl ?_)):di M σ' σ:=h
def ln{M MB:List (Nat×Nat)}{σ:Env}{bx:ae}{I:Env->ae->Prop}{σ':Env}{bx':ae}(h1:di M σ' σ)(h2:di MB bx' bx)(h:I σ' bx'):LN M MB σ bx I σ' bx':=⟨h1,h2,h⟩
variable {C:Calc} {Q:DX->Env->ae->Prop} {σ:Env} {c:Code}
def iS(M MB:List (Nat×Nat))(n:Nat)(I:Nat->Env->ae->Prop)(h0:I 0 σ bx)
 (hb:∀j τ β,j<n->I j τ β->cD P C c (dM (LN M MB σ bx (I (j+1))) Q) (bc M τ σ) (bc MB β bx))
 (he:∀τ β,I n τ β->cD P C c (dM (fun _ _=>False) Q) (bc M τ σ) (bc MB β bx)):cD P C (.loop c) Q σ bx:=by
 refine bo n (fun j σ1 bx1=>∃τ β,σ1=bc M τ σ/\bx1=bc MB β bx/\I j τ β) ⟨σ,bx,(rP ..).symm,(rP ..).symm,h0⟩ ?_ ?_
 ·rintro j σ1 bx1 hj ⟨τ,β,rfl,rfl,hi⟩;refine lL (fun e σ2 bK h=>?_) (hb j τ β hj hi);cases e<;>first|exact⟨σ2,bK,h.1.mix,h.2.1.mix,h.2.2⟩|exact h
 ·rintro σ1 bx1 ⟨τ,β,rfl,rfl,hi⟩;exact he τ β hi
def rF{G:Type}(g0:G)(μ:G->Nat)(M MB:List (Nat×Nat))(I:G->Env->ae->Prop)(h0:I g0 σ bx)
 (hb:∀g τ β,I g τ β->cD P C c (dM (LN M MB σ bx fun σ' bx'=>∃g',μ g'<μ g/\I g' σ' bx') Q) (bc M τ σ) (bc MB β bx)):cD P C (.loop c) Q σ bx:=by
 refine iS M MB (μ g0) (fun k τ β=>∃g,μ g+k<=μ g0/\I g τ β) ⟨g0,by omega,h0⟩ ?_ ?_
 ·rintro k τ β hk ⟨g,h1,h2⟩;refine lL (fun e σ2 bK h=>?_) (hb g τ β h2);cases e with
  |normal=>obtain⟨q1,q2,g',q3,q4⟩:=h;exact⟨q1,q2,g',by omega,q4⟩
  |_=>exact h
 ·rintro τ β ⟨g,h1,h2⟩;refine lL (fun e σ2 bK h=>?_) (hb g τ β h2);cases e with
  |normal=>obtain⟨q1,q2,g',q3,q4⟩:=h;omega
  |_=>exact h
def LU(M:List (Nat×Nat))(σ:Env)(I:Env->ae->Prop)(σ':Env)(bx':ae):Prop:=di M σ' σ/\I σ' bx'
def lu{M:List (Nat×Nat)}{σ:Env}{I:Env->ae->Prop}{σ':Env}{bx':ae}(h1 h2:di M σ' σ)(h:I σ' bx'):LU M σ I σ' bx':=⟨h1,h⟩
def yt{G:Type}(g0:G)(μ:G->Nat)(M:List (Nat×Nat))(I:G->Env->ae->Prop)(h0:I g0 σ bx)
 (hb:∀g τ β,I g τ β->cD P C c (dM (LU M σ fun σ' bx'=>∃g',μ g'<μ g/\I g' σ' bx') Q) (bc M τ σ) β):cD P C (.loop c) Q σ bx:=by
 refine bo (μ g0) (fun k σ1 bx1=>∃τ g,σ1=bc M τ σ/\μ g+k<=μ g0/\I g τ bx1) ⟨σ,g0,(rP ..).symm,by omega,h0⟩ ?_ ?_
 ·rintro k σ1 bx1 hk ⟨τ,g,rfl,h1,h2⟩;refine lL (fun e σ2 bK h=>?_) (hb g τ bx1 h2);cases e with
  |normal=>obtain⟨q1,g',q3,q4⟩:=h;exact⟨σ2,g',q1.mix,by omega,q4⟩
  |_=>exact h
 ·rintro σ1 bx1 ⟨τ,g,rfl,h1,h2⟩;refine lL (fun e σ2 bK h=>?_) (hb g τ bx1 h2);cases e with
  |normal=>obtain⟨q1,g',q3,q4⟩:=h;omega
  |_=>exact h
def bW{α:Type}(l:List α)(M MB:List (Nat×Nat))(I:Nat->Env->ae->Prop)(hl:Lm l)(h0:I 0 σ bx)
 (hb:∀(j:Nat) x τ β,l[j]? =some x->(j:Int)<(l.length:Int)->IntKind.i64.wrap ((j:Int)+1)=((j+1:Nat):Int)->I j τ β->cD P C c (dM (LN M MB σ bx (I (j+1))) Q) (bc M τ σ) (bc MB β bx))
 (he:∀τ β,¬(l.length:Int)<(l.length:Int)->I l.length τ β->cD P C c (dM (fun _ _=>False) Q) (bc M τ σ) (bc MB β bx)):cD P C (.loop c) Q σ bx:=by
 refine iS M MB l.length I h0 (fun j τ β hj hi=>?_) fun τ β hi=>he τ β oM hi;exact hb j l[j] τ β (gE hj) oM (aE oM) hi
def gR{α:Type}(l:List α){p:α->Bool}{A:Bool}(hA:l.all p=A)(i:Nat)(M MB:List (Nat×Nat))(hl:Lm l)(h0:σ i= .int .i64 0)
 (hb:∀(j:Nat) x τ β,l[j]? =some x->(j:Int)<(l.length:Int)->IntKind.i64.wrap ((j:Int)+1)=((j+1:Nat):Int)->τ i= .int .i64 j->Hid (p x=false->A=false)->
  cD P C c (dM (LN M MB σ bx fun τ' _=>τ' i= .int .i64 ((j+1:Nat):Int)/\p x=true) Q) (bc M τ σ) (bc MB β bx))
 (he:∀τ β,¬(l.length:Int)<(l.length:Int)->τ i= .int .i64 l.length->A=true->cD P C c (dM (fun _ _=>False) Q) (bc M τ σ) (bc MB β bx)):cD P C (.loop c) Q σ bx:=by
 subst hA;refine bW l M MB (fun j τ _=>τ i= .int .i64 j/\(l.take j).all p=true) hl ⟨h0,by simp⟩ (fun j x τ β hx h1 h2 hi=>?_) fun τ β hn hi=>he τ β hn hi.1 (by have:=hi.2;rwa[tL]at this);refine lL (fun e σ2 bK h=>?_) (hb j x τ β hx h1 h2 hi.1 fun h=>List.all_eq_false.2 ⟨x,mG hx,by simp[h]⟩);cases e with
 |normal=>
  refine⟨h.1,h.2.1,h.2.2.1,?_⟩;rw[List.take_add_one,hx];simp only[Option.toList_some,List.all_append,hi.2,List.all_cons,h.2.2.2,List.all_nil,Bool.and_self]
 |_=>exact h
def Na{α:Type}(l:List α){p:α->Bool}{A:Bool}(hA:l.any p=A)(i:Nat)(M MB:List (Nat×Nat))(hl:Lm l)(h0:σ i= .int .i64 0)
 (hb:∀(j:Nat) x τ β,l[j]? =some x->(j:Int)<(l.length:Int)->IntKind.i64.wrap ((j:Int)+1)=((j+1:Nat):Int)->τ i= .int .i64 j->Hid (p x=true->A=true)->
  cD P C c (dM (LN M MB σ bx fun τ' _=>τ' i= .int .i64 ((j+1:Nat):Int)/\p x=false) Q) (bc M τ σ) (bc MB β bx))
 (he:∀τ β,¬(l.length:Int)<(l.length:Int)->τ i= .int .i64 l.length->A=false->cD P C c (dM (fun _ _=>False) Q) (bc M τ σ) (bc MB β bx)):cD P C (.loop c) Q σ bx:=by
 refine gR l (p:=fun x=> !p x) (A:= !A) (by rw[<-hA,List.any_eq_not_all_not,Bool.not_not]) i M MB hl h0 (fun j x τ β hx h1 h2 h3 h4=>?_) fun τ β h1 h2 h3=>he τ β h1 h2 (by simpa using h3);refine lL (fun e σ2 bK h=>?_) (hb j x τ β hx h1 h2 h3 (by have:=h4.out;simpa[Hid]using this));cases e with
 |normal=>exact⟨h.1,h.2.1,h.2.2.1,by simp[h.2.2.2]⟩
 |_=>exact h
def vL{α:Type}(l:List α){p:α->Bool}{A:Option Nat}(hA:l.findIdx? p=A)(i:Nat)(M MB:List (Nat×Nat))(hl:Lm l)(h0:σ i= .int .i64 0)
 (hb:∀(j:Nat) x τ β,l[j]? =some x->(j:Int)<(l.length:Int)->IntKind.i64.wrap ((j:Int)+1)=((j+1:Nat):Int)->τ i= .int .i64 j->Hid (p x=true->A=some j)->
  cD P C c (dM (LN M MB σ bx fun τ' _=>τ' i= .int .i64 ((j+1:Nat):Int)/\p x=false) Q) (bc M τ σ) (bc MB β bx))
 (he:∀τ β,¬(l.length:Int)<(l.length:Int)->τ i= .int .i64 l.length->A=none->cD P C c (dM (fun _ _=>False) Q) (bc M τ σ) (bc MB β bx)):cD P C (.loop c) Q σ bx:=by
 subst hA;refine bW l M MB (fun j τ _=>τ i= .int .i64 j/\∀k x,k<j->l[k]? =some x->p x=false) hl ⟨h0,fun k x hk=>by omega⟩ (fun j x τ β hx h1 h2 hi=>?_) fun τ β hn hi=>he τ β hn hi.1 ?_
 ·refine lL (fun e σ2 bK h=>?_) (hb j x τ β hx h1 h2 hi.1 fun h=>?_)
  ·cases e with
   |normal=>
    refine⟨h.1,h.2.1,h.2.2.1,fun k y hk hy=>?_⟩;by_cases hkj:k=j
    ·subst hkj;rw[hx]at hy;injection hy with hy;subst hy;exact h.2.2.2
    ·exact hi.2 k y oM hy
   |_=>exact h
  ·rw[List.findIdx?_eq_some_iff_getElem];obtain⟨g1,g2⟩:=gS.1 hx;refine⟨g1,by rw[g2];exact h,fun k hk=>by rw[hi.2 k _ hk (gE oM)];simp⟩
 ·rw[List.findIdx?_eq_none_iff];intro x hx;obtain⟨k,hk,rfl⟩:=List.getElem_of_mem hx;exact hi.2 k _ hk (gE hk)
def py{α S:Type}(l:List α)(step:S->α->Option S)(s0:S){A:Option S}(hA:l.foldlM step s0=A)(i:Nat)(M MB:List (Nat×Nat))(I:Nat->S->Env->ae->Prop)(hl:Lm l)(h0:σ i= .int .i64 0)(h1:I 0 s0 σ bx)
 (hb:∀(j:Nat) x s τ β,l[j]? =some x->(j:Int)<(l.length:Int)->IntKind.i64.wrap ((j:Int)+1)=((j+1:Nat):Int)->τ i= .int .i64 j->I j s τ β->Hid (step s x=none->A=none)->
  cD P C c (dM (LN M MB σ bx fun τ' β'=>τ' i= .int .i64 ((j+1:Nat):Int)/\∃s',step s x=some s'/\I (j+1) s' τ' β') Q) (bc M τ σ) (bc MB β bx))
 (he:∀s τ β,¬(l.length:Int)<(l.length:Int)->τ i= .int .i64 l.length->I l.length s τ β->A=some s->cD P C c (dM (fun _ _=>False) Q) (bc M τ σ) (bc MB β bx)):cD P C (.loop c) Q σ bx:=by
 subst hA;have key:∀j x s,l[j]? =some x->(l.take j).foldlM step s0=some s->(l.take (j+1)).foldlM step s0=step s x/\(step s x=none->l.foldlM step s0=none):=fun j x s hx hs=>by
  refine⟨by rw[List.take_add_one,hx,Option.toList_some,List.foldlM_append,hs];simp,fun h=>?_⟩;rw[<-List.take_append_drop j l,List.foldlM_append,hs];rw[List.drop_eq_getElem_cons (gS.1 hx).1,(gS.1 hx).2];simp[h]
 refine bW l M MB (fun j τ β=>τ i= .int .i64 j/\∃s,(l.take j).foldlM step s0=some s/\I j s τ β) hl ⟨h0,s0,by simp,h1⟩ (fun j x τ β hx h1 h2 hi=>?_) fun τ β hn hi=>?_
 ·obtain⟨h3,s,h4,h5⟩:=hi;refine lL (fun e σ2 bK h=>?_) (hb j x s τ β hx h1 h2 h3 h5 (key j x s hx h4).2);cases e with
  |normal=>obtain⟨q1,q2,q3,s',q4,q5⟩:=h;exact⟨q1,q2,q3,s',by rw[(key j x s hx h4).1,q4],q5⟩
  |_=>exact h
 ·obtain⟨h3,s,h4,h5⟩:=hi;rw[tL]at h4;exact he s τ β hn h3 h5 h4
abbrev h_(ts:List Nat):List (Nat×Nat):=ts.map fun t=>(t,t)
theorem Kp{ts:List Nat}{t:Nat}:dA (h_ ts) t=true<->t∈ts:=by
 induction ts with
 |nil=>simp[dA]
 |cons a ts ih=>
  simp only[mC,dA,Bool.or_eq_true,bA,decide_eq_true_eq,List.mem_cons,ih];exact⟨fun h=>h.imp (fun h=>by omega) id,fun h=>h.imp (fun h=>by omega) id⟩
theorem aS.mix{β:ae}{ts:List Nat}{e esz:Nat}{x:D}{xs:List D}(h:aS β ts e esz x xs)(M:List (Nat×Nat))(hM:ts.all (dA M)=true:=by rfl):aS (bc M β bx) ts e esz x xs:=
 h.of fun t ht=>by simp[bc,List.all_eq_true.1 hM t ht]
def app{lo:Nat}{T:TypeId->TI}{e esz b size d:Nat}{ag ag':Bool}{z:List D}{x:D}{xs ys:List D}{K2:D×ae->Prop}(ts:List Nat)(hx:aS bx ts e esz x xs)
 (hk:∀x' β,aS β ts e esz x' (xs++ys)->K2 (x',bc (h_ ts) β bx)) (h1:(xs.length+ys.length) * b<=140737488355328:=by first|(simp;omega)|fail) (hz:(T e).zero.length=esz:=by simp[go_sem])
 (hd:d∈ts:=by decide) (h2:0<esz:=by omega) (h3:0<b:=by omega) (bH:∀t,t∈ts->lo<=t:=by simp):
 aM (fN lo T ⟨.slice e esz b ag,size,ag',z⟩ (some d) bx x ys) K2:=by
 by_cases hy:ys=[]
 ·subst hy;refine iD hx ?_;have:=hk x bx (by simpa using hx);rwa[<-di.mix di.refl]at this
 ·refine eJ hx hy hz h1 h2 h3 bH fun e' bx' hb hf=>?_;have:=hk (.bp d e' esz 0 (xs++ys).length) bx' (aS.mk hd hb);rwa[<-di.mix]at this;intro s hs;have hs:s∉ts:=fun h=>by rw[Kp.2 h]at hs;cases hs
  exact hf s (fun h=>hs (h▸hd)) hs
theorem dB{α:Type}(f:α->D):∀l:List α,D.aF (l.map f)=l.all fun x=>(f x).pure
 |[]=>rfl
 |x::l=>by simp only[mC,D.aF,List.all_cons,dB f l]
def vI{ts:List Nat}{e esz:Nat}{x d:D}{xs:List D}(hx:aS bx ts e esz x xs)(hd:d= .sl esz xs)(hp:D.aF xs=true:=by first|(simp[go_sem,dB];done)|fail):aM (bD bx x) fun r=>bN r d:=by
 obtain⟨r,h1,h2⟩:=hx.out hp;rw[h1,nV,hd];exact h2
def Mr{ts:List Nat}{e esz:Nat}{x y d:D}{xs:List D}(hx:aS bx ts e esz x xs)(hd:d= .aI [.sl esz xs,y])(hp:D.aF xs=true:=by first|(simp[go_sem,dB];done)|fail):aM (Option.map D.aI (lD (bD bx x) (some [y]))) fun r=>bN r d:=by
 obtain⟨r,h1,h2⟩:=hx.out hp;rw[h1,hd];exact lk h2 (.refl _)
def zz{P:Prop}(h:P:=by first|(simp[*];done)|(simp;omega)|(simp_all;done)|(simp_all;omega)|(refine congrArg D.bool ?_;rw[Bool.eq_iff_iff];simp[*];omega)|fail):P:=h
def gp(n:Int)(h1: -9223372036854775808<=n)(h2:n<=9223372036854775807):IntKind.i64.wrap n=n:=wrap_i64 h1 oM
def sw{P Q:Prop}(k:Q)(h:Q->P:=by intro k;simp(maxSteps:=1000000) (disch:=omega) only[go_sem,gp, *,-k];all_goals exact k):P:=h k
def sx{P:Prop}(h:P:=by first|(simp(maxSteps:=1000000) (disch:=omega) only[go_sem,gp, *];done)|fail):P:=h
def cdd{p:Prop}[Decidable p]{x y:Prop}(h1:p->x)(h2:¬p->y):iE (decide p) x y:=bh h1 h2
def cds{b:Bool}{x y:Prop}(h1:b=true->x)(h2:b=false->y):iE b x y:=aZ h1 h2
def zQ{p:Prop}(h:p:=by with_reducible first|exact trivial|exact .refl _|fail):p:=h
def zK{P Q:Prop}(k:Q)(h:Q->P:=by first|((with_reducible first|refine ciO ?_ ?_|refine ciT ?_ ?_);exact pr;exact pu)|((with_reducible first|refine ln ?_ ?_|refine lu ?_ ?_);exact ag;exact ag)|(intro k;simp(maxSteps:=1000000) (disch:=omega) only[go_sem,gp, *,-k];exact k)|(refine fun(_:True)=>?_;simp(maxSteps:=1000000) (disch:=omega) only[go_sem,gp, *];done)|fail):P:=h k
end Go.V
