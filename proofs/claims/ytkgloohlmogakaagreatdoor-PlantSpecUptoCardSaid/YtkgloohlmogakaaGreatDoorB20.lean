/- Lemmas on plain data and programs: part B20. -/
import Derived.Test.YtkgloohlmogakaaGreatDoorB11
set_option linter.all false
set_option maxHeartbeats 8000000
namespace Go.V
open Go.Proofs Go.Proofs.Tryz Go.RowKit
class Ct(f:Nat)(ds:List D)(pre:outParam Prop)(d:outParam D):Prop where
 h:pre->ao prog f ds d
abbrev Lm{α:Type}(l:List α):Prop:=l.length<=140737488355328
variable {tab:List (Nat×List (Nat×Nat))} {base bk lo:Nat} {yl:Option (List (List D)×Nat×Nat)} {pn df:Bool} {tb:FuncId->Nat->List D->ae->(D->ae->Prop)->(D->ae->Prop)->Prop} {it:FuncId->List D->List (List D)->Nat->Prop} {ib:FuncId->Bx->List (List D)->Option D->Nat->Prop} {P:Program} {bx:ae} {f:Nat} {ds:List D} {K2:Cl->D->ae->Prop} {pre:Prop} {d:D}
def pr{p:Prop}(h:p:=by first|exact True.intro|assumption|omega|(simp(disch:=omega) [*];done)|exact⟨by first|assumption|rfl|(simp[go_sem];done)|fail,by first|assumption|omega|fail,by first|assumption|(intros;exact True.intro)|(simp[*];done)|fail⟩|fail):p:=h
def pu(h:D.aF ds=true:=by first|(simp[go_sem];done)|(simp[go_sem, *];done)|fail):D.aF ds=true:=h
def ciO[h:Ct f ds pre d](h1:pre)(hp:D.aF ds=true)(hk:K2 .n d bx):fz ⟨cJ prog,tab,base,bk,lo,yl,pn,df⟩ f ds bx K2:=av (h.h h1) hp hk
def ciT[h:Ct f ds pre d](h1:pre)(hp:D.aF ds=true)(hk:K2 .n d bx):fz ⟨⟨(cJ prog).to,tb,it,ib⟩,tab,base,bk,lo,yl,pn,df⟩ f ds bx K2:=av (h.h h1) hp hk
def U4{ds':List D}(ho:dn bx ds=some ds')[h:Ct f ds' pre d](hk:K2 .ra d bx)(h1:pre:=by exact pr)(hb:d.bare=true:=by first|rfl|(simp[go_sem];done)|fail):fz ⟨cJ prog,tab,base,bk,lo,yl,pn,df⟩ f ds bx K2:=rj (h.h h1) ho hb hk
theorem bf{f:Nat}(fn:Func){ds:List D}{d:D}{c:Code}{n:Nat}{pre:Prop}(tab:List (Nat×List (Nat×Nat)))(rv:List ResultVar)
 (h:pre->cD prog ⟨cJ prog,tab,0,n,0,none,false,false⟩ c (L5 prog rv d) (bB 0 ds) (fun _=> .none))
 (hc:fn.body=some c:=by exact rfl) (hr:fn.results=rv.toArray:=by exact rfl) (hn:fn.ntmps=n:=by exact rfl) (bD:codeOk tab n c=true:=by kernel_rfl)
 (hf:prog.funcs[f]? =some fn:=by exact rfl) (eM:(fn.name== "runtime.NumGoroutine")=false:=by exact rfl) (hlen:decide (ds.length<=fn.ntmps)=true:=by kernel_rfl):Ct f ds pre d:=
 ⟨fun h1=>aw Lx.mixed (ax c rv n hc hr hn bD (h h1)) hf eM hlen⟩
def wz {f:FuncId} {fn:Func} {tab:List (Nat×List (Nat×Nat))} {base:Nat} {ds:List D} {m:RM} {Q:RM->ae->Prop} (h:yk prog (cJ prog) tab fn base ds bx m Q) (hf:prog.funcs[f]? =some fn:=by exact rfl) (eM:(fn.name== "runtime.NumGoroutine")=false:=by exact rfl) (hlen:decide (ds.length<=fn.ntmps)=true:=by kernel_rfl):BS prog f base ds bx m Q:=
 Nd Lx.mixed hf eM (of_decide_eq_true hlen) (sV prog) h
def GF {f:FuncId} {fn:Func} {tab:List (Nat×List (Nat×Nat))} {base:Nat} {ds:List D} {Q Qp:D->ae->Prop} (h:EF prog (cJ prog) tab fn base ds bx Q Qp) (hf:prog.funcs[f]? =some fn:=by exact rfl) (eM:(fn.name== "runtime.NumGoroutine")=false:=by exact rfl) (hlen:decide (ds.length<=fn.ntmps)=true:=by kernel_rfl):bj prog f base ds bx Q Qp:=
 Nc Lx.mixed hf eM (of_decide_eq_true hlen) (sV prog) h
@[go_sem] def ag_(bx:ae)(t:Nat)(es:List D):fM bx t es=ak bx t {bx t with es:=es}:=ay
def Hid(p:Prop):Prop:=p
theorem Hid.out{p:Prop}(h:Hid p):p:=h
def di:List (Nat×Nat)->Nat->Bool
 |[],_=>false
 |(a,b)::M,s=>(decide (a<=s)&&decide (s<=b))||di M s
@[go_sem] def Up{α:Type}(l:List α)(n:Nat):List.take (l.length - n) (l.drop n)=l.drop n:=List.take_of_length_le sI
attribute [go_sem] Nat.sub_zero
def bn{α:Type}(M:List (Nat×Nat))(τ σ:Nat->α):Nat->α:=fun s=>if di M s=true then τ s else σ s
@[go_sem] def Qw{α:Type}(τ σ:Nat->α):bn [] τ σ=σ:=by funext s;simp[bn,di]
@[go_sem] def N2{α:Type}(a b:Nat)(M:List (Nat×Nat))(τ σ:Nat->α)(s:Nat):bn ((a,b)::M) τ σ s=if a<=s then(if s<=b then τ s else bn M τ σ s)else bn M τ σ s:=by by_cases h1:a<=s<;>by_cases h2:s<=b<;>simp[bn,di,h1,h2]
def du{α:Type}(M:List (Nat×Nat))(σ' σ:Nat->α):Prop:=∀s,di M s=false->σ' s=σ s
theorem du.refl{α:Type}{M:List (Nat×Nat)}{σ:Nat->α}:du M σ σ:=fun _ _=>rfl
theorem du.nt{α:Type}{M:List (Nat×Nat)}{τ σ:Nat->α}:du M (bn M τ σ) σ:=fun s h=>by simp[bn,h]
theorem du.ae_{α:Type}{M:List (Nat×Nat)}{τ σ:Nat->α}:du M σ (bn M τ σ):=fun s h=>by simp[bn,h]
def du.ak{α:Type}{M:List (Nat×Nat)}{σ' σ:Nat->α}{t:Nat}{v:α}(ht:di M t=true)(h:du M σ' σ):du M (ak σ' t v) σ:=fun s hs=>by
 have:s≠t:=fun e=>by rw[e,ht]at hs;cases hs
 simp only[V.ak,if_neg this];exact h s hs
theorem du.ae9{α:Type}{M:List (Nat×Nat)}{τ σ' σ:Nat->α}(h:du M σ' σ):du M (bn M τ σ') σ:=fun s hs=>by simp[bn,hs,h s hs]
@[go_sem] def acs{α:Type}(M:List (Nat×Nat))(τ' τ σ:Nat->α):bn M τ' (bn M τ σ)=bn M τ' σ:=by funext s;unfold bn;split<;>rfl
def agc(M' M:List (Nat×Nat)):Bool:=M'.all fun p=>M.any fun q=>decide (q.1<=p.1)&&decide (p.2<=q.2)
theorem J1{M:List (Nat×Nat)}{s:Nat}:di M s=true<->∃p∈M,p.1<=s/\s<=p.2:=by
 induction M with
 |nil=>simp[di]
 |cons p M ih=>simp[di,ih]
theorem du.afa{α:Type}{M M':List (Nat×Nat)}{τ σ' σ:Nat->α}(hM:agc M' M=true)(h:du M σ' σ):du M (bn M' τ σ') σ:=fun s hs=>by
 have:di M' s=false:=by
  cases hm:di M' s with
  |false=>rfl
  |true=>
   obtain⟨p,hp,h1,h2⟩:=J1.1 hm;obtain⟨q,hq,h3⟩:=List.any_eq_true.1 (List.all_eq_true.1 hM p hp);simp only[bA,decide_eq_true_eq]at h3;rw[J1.2 ⟨q,hq,by omega,by omega⟩]at hs;cases hs
 simp[bn,this,h s hs]
theorem du.mix{α:Type}{M:List (Nat×Nat)}{σ' σ:Nat->α}(h:du M σ' σ):σ'=bn M σ' σ:=by
 funext s;unfold bn;split
 ·rfl
 ·rename_i hs;exact h s (by simpa using hs)
def rz{α:Type}(M:List (Nat×Nat))(σ:Nat->α):bn M σ σ=σ:=(du.mix (du.refl (M:=M) (σ:=σ))).symm
def LN(M MB:List (Nat×Nat))(σ:Env)(bx:ae)(I:Env->ae->Prop)(σ':Env)(bx':ae):Prop:=du M σ' σ/\du MB bx' bx/\I σ' bx'
def ag{α:Type}{M:List (Nat×Nat)}{σ' σ:Nat->α}(h:du M σ' σ:=by repeat (first|assumption|exact du.refl|exact du.nt|exact du.ae_|refine du.ak rfl ?_|refine du.ae9 ?_|refine du.afa rfl ?_)):du M σ' σ:=h
def ln{M MB:List (Nat×Nat)}{σ:Env}{bx:ae}{I:Env->ae->Prop}{σ':Env}{bx':ae}(h1:du M σ' σ)(h2:du MB bx' bx)(h:I σ' bx'):LN M MB σ bx I σ' bx':=⟨h1,h2,h⟩
variable {C:Calc} {Q:DX->Env->ae->Prop} {σ:Env} {c:Code}
def lC(M MB:List (Nat×Nat))(n:Nat)(I:Nat->Env->ae->Prop)(h0:I 0 σ bx)
 (hb:∀j τ β,j<n->I j τ β->cD P C c (dG (LN M MB σ bx (I (j+1))) Q) (bn M τ σ) (bn MB β bx))
 (he:∀τ β,I n τ β->cD P C c (dG (fun _ _=>False) Q) (bn M τ σ) (bn MB β bx)):cD P C (.loop c) Q σ bx:=by
 refine bo n (fun j σ1 bx1=>∃τ β,σ1=bn M τ σ/\bx1=bn MB β bx/\I j τ β) ⟨σ,bx,(rz ..).symm,(rz ..).symm,h0⟩ ?_ ?_
 ·rintro j σ1 bx1 hj ⟨τ,β,rfl,rfl,hi⟩;refine lD (fun e σ2 bK h=>?_) (hb j τ β hj hi);cases e<;>first|exact⟨σ2,bK,h.1.mix,h.2.1.mix,h.2.2⟩|exact h
 ·rintro σ1 bx1 ⟨τ,β,rfl,rfl,hi⟩;exact he τ β hi
def ri{G:Type}(g0:G)(μ:G->Nat)(M MB:List (Nat×Nat))(I:G->Env->ae->Prop)(h0:I g0 σ bx)
 (hb:∀g τ β,I g τ β->cD P C c (dG (LN M MB σ bx fun σ' bx'=>∃g',μ g'<μ g/\I g' σ' bx') Q) (bn M τ σ) (bn MB β bx)):cD P C (.loop c) Q σ bx:=by
 refine lC M MB (μ g0) (fun k τ β=>∃g,μ g+k<=μ g0/\I g τ β) ⟨g0,by omega,h0⟩ ?_ ?_
 ·rintro k τ β hk ⟨g,h1,h2⟩;refine lD (fun e σ2 bK h=>?_) (hb g τ β h2);cases e with
  |normal=>obtain⟨q1,q2,g',q3,q4⟩:=h;exact⟨q1,q2,g',by omega,q4⟩
  |_=>exact h
 ·rintro τ β ⟨g,h1,h2⟩;refine lD (fun e σ2 bK h=>?_) (hb g τ β h2);cases e with
  |normal=>obtain⟨q1,q2,g',q3,q4⟩:=h;omega
  |_=>exact h
def LU(M:List (Nat×Nat))(σ:Env)(I:Env->ae->Prop)(σ':Env)(bx':ae):Prop:=du M σ' σ/\I σ' bx'
def lu{M:List (Nat×Nat)}{σ:Env}{I:Env->ae->Prop}{σ':Env}{bx':ae}(h1 h2:du M σ' σ)(h:I σ' bx'):LU M σ I σ' bx':=⟨h1,h⟩
def B9{G:Type}(g0:G)(μ:G->Nat)(M:List (Nat×Nat))(I:G->Env->ae->Prop)(h0:I g0 σ bx)
 (hb:∀g τ β,I g τ β->cD P C c (dG (LU M σ fun σ' bx'=>∃g',μ g'<μ g/\I g' σ' bx') Q) (bn M τ σ) β):cD P C (.loop c) Q σ bx:=by
 refine bo (μ g0) (fun k σ1 bx1=>∃τ g,σ1=bn M τ σ/\μ g+k<=μ g0/\I g τ bx1) ⟨σ,g0,(rz ..).symm,by omega,h0⟩ ?_ ?_
 ·rintro k σ1 bx1 hk ⟨τ,g,rfl,h1,h2⟩;refine lD (fun e σ2 bK h=>?_) (hb g τ bx1 h2);cases e with
  |normal=>obtain⟨q1,g',q3,q4⟩:=h;exact⟨σ2,g',q1.mix,by omega,q4⟩
  |_=>exact h
 ·rintro σ1 bx1 ⟨τ,g,rfl,h1,h2⟩;refine lD (fun e σ2 bK h=>?_) (hb g τ bx1 h2);cases e with
  |normal=>obtain⟨q1,g',q3,q4⟩:=h;omega
  |_=>exact h
def cm{α:Type}(l:List α)(M MB:List (Nat×Nat))(I:Nat->Env->ae->Prop)(hl:Lm l)(h0:I 0 σ bx)
 (hb:∀(j:Nat) x τ β,l[j]? =some x->(j:Int)<(l.length:Int)->IntKind.i64.wrap ((j:Int)+1)=((j+1:Nat):Int)->I j τ β->cD P C c (dG (LN M MB σ bx (I (j+1))) Q) (bn M τ σ) (bn MB β bx))
 (he:∀τ β,¬(l.length:Int)<(l.length:Int)->I l.length τ β->cD P C c (dG (fun _ _=>False) Q) (bn M τ σ) (bn MB β bx)):cD P C (.loop c) Q σ bx:=by
 refine lC M MB l.length I h0 (fun j τ β hj hi=>?_) fun τ β hi=>he τ β oM hi;exact hb j l[j] τ β (gE hj) oM (aD oM) hi
def gR{α:Type}(l:List α){p:α->Bool}{A:Bool}(hA:l.all p=A)(i:Nat)(M MB:List (Nat×Nat))(hl:Lm l)(h0:σ i= .int .i64 0)
 (hb:∀(j:Nat) x τ β,l[j]? =some x->(j:Int)<(l.length:Int)->IntKind.i64.wrap ((j:Int)+1)=((j+1:Nat):Int)->τ i= .int .i64 j->Hid (p x=false->A=false)->
  cD P C c (dG (LN M MB σ bx fun τ' _=>τ' i= .int .i64 ((j+1:Nat):Int)/\p x=true) Q) (bn M τ σ) (bn MB β bx))
 (he:∀τ β,¬(l.length:Int)<(l.length:Int)->τ i= .int .i64 l.length->A=true->cD P C c (dG (fun _ _=>False) Q) (bn M τ σ) (bn MB β bx)):cD P C (.loop c) Q σ bx:=by
 subst hA;refine cm l M MB (fun j τ _=>τ i= .int .i64 j/\(l.take j).all p=true) hl ⟨h0,by simp⟩ (fun j x τ β hx h1 h2 hi=>?_) fun τ β hn hi=>he τ β hn hi.1 (by have:=hi.2;rwa[tL]at this);refine lD (fun e σ2 bK h=>?_) (hb j x τ β hx h1 h2 hi.1 fun h=>List.all_eq_false.2 ⟨x,mG hx,by simp[h]⟩);cases e with
 |normal=>
  refine⟨h.1,h.2.1,h.2.2.1,?_⟩;rw[List.take_add_one,hx];simp only[Option.toList_some,List.all_append,hi.2,List.all_cons,h.2.2.2,List.all_nil,Bool.and_self]
 |_=>exact h
def MJ{α:Type}(l:List α){p:α->Bool}{A:Bool}(hA:l.any p=A)(i:Nat)(M MB:List (Nat×Nat))(hl:Lm l)(h0:σ i= .int .i64 0)
 (hb:∀(j:Nat) x τ β,l[j]? =some x->(j:Int)<(l.length:Int)->IntKind.i64.wrap ((j:Int)+1)=((j+1:Nat):Int)->τ i= .int .i64 j->Hid (p x=true->A=true)->
  cD P C c (dG (LN M MB σ bx fun τ' _=>τ' i= .int .i64 ((j+1:Nat):Int)/\p x=false) Q) (bn M τ σ) (bn MB β bx))
 (he:∀τ β,¬(l.length:Int)<(l.length:Int)->τ i= .int .i64 l.length->A=false->cD P C c (dG (fun _ _=>False) Q) (bn M τ σ) (bn MB β bx)):cD P C (.loop c) Q σ bx:=by
 refine gR l (p:=fun x=> !p x) (A:= !A) (by rw[<-hA,List.any_eq_not_all_not,Bool.not_not]) i M MB hl h0 (fun j x τ β hx h1 h2 h3 h4=>?_) fun τ β h1 h2 h3=>he τ β h1 h2 (by simpa using h3);refine lD (fun e σ2 bK h=>?_) (hb j x τ β hx h1 h2 h3 (by have:=h4.out;simpa[Hid]using this));cases e with
 |normal=>exact⟨h.1,h.2.1,h.2.2.1,by simp[h.2.2.2]⟩
 |_=>exact h
def vk{α:Type}(l:List α){p:α->Bool}{A:Option Nat}(hA:l.findIdx? p=A)(i:Nat)(M MB:List (Nat×Nat))(hl:Lm l)(h0:σ i= .int .i64 0)
 (hb:∀(j:Nat) x τ β,l[j]? =some x->(j:Int)<(l.length:Int)->IntKind.i64.wrap ((j:Int)+1)=((j+1:Nat):Int)->τ i= .int .i64 j->Hid (p x=true->A=some j)->
  cD P C c (dG (LN M MB σ bx fun τ' _=>τ' i= .int .i64 ((j+1:Nat):Int)/\p x=false) Q) (bn M τ σ) (bn MB β bx))
 (he:∀τ β,¬(l.length:Int)<(l.length:Int)->τ i= .int .i64 l.length->A=none->cD P C c (dG (fun _ _=>False) Q) (bn M τ σ) (bn MB β bx)):cD P C (.loop c) Q σ bx:=by
 subst hA;refine cm l M MB (fun j τ _=>τ i= .int .i64 j/\∀k x,k<j->l[k]? =some x->p x=false) hl ⟨h0,fun k x hk=>by omega⟩ (fun j x τ β hx h1 h2 hi=>?_) fun τ β hn hi=>he τ β hn hi.1 ?_
 ·refine lD (fun e σ2 bK h=>?_) (hb j x τ β hx h1 h2 hi.1 fun h=>?_)
  ·cases e with
   |normal=>
    refine⟨h.1,h.2.1,h.2.2.1,fun k y hk hy=>?_⟩;by_cases hkj:k=j
    ·subst hkj;rw[hx]at hy;injection hy with hy;subst hy;exact h.2.2.2
    ·exact hi.2 k y oM hy
   |_=>exact h
  ·rw[List.findIdx?_eq_some_iff_getElem];obtain⟨g1,g2⟩:=gS.1 hx;refine⟨g1,by rw[g2];exact h,fun k hk=>by rw[hi.2 k _ hk (gE oM)];simp⟩
 ·rw[List.findIdx?_eq_none_iff];intro x hx;obtain⟨k,hk,rfl⟩:=List.getElem_of_mem hx;exact hi.2 k _ hk (gE hk)
def o_{α S:Type}(l:List α)(step:S->α->Option S)(s0:S){A:Option S}(hA:l.foldlM step s0=A)(i:Nat)(M MB:List (Nat×Nat))(I:Nat->S->Env->ae->Prop)(hl:Lm l)(h0:σ i= .int .i64 0)(h1:I 0 s0 σ bx)
 (hb:∀(j:Nat) x s τ β,l[j]? =some x->(j:Int)<(l.length:Int)->IntKind.i64.wrap ((j:Int)+1)=((j+1:Nat):Int)->τ i= .int .i64 j->I j s τ β->Hid (step s x=none->A=none)->
  cD P C c (dG (LN M MB σ bx fun τ' β'=>τ' i= .int .i64 ((j+1:Nat):Int)/\∃s',step s x=some s'/\I (j+1) s' τ' β') Q) (bn M τ σ) (bn MB β bx))
 (he:∀s τ β,¬(l.length:Int)<(l.length:Int)->τ i= .int .i64 l.length->I l.length s τ β->A=some s->cD P C c (dG (fun _ _=>False) Q) (bn M τ σ) (bn MB β bx)):cD P C (.loop c) Q σ bx:=by
 subst hA;have key:∀j x s,l[j]? =some x->(l.take j).foldlM step s0=some s->(l.take (j+1)).foldlM step s0=step s x/\(step s x=none->l.foldlM step s0=none):=fun j x s hx hs=>by
  refine⟨by rw[List.take_add_one,hx,Option.toList_some,List.foldlM_append,hs];simp,fun h=>?_⟩;rw[<-List.take_append_drop j l,List.foldlM_append,hs];rw[List.drop_eq_getElem_cons (gS.1 hx).1,(gS.1 hx).2];simp[h]
 refine cm l M MB (fun j τ β=>τ i= .int .i64 j/\∃s,(l.take j).foldlM step s0=some s/\I j s τ β) hl ⟨h0,s0,by simp,h1⟩ (fun j x τ β hx h1 h2 hi=>?_) fun τ β hn hi=>?_
 ·obtain⟨h3,s,h4,h5⟩:=hi;refine lD (fun e σ2 bK h=>?_) (hb j x s τ β hx h1 h2 h3 h5 (key j x s hx h4).2);cases e with
  |normal=>obtain⟨q1,q2,q3,s',q4,q5⟩:=h;exact⟨q1,q2,q3,s',by rw[(key j x s hx h4).1,q4],q5⟩
  |_=>exact h
 ·obtain⟨h3,s,h4,h5⟩:=hi;rw[tL]at h4;exact he s τ β hn h3 h5 h4
abbrev mj(ts:List Nat):List (Nat×Nat):=ts.map fun t=>(t,t)
theorem To{ts:List Nat}{t:Nat}:di (mj ts) t=true<->t∈ts:=by
 induction ts with
 |nil=>simp[di]
 |cons a ts ih=>
  simp only[mC,di,Bool.or_eq_true,bA,decide_eq_true_eq,List.mem_cons,ih];exact⟨fun h=>h.imp (fun h=>by omega) id,fun h=>h.imp (fun h=>by omega) id⟩
theorem aX.mix{β:ae}{ts:List Nat}{e esz:Nat}{x:D}{xs:List D}(h:aX β ts e esz x xs)(M:List (Nat×Nat))(hM:ts.all (di M)=true:=by rfl):aX (bn M β bx) ts e esz x xs:=
 h.of fun t ht=>by simp[bn,List.all_eq_true.1 hM t ht]
def app{lo:Nat}{T:TypeId->TI}{e esz b size d:Nat}{ag fk:Bool}{z:List D}{x:D}{xs ys:List D}{K2:D×ae->Prop}(ts:List Nat)(hx:aX bx ts e esz x xs)
 (hk:∀x' β,aX β ts e esz x' (xs++ys)->K2 (x',bn (mj ts) β bx)) (h1:(xs.length+ys.length) * b<=140737488355328:=by first|(simp;omega)|fail) (hz:(T e).zero.length=esz:=by simp[go_sem])
 (hd:d∈ts:=by decide) (h2:0<esz:=by omega) (h3:0<b:=by omega) (bF:∀t,t∈ts->lo<=t:=by simp):
 aK (f_ lo T ⟨.slice e esz b ag,size,fk,z⟩ (some d) bx x ys) K2:=by
 by_cases hy:ys=[]
 ·subst hy;refine iB hx ?_;have:=hk x bx (by simpa using hx);rwa[<-du.mix du.refl]at this
 ·refine gP hx hy hz h1 h2 h3 bF fun e' bx' hb hf=>?_;have:=hk (.bE d e' esz 0 (xs++ys).length) bx' (aX.mk hd hb);rwa[<-du.mix]at this;intro s hs;have hs:s∉ts:=fun h=>by rw[To.2 h]at hs;cases hs
  exact hf s (fun h=>hs (h▸hd)) hs
theorem cZ{α:Type}(f:α->D):∀l:List α,D.aF (l.map f)=l.all fun x=>(f x).pure
 |[]=>rfl
 |x::l=>by simp only[mC,D.aF,List.all_cons,cZ f l]
def xe{ts:List Nat}{e esz:Nat}{x d:D}{xs:List D}(hx:aX bx ts e esz x xs)(hd:d= .sl esz xs)(hp:D.aF xs=true:=by first|(simp[go_sem,cZ];done)|fail):aK (bz bx x) fun r=>bN r d:=by
 obtain⟨r,h1,h2⟩:=hx.out hp;rw[h1,pG,hd];exact h2
def L2{ts:List Nat}{e esz:Nat}{x y d:D}{xs:List D}(hx:aX bx ts e esz x xs)(hd:d= .aL [.sl esz xs,y])(hp:D.aF xs=true:=by first|(simp[go_sem,cZ];done)|fail):aK (Option.map D.aL (lU (bz bx x) (some [y]))) fun r=>bN r d:=by
 obtain⟨r,h1,h2⟩:=hx.out hp;rw[h1,hd];exact kW h2 (.refl _)
def zz{P:Prop}(h:P:=by first|(simp[*];done)|(simp;omega)|(simp_all;done)|(simp_all;omega)|(refine congrArg D.bool ?_;rw[Bool.eq_iff_iff];simp[*];omega)|fail):P:=h
def ik(n:Int)(h1: -9223372036854775808<=n)(h2:n<=9223372036854775807):IntKind.i64.wrap n=n:=wrap_i64 h1 oM
def sw{P Q:Prop}(k:Q)(h:Q->P:=by intro k;simp(maxSteps:=1000000) (disch:=omega) only[go_sem,ik, *,-k];all_goals exact k):P:=h k
def sx{P:Prop}(h:P:=by first|(simp(maxSteps:=1000000) (disch:=omega) only[go_sem,ik, *];done)|fail):P:=h
def cdd{p:Prop}[Decidable p]{x y:Prop}(h1:p->x)(h2:¬p->y):iC (decide p) x y:=bg h1 h2
def cds{b:Bool}{x y:Prop}(h1:b=true->x)(h2:b=false->y):iC b x y:=aY h1 h2
def zQ{p:Prop}(h:p:=by with_reducible first|exact trivial|exact .refl _|fail):p:=h
def zK{P Q:Prop}(k:Q)(h:Q->P:=by first|((with_reducible first|refine ciO ?_ ?_|refine ciT ?_ ?_);exact pr;exact pu)|((with_reducible first|refine ln ?_ ?_|refine lu ?_ ?_);exact ag;exact ag)|(intro k;simp(maxSteps:=1000000) (disch:=omega) only[go_sem,ik, *,-k];exact k)|(refine fun(_:True)=>?_;simp(maxSteps:=1000000) (disch:=omega) only[go_sem,ik, *];done)|fail):P:=h k
end Go.V
