/- Journals: the program's records on sectors. -/
import Derived.Test.YtkgloohlmogakaaGreatDoorB28
import Derived.Test.YtkgloohlmogakaaGreatDoorB27
set_option linter.unusedSimpArgs false
set_option linter.unusedVariables false
set_option maxRecDepth 100000
namespace Go.V.Jn
open Go.Proofs Go.RowKit Go.V.Lx Go.V.Gr Go.V.Ty Go.V.St
@[go_sem] theorem zN0:aV []=[]:=rfl
@[go_sem] theorem zN1(lo:Nat):HG lo .nilsl=true:=rfl
@[go_sem] theorem zN2(lo s e z o n:Nat):HG lo (.osl s e z o n)=decide (lo<=s):=rfl
def bn(b:ah):Nat:=max 1 ((b.length+111) / 112)
def aS(l:List ah):Nat:=(l.map bn).sum
theorem qX(b:ah):1<=bn b:=by unfold bn;omega
theorem ym{l:List ah}{j:Nat}{x:ah}(h:l[j]? =some x):aS (l.take (j+1))=aS (l.take j)+bn x:=by rw[List.take_add_one,h];simp[aS]
theorem po(l:List ah)(j:Nat):aS (l.take j)<=aS l:=by
 have:aS l=aS (l.take j)+aS (l.drop j):=by rw[aS,aS,aS,<-List.sum_append,<-List.map_append,List.take_append_drop]
 omega
theorem kC(l:List ah):l.length<=aS l:=by
 induction l with
 |nil=>simp[aS]
 |cons b l ih=>have:=qX b;simp[aS]at *;omega
theorem Bk{l:List ah}{b:ah}(h:b∈l):b.length<=112 * aS l:=by
 induction l with
 |nil=>cases h
 |cons c l ih=>
  rcases List.mem_cons.1 h with rfl|h
  ·simp only[aS,List.map_cons,List.sum_cons,bn];omega
  ·have:=ih h;simp only[aS,List.map_cons,List.sum_cons]at *;omega
abbrev o0(l:List ah):Prop:=aS l<=1099511627776
instance(b:ah):Ct Tryz.prog 79 [bj b] (Lm b) (I (bn b)):=by unfold bn;infer_instance
instance(l:List ah):Ct Tryz.prog 80 [.sl 1 (l.map bj)] (o0 l) (I (aS l)):=by
 refine bm (fn:=Tryz.f80) [] [.tmp 2] fun pre=>?_;have hl:=kC l;repeat' first|exact zQ|with_reducible refine zJ (fun _=>?_) fun _=>?_|refine zK ?_|fail
 refine bO l [(2,2),(4,4),(7,15)] [] (fun j τ _=>τ 7=I j/\τ 2=I (aS (l.take j))) (by simp[Lm];omega) (by simp[go_sem,aS]) (fun j x τ β hx hj hw hi=>?_) fun τ β hn hi=>?_
 ·obtain⟨h7,h2⟩:=hi;have h3:=Bk (List.mem_of_getElem? hx);have h4:=ym hx;have h5:=po l (j+1);have h6:Lm x:=by simp[Lm];omega
  have h8:IntKind.i64.wrap ((aS (l.take j):Int)+(bn x:Int))=(aS (l.take (j+1)):Int):=by rw[iL _ oM oM];omega
  repeat' first|exact zQ|with_reducible refine zJ (fun _=>?_) fun _=>?_|refine zK ?_|fail
 ·obtain⟨h7,h2⟩:=hi;rw[List.take_length]at h2;repeat' first|exact zQ|with_reducible refine zJ (fun _=>?_) fun _=>?_|refine zK ?_|fail
def jV(j:fO):Bool:=decide (1<=j.many)&&decide (j.many<=4096)&&decide (0<=j.sync)&&decide (j.sync<=j.recs.length)&&decide ((aS j.recs:Int)<=j.many)
instance Sx(j:fO):Ct Tryz.prog 48 [j.d] (o0 j.recs) (I (if jV j then 0 else 1)):=by
 refine bm (fn:=Tryz.f48) [(1,[(4,2)])] [.tmp 2] fun pre=>?_;unfold jV;repeat' first|exact zQ|with_reducible refine zJ (fun _=>?_) fun _=>?_|refine zK ?_|fail
 all_goals (refine ab (congrArg I ?_);first|(rw[if_neg (by simp[*];try omega)];done)|(rw[if_pos (by simp[*];try omega)];done)|trace_state)
def tV(bx:ae)(t el esz:Nat)(x:D)(xs:List D):Prop:=(xs=[]/\x= .nilsl)\/(xs≠[]/\∃e,x= .osl t e esz 0 xs.length/\bx t=⟨e,1,esz,el,xs⟩)
theorem tV.nil(bx:ae)(t el esz:Nat):tV bx t el esz .nilsl []:=.inl ⟨rfl,rfl⟩
theorem tV.v{bx:ae}{t el esz:Nat}{x:D}{xs:List D}(h:tV bx t el esz x xs):aW bx [t] el esz x xs:=by
 rcases h with⟨rfl,rfl⟩|⟨_,e,rfl,h⟩
 ·exact .nil _ _ _ _
 ·exact .mk sI h
theorem Rv{bx:ae}{lo:Nat}{T:TypeId->TI}{e esz b size d:Nat}{ag ag':Bool}{z:List D}{x:D}{xs ys:List D}{K2:D×ae->Prop}(hx:tV bx d e esz x xs)
 (hk:∀x' β,tV (aY [(d,d)] β bx) d e esz x' (xs++ys)->K2 (x',aY [(d,d)] β bx)) (h1:(xs.length+ys.length) * b<=140737488355328) (hz:(T e).zero.length=esz:=by simp[go_sem])
 (hlo:lo<=d:=by omega) (h2:0<esz:=by omega) (h3:0<b:=by omega):
 aI (eh lo T ⟨.slice e esz b ag,size,ag',z⟩ (some d) bx x ys) K2:=by
 by_cases hy:ys=[]
 ·subst hy;refine eY hx.v ?_;have:=hk x bx (by simpa[mF]using hx);rwa[mF]at this
 ·refine eG hx.v hy hz h1 h2 h3 (by simpa using hlo) fun e' bx' hb hf=>?_;have hm:aY [(d,d)] bx' bx=bx':=(cd.mix fun s hs=>hf s (fun h=>by simp[cm,h]at hs) (fun h=>by simp at h;simp[cm,h]at hs)).symm;have:=hk (.osl d e' esz 0 (xs++ys).length) bx' (.inr ⟨by simp[hy],e',rfl,by rw[hm];exact hb⟩);rwa[hm]at this
@[go_sem] theorem Us{σ:Env}{bx:ae}(lo t:Nat)(h:t<1000000000)(hl:0<lo):pB lo t σ bx=if HG lo (σ t)=true then(bf bx (σ t)).map fun v=>(ao σ t v,cY bx (σ t))else none:=by
 have:¬lo=0:=oM;simp[pB,cB,h,this]
@[go_sem] theorem Tg(e ty:Nat)(s:ah):lx ⟨e,1,1,ty,aV s⟩ e 1 0 s.length=some (.sl 1 (aV s)):=cU _ _ _ _ _ _ (by decide) (by simp[aV]) (mL s)
def jS(b:ah):D:=if b=[]then .nilsl else bj b
def D6(p:ah×Nat):List D:=[I p.2,jS p.1]
theorem ox{l:List ah}{at_ last f n:Nat}{acc s:ah}(h:l[n]? =some s):cP l at_ last (f+1) n acc=if(fH s n&&(decide (pP s % 2=1)==decide (n=at_))&&decide (gen s=gen (l.getD at_ []))&&decide (last<=gen s))=true then
 (if 2<=pP s then some (acc++piece s,n+1)else cP l at_ last f (n+1) (acc++piece s))else none:=by
 rw[cP,h]
theorem jz{l:List ah}{f at_ last:Nat}:jy l (f+1) at_ last=match cP l at_ last (l.length - at_) at_ []with
 |none=>[]
 |some (b,n)=>(b,n)::jy l f n (gen (l.getD at_ [])):=rfl
theorem Kd{l:List ah}{f at_ last n:Nat}{acc:ah}(h:l.length<=n):cP l at_ last f n acc=none:=by
 cases f with
 |zero=>rfl
 |succ f=>rw[cP,List.getElem?_eq_none h]
abbrev MC(l:List ah):Prop:=l.length<=65535/\∀s∈l,s.length=128
set_option maxHeartbeats 4000000 in
theorem D8(l:List ah)(h:MC l):IV Tryz.prog (bK Tryz.prog) [(4000010,[(3,74)]),(6,[(15,14),(15,11)])] Tryz.f138 [.cref (.sl 1 (l.map bj)) 0] ((gk l).map D6):=by
 obtain⟨hl,hs⟩:=h;refine Ff _ 77 rfl rfl rfl aj ?_;intro gs yl bx hk hz;repeat' first|exact zQ|with_reducible refine zJ (fun _=>?_) fun _=>?_|refine zK ?_|fail
 refine uT (0,0,l.length,0) (fun g:Nat×Nat×Nat×Nat=>l.length - g.1) [(3,76)] (fun g τ β=>τ 3=I g.1/\τ 4= .int .u64 g.2.1/\(β gs).sz=g.2.2.2/\(β gs).k=0/\(gk l).drop g.2.2.2=jy l g.2.2.1 g.1 g.2.1/\g.1<=l.length/\l.length<=g.1+g.2.2.1) ⟨by simp[go_sem],by simp[go_sem],hz,hk,rfl,by simp,by simp⟩ ?_;rintro⟨a,last,f,m⟩ τ β ⟨h3,h4,hz,hk,hr,ha,hf⟩;simp only at h3 h4 hz hk hr ha hf;have hno:cP l a last (l.length - a) a []=none->(gk l).length<=m:=fun h=>by
  cases f with
  |zero=>rw[jy]at hr;simpa using hr
  |succ f=>rw[jz,h]at hr;simpa using hr
 repeat' first|exact zQ|with_reducible refine zJ (fun _=>?_) fun _=>?_|refine zK ?_|fail
 refine uT (a,([]:ah)) (fun g:Nat×ah=>l.length - g.1) [(3,7),(9,76)] (fun g τ β=>τ 3=I a/\τ 4= .int .u64 last/\τ 6=I g.1/\tV β (gs+1+61) 5 1 (τ 5) (aV g.2)/\(β gs).sz=m/\(β gs).k=0/\a<=g.1/\g.1<=l.length/\g.2.length<=128 * g.1/\cP l a last (l.length - a) a []=cP l a last (l.length - g.1) g.1 g.2) ⟨by simp[go_sem,h3],by simp[go_sem,h4],by simp[go_sem],by simp[go_sem];exact .nil _ _ _ _,hz,hk,Nat.le_refl _,ha,by simp,rfl⟩ ?_;rintro⟨n,acc⟩ τ' β' ⟨h3',h4',h6,hv,hz',hk',han,hn,hacc,hg⟩;simp only at h3' h4' h6 hv hz' hk' han hn hacc hg;generalize hv5:τ' 5=v5 at *;have hf5:=hv.v.facts;by_cases hnl:n<l.length
 ·obtain⟨s,hx⟩:∃s,l[n]? =some s:=⟨_,List.getElem?_eq_getElem hnl⟩
  obtain⟨sa,hxa⟩:∃s,l[a]? =some s:=⟨_,List.getElem?_eq_getElem oM⟩
  have hsl:=hs s (List.mem_of_getElem? hx);have hsa:=hs sa (List.mem_of_getElem? hxa);have hst:=ox (at_:=a) (last:=last) (f:=l.length - n - 1) (acc:=acc) hx;rw[show l.length - n - 1+1=l.length - n by omega,<-hg,show l.getD a []=sa by rw[List.getD_eq_getElem?_getD,hxa];rfl]at hst;have h10:=getD_some (s:=s) (j:=10) oM;have h11:=getD_some (s:=s) (j:=11) oM;have e1:gen s=num (s.take 4):=rfl;have e2:gen sa=num (sa.take 4):=rfl;have e3:pP s=(s.getD 10 0).toNat:=rfl;have e4:piece s=(s.drop 12).take (s.getD 11 0).toNat:=rfl;rw[e1,e2,e3,e4]at hst;have hgb:fH s n=true->(s.getD 11 0).toNat<=112/\(s.getD 10 0).toNat<=3:=fun h=>by
   rw[Cn]at h;simp only[Bool.and_eq_true,decide_eq_true_eq]at h;exact⟨h.1.1.1.1.1,h.1.1.1.1.2⟩
  replace hgb:Hid _:=hgb;have a1:=Le (s.getD 10 0);have a2:=Lf (s.getD 10 0);have hb:=(s.getD 11 0).toNat_lt;have hw:IntKind.i64.wrap ((s.getD 11 0).toNat:Int)=((s.getD 11 0).toNat:Int):=iL _ oM oM;generalize s.getD 10 0=A at *;generalize s.getD 11 0=B at *;have l1:(s.take 4).length<=8:=by simp;omega
  have l2:(sa.take 4).length<=8:=by simp;omega
  have hlt:(n:Int)<(l.length:Int):=oM;have q1:decide (A.toNat % 2=1)= !decide (((A.toNat % 2:Nat):Int)=0):=by rw[Bool.eq_iff_iff];simp;omega
  have q2:decide (n=a)=decide ((n:Int)=(a:Int)):=by rw[Bool.eq_iff_iff];simp;omega
  have q3:decide (num (s.take 4)=num (sa.take 4))=decide ((num (s.take 4):Int)=(num (sa.take 4):Int)):=by rw[Bool.eq_iff_iff];simp;omega
  have q4:decide (last<=num (s.take 4))= !decide ((num (s.take 4):Int)<(last:Int)):=by rw[Bool.eq_iff_iff];simp
  rw[q1,q2,q3,q4]at hst;replace hno:Hid _:=hno;clear e1 e2 e3 e4 hg q1 q2 q3 q4;cases hgd:fH s n with
  |false=>
   clear hgb;rw[hgd]at hst;replace hst:Hid _:=hst;repeat' first|exact zQ|with_reducible refine zJ (fun _=>?_) fun _=>?_|refine zK ?_|fail
   exact hno.out hst.out
  |true=>
   rw[hgd,Bool.true_and]at hst;obtain⟨hB,hA⟩:=hgb.out hgd;clear hgb;replace hst:Hid _:=hst;have c1:(12:Int)+B.toNat<=128:=oM;have c2:(12+(B.toNat:Int)).toNat - 12=B.toNat:=oM;replace hr:Hid _:=hr;repeat' first|exact zQ|with_reducible refine zJ (fun _=>?_) fun _=>?_|refine zK ?_|fail
   all_goals first|exact hno.out (by rw[hst.out,if_neg (by rw[‹((_:Bool)==_)=false›];simp)])|exact hno.out (by rw[hst.out,if_neg (by simp[*])])|skip
   have hst:=hst.out;rw[if_pos (by rw[Bool.and_eq_true,Bool.and_eq_true];exact⟨⟨‹((_:Bool)==_)=true›,by simp[*]⟩,by simp[*]⟩)]at hst;have hpl:(List.take B.toNat (s.drop 12)).length<=112:=by simp;omega
   generalize List.take B.toNat (s.drop 12)=pc at *;refine Rv hv (fun x' β'' hv'=>?_) (by simp[uE];try omega);rw[<-iE]at hv';have hf':=hv'.v.facts;have hw2:IntKind.i64.wrap ((n:Int)+1)=((n+1:Nat):Int):=aK oM;have hlo:gs+1<=gs+1+61:=oM;by_cases hA2:2<=A.toNat
   ·rw[if_pos hA2]at hst;have hA3:((A.toNat / 2 % 2 * 2:Nat):Int)=2:=oM;obtain⟨f',rfl⟩:∃f',f=f'+1:=⟨f - 1,by omega⟩
    have hr:=hr.out;rw[jz,hst]at hr;simp only at hr;have hm:((gk l).map D6)[m]? =some [I ((n+1:Nat):Int),jS (acc++pc)]:=by
     have:((gk l).drop m)[0]? =(gk l)[m]?:=by simp
     rw[hr]at this;rw[List.getElem?_map,<-this];rfl
    have hdr:(gk l).drop (m+1)=jy l f' (n+1) (gen (l.getD a [])):=by rw[<-List.drop_drop,hr];rfl
    rw[show gen (l.getD a [])=num (sa.take 4) by rw[List.getD_eq_getElem?_getD,hxa];rfl]at hdr;have hgs:aY [(gs+1+61,gs+1+61)] β'' β' gs=β' gs:=by simp[aY,cm];omega
    have he:(num (s.take 4):Int)=(num (sa.take 4):Int):=by assumption
    replace hst:Hid _:=hst;replace hr:Hid _:=hr;replace hdr:Hid _:=hdr;rcases hv' with⟨hv1,rfl⟩|⟨hv1,e,rfl,hv2⟩
    ·rw[jS,if_pos (by simpa[aV]using hv1)]at hm;repeat' first|exact zQ|with_reducible refine zJ (fun _=>?_) fun _=>?_|refine zK ?_|fail
     refine nH rfl sG (by rw[hgs,hz',hm]) fun bx1=>⟨?_,?_⟩
     ·repeat' first|exact zQ|with_reducible refine zJ (fun _=>?_) fun _=>?_|refine zK ?_|fail
      exact⟨(n+1,num (sa.take 4),f',m+1),by simp;omega,rfl,rfl,rfl,hdr.out,by omega,by simp;omega⟩
     ·repeat' first|exact zQ|with_reducible refine zJ (fun _=>?_) fun _=>?_|refine zK ?_|fail
    ·rw[jS,if_neg (by simpa[aV]using hv1)]at hm;have hv3:β'' (gs+1+61)=⟨e,1,1,5,aV (acc++pc)⟩:=by rw[<-hv2];simp[aY,cm]
     clear hv2;repeat' first|exact zQ|with_reducible refine zJ (fun _=>?_) fun _=>?_|refine zK ?_|fail
     refine nH rfl sG (by rw[show ∀x,(ao (aY [(gs+1+61,gs+1+61)] β'' β') (gs+1+61) x) gs=β' gs from fun x=>by rw[aA oM,hgs],hz',hm]) fun bx1=>⟨?_,?_⟩
     ·repeat' first|exact zQ|with_reducible refine zJ (fun _=>?_) fun _=>?_|refine zK ?_|fail
      exact⟨(n+1,num (sa.take 4),f',m+1),by simp;omega,rfl,rfl,rfl,hdr.out,by omega,by simp;omega⟩
     ·repeat' first|exact zQ|with_reducible refine zJ (fun _=>?_) fun _=>?_|refine zK ?_|fail
   ·rw[if_neg hA2]at hst;have hA3:((A.toNat / 2 % 2 * 2:Nat):Int)=0:=oM;replace hst:Hid _:=hst;repeat' first|exact zQ|with_reducible refine zJ (fun _=>?_) fun _=>?_|refine zK ?_|fail
    exact⟨(n+1,acc++pc),by simp;omega,rfl,hv',by rw[if_neg oM];exact hz',by rw[if_neg oM];exact hk',by omega,by omega,by simp;omega,by have:=hst.out;rwa[Nat.sub_sub]at this⟩
 ·have:¬(n:Int)<(l.length:Int):=oM;rw[Kd (n:=n) oM]at hg;have hno:=hno hg;repeat' first|exact zQ|with_reducible refine zJ (fun _=>?_) fun _=>?_|refine zK ?_|fail
theorem D7(l:List ah)(h:MC l):rH Tryz.prog 138 [.cref (.sl 1 (l.map bj)) 0] ((gk l).map D6) 78:=Fe mixed (D8 l h) rfl aj rfl
instance(l:List ah):Ct Tryz.prog 74 [.sl 1 (l.map bj)] True (.fn (.func 138) [.cref (.sl 1 (l.map bj)) 0]):=by
 refine bm (fn:=Tryz.f74) [] [.tmp 2] fun pre=>?_;repeat' first|exact zQ|with_reducible refine zJ (fun _=>?_) fun _=>?_|refine zK ?_|fail
inductive WL:List D->List D->Prop where
 |nil:WL [] []
 |cons {x y:D} {xs ys:List D} (h:bk x y) (hs:WL xs ys):WL (x::xs) (y::ys)
theorem WL.get{xs ys:List D}(h:WL xs ys):xs.length=ys.length/\∀(i:Nat) x y,xs[i]? =some x->ys[i]? =some y->bk x y:=by
 induction h with
 |nil=>exact⟨rfl,fun i x y h=>by simp at h⟩
 |cons h hs ih=>
  refine⟨by simp[ih.1],fun i x y hx hy=>?_⟩;cases i with
  |zero=>simp at hx hy;subst hx;subst hy;exact h
  |succ i=>exact ih.2 i x y (by simpa using hx) (by simpa using hy)
theorem pv{xs ys:List D}(h:WL xs ys):bk (.tup xs) (.tup ys):=.tup h.get.1 h.get.2
theorem fj{xs ys:List D}(h:WL xs ys):bk (.agg xs) (.agg ys):=.agg h.get.1 h.get.2
theorem wk{a b:D}(h:bk a b:=by first|((repeat' first|exact .refl _|exact bk.nil _|exact WL.nil|refine pv ?_|refine fj ?_|refine WL.cons ?_ ?_)<;>fail)|fail):bk a b:=h
def oG(n:Nat)(w:bA):Bool:=decide (0<=w.at_)&&decide (w.at_<n)&&decide (w.data.length=128)
def cG(d:bT):Bool:=decide (1<=d.secs.length)&&decide (d.secs.length<=4096)&&decide (d.pend.length<=4096)&&decide (-1<=d.left)&&decide (d.left<=65536)&&d.pend.all (oG d.secs.length)&&d.secs.all fun b=>decide (b.length=128)
def jd(d:bT):Bool:=cG d&& !d.stop
def hasB(d:bT)(a:Int):Bool:=decide (0<=a)&&decide (a<d.secs.length)
abbrev d0:bT:=⟨[],[],0,false⟩
abbrev okD(d:bT):Prop:=Lm d.secs/\Lm d.pend
instance(b:ah):Ct Tryz.prog 134 [bj b] True (.bool (decide (b.length=128))):=by
 refine bm (fn:=Tryz.f134) [] [.tmp 2] fun pre=>?_;repeat' first|exact zQ|with_reducible refine zJ (fun _=>?_) fun _=>?_|refine zK ?_|fail
 refine ab (congrArg D.bool ?_);rw[Bool.eq_iff_iff];simp;omega
instance(b:ah):Ct Tryz.prog 137 [bj b] True (.bool (!decide (b.length=128))):=by
 refine bm (fn:=Tryz.f137) [] [.tmp 2] fun pre=>?_;repeat' first|exact zQ|with_reducible refine zJ (fun _=>?_) fun _=>?_|refine zK ?_|fail
instance(w:bA)(n:Nat):Ct Tryz.prog 133 [w.d,.cref (I n) 0] True (.bool (!oG n w)):=by
 refine bm (fn:=Tryz.f133) [] [.tmp 3] fun pre=>?_;unfold oG;repeat' first|exact zQ|with_reducible refine zJ (fun _=>?_) fun _=>?_|refine zK ?_|fail
 all_goals (refine ab (congrArg D.bool ?_);rw[Bool.eq_iff_iff];simp[*];try omega)
theorem lJ{α:Type}(p:α->Bool)(l:List α):(l.any fun x=> !p x)= !l.all p:=by rw[List.any_eq_not_all_not];simp
instance R1(d:bT):Ct Tryz.prog 73 [d.d] (okD d) (I (if cG d then 0 else 40)):=by
 refine bm (fn:=Tryz.f73) [] [.tmp 2] fun pre=>?_;obtain⟨h1,h2⟩:=pre;repeat' first|exact zQ|with_reducible refine zJ (fun _=>?_) fun _=>?_|refine zK ?_|fail
 all_goals first|(refine ab (congrArg I ?_);rw[if_neg (by simp[cG];omega)];done)|skip
 refine Lq (ds':=[.sl 2 (d.pend.map bA.d),.fn (.func 133) [.cref (I d.secs.length) 0]]) (by simp[go_sem,qF,D.cells,D.aF,D.pure,D.one,iB,ao,cg,lv,I,Bx.none]) ?_;rw[lJ];have e2:=lJ (fun b:ah=>decide (b.length=128)) d.secs;repeat' first|exact zQ|with_reducible refine zJ (fun _=>?_) fun _=>?_|refine zK ?_|fail
 all_goals (refine ab (congrArg I ?_);unfold cG;first|(rw[if_pos (by simp[*];omega)];done)|(simp only[‹List.all d.secs _=false›,Bool.and_false,Bool.false_eq_true,if_false];done)|(simp only[‹List.all d.pend _=false›,Bool.and_false,Bool.false_and,Bool.false_eq_true,if_false];done)|trace_state)
instance(d:bT):Ct Tryz.prog 106 [d.d] (okD d) (.bool (jd d)):=by
 refine bm (fn:=Tryz.f106) [] [.tmp 2] fun pre=>?_;unfold jd;cases h:cG d;all_goals repeat' first|exact zQ|with_reducible refine zJ (fun _=>?_) fun _=>?_|refine zK ?_|fail
instance(d:bT)(a:Int):Ct Tryz.prog 159 [d.d,I a] True (.bool (hasB d a)):=by
 refine bm (fn:=Tryz.f159) [] [.tmp 4] fun pre=>?_;unfold hasB;repeat' first|exact zQ|with_reducible refine zJ (fun _=>?_) fun _=>?_|refine zK ?_|fail
 all_goals (refine ab (congrArg D.bool ?_);simp[*];done)
def rh(d:bT)(n:Int):bT×Int:=if jd d then(if 0<=n/\n<=65536 then({d with left:=n},0)else(d0,1))else(d0,40)
def m_(d:bT):bT:=⟨d.secs,[],-1,false⟩
instance(d:bT)(n:Int):Ct Tryz.prog 60 [d.d,I n] (okD d) (.tup [(rh d n).1.d,I (rh d n).2]):=by
 refine bm (fn:=Tryz.f60) [] [.cell 4 39,.tmp 5] fun pre=>?_;unfold rh;repeat' first|exact zQ|with_reducible refine zJ (fun _=>?_) fun _=>?_|refine zK ?_|fail
 all_goals first|exact wk|(rw[if_pos oM];exact wk)|(rw[if_neg oM];exact wk)
instance(d:bT):Ct Tryz.prog 61 [d.d] True (m_ d).d:=by
 refine bm (fn:=Tryz.f61) [] [.cell 2 39] fun pre=>?_;repeat' first|exact zQ|with_reducible refine zJ (fun _=>?_) fun _=>?_|refine zK ?_|fail
 exact wk
theorem tY{n:Nat}(h:n<4294967296):ca .and .u64 (n:Int) 4294967295=(n:Int):=by
 rw[show(4294967295:Int)=((4294967295:Nat):Int)from rfl,oP .u64 rfl (by simp[IntKind.bits];omega)];have:=Nat.and_two_pow_sub_one_eq_mod n 32;simp at this;rw[this,Nat.mod_eq_of_lt h]
theorem Eh{n:Nat}(h:n<4294967296):(n:Int).fdiv (2 ^ min 32 64)=0:=by rw[show(2:Int) ^ min 32 64=((4294967296:Nat):Int) by rfl,Int.fdiv_eq_ediv_of_nonneg _ oM];omega
instance(n:Nat):Ct Tryz.prog 197 [.int .u64 1,.int .u64 n] (n<4294967296) (.tup [.int .u64 0,.int .u64 n]):=by
 refine bm (fn:=Tryz.f197) [] [.tmp 4,.tmp 5] fun pre=>?_;have a1:=tY pre;have a2:=Eh pre;have a3:ca .and .u64 1 4294967295=1:=tY (n:=1) oM;have a4:(1:Int).fdiv (2 ^ min 32 64)=0:=Eh (n:=1) oM;have a5:ca .and .u64 0 4294967295=0:=tY (n:=0) oM;have a6:(0:Int).fdiv (2 ^ min 32 64)=0:=Eh (n:=0) oM;have w0:IntKind.u64.wrap 0=0:=rfl;have w1:IntKind.u64.wrap (n:Int)=n:=dZ rfl (by simp[IntKind.bits];omega);repeat' first|exact zQ|with_reducible refine zJ (fun _=>?_) fun _=>?_|refine zK ?_|fail
 simp only[Int.zero_mul,Int.one_mul,Int.mul_zero,Int.zero_add,Int.add_zero,a1,a2,a3,a4,a5,a6,w0,w1,ab]
instance(n:Nat):Ct Tryz.prog 132 [.int .u64 1,.int .u64 n] (n<4294967296) (.tup [.int .u64 0,.int .u64 n]):=by
 refine bm (fn:=Tryz.f132) [] [.tmp 4,.tmp 5] fun pre=>?_;repeat' first|exact zQ|with_reducible refine zJ (fun _=>?_) fun _=>?_|refine zK ?_|fail
def Lv(b:Bx)(e sz esz o n:Nat):Option (List D):=if sz=esz/\b.ep=e/\lv b.k/\b.sz=sz/\o+n<=b.es.length then some ((b.es.drop o).take n)else none
@[go_sem] theorem Ow(bx:ae)(esz t e sz o n:Nat):ff bx esz (.osl t e sz o n)=Lv (bx t) e sz esz o n:=ax
@[go_sem] theorem Vb(e sz ty o n:Nat)(es:List D):Lv ⟨e,1,sz,ty,es⟩ e sz sz o n=if o+n<=es.length then some ((es.drop o).take n)else none:=by simp[Lv,lv]
theorem H5{x z:D}{k n:Nat}(h:k<=n)(h0:0<k):List.take k (List.replicate k x++List.replicate (n - k) z)++List.take (n - k) (List.replicate k x)++List.drop (k+min k (n - k)) (List.replicate k x++List.replicate (n - k) z)=List.replicate (k+min k (n - k)) x++List.replicate (n - (k+min k (n - k))) z:=by
 rw[List.take_append_of_le_length sI,List.take_of_length_le sI,List.take_replicate,List.drop_append,List.drop_of_length_le sI,List.drop_replicate,List.nil_append,List.length_replicate,List.replicate_append_replicate]
 congr 2<;>omega
instance(x:ah)(n:Nat):Ct Tryz.prog 72 [.sl 1 [bj x],I n] (1<=n/\n<=4096) (.sl 1 ((List.replicate n x).map bj)):=by
 refine bm (fn:=Tryz.f72) [] [.tmp 4] fun pre=>?_;obtain⟨h1,h2⟩:=pre;have w0:IntKind.u64.wrap (1:Int)=1:=rfl;have w1:IntKind.u64.wrap (n:Int)=n:=dZ rfl (by simp[IntKind.bits];omega);have w2:IntKind.u64.wrap ((1:Nat):Int)=1:=rfl;have c1:¬(n:Int)<0:=oM;have c2:¬(9223372036854775807:Int)<n:=oM;have c3:(0:Int)<=n:=oM;have c4:(n:Int)<=n:=oM;have c6:(List.replicate n D.nilsl).length=n:=List.length_replicate;have c5:(n:Int) * ((24:Nat):Int)<=140737488355328:=oM;repeat' first|exact zQ|with_reducible refine zJ (fun _=>?_) fun _=>?_|refine zK ?_|fail
 refine uU 1 (fun k=>n - k) [(8,8),(34,46)] [(30,30)] (fun k τ β=>1<=k/\k<=n/\τ 8=I k/\β 30=⟨1,1,1,71,List.replicate k (bj x)++List.replicate (n - k) .nilsl⟩) ?_ ?_
 ·refine⟨Nat.le_refl _,h1,by simp[go_sem];omega,?_⟩;obtain⟨m,rfl⟩:∃m,n=m+1:=⟨n - 1,by omega⟩
  simp[go_sem,List.drop_replicate]
 ·rintro k τ β ⟨k1,k2,k3,k4⟩;by_cases hk:k<n
  ·have d1:(k:Int)<n:=oM;have e1:(List.replicate k (bj x)++List.replicate (n - k) D.nilsl).length=n:=by simp;omega
   have e2:(List.replicate k (bj x)++List.replicate (n - k) D.nilsl).take k=List.replicate k (bj x):=by simp
   have e3:(List.replicate k (bj x)).all D.one=true:=by simp[D.one]
   have e4:=H5 (x:=bj x) (z:=.nilsl) (k:=k) (n:=n) k2 k1;have e5:(List.replicate k (bj x)).length=k:=List.length_replicate;have e6:IntKind.i64.wrap ((k:Int)+((min k (n - k):Nat):Int))=((k+min k (n - k):Nat):Int):=by rw[iL _ oM oM];omega
   have e7:k+(n - k)<=n:=oM;generalize List.replicate k (bj x)++List.replicate (n - k) D.nilsl=ES at *;repeat' first|exact zQ|with_reducible refine zJ (fun _=>?_) fun _=>?_|refine zK ?_|fail
   exact⟨k+min k (n - k),by omega,by omega,by omega,rfl,by rw[<-e4,e2]⟩
  ·obtain rfl:k=n:=oM;have d1:¬(k:Int)<k:=oM;rw[Nat.sub_self,List.replicate_zero,List.append_nil]at k4;have d2:lx ⟨1,1,1,71,List.replicate k (bj x)⟩ 1 1 0 k=some (.sl 1 (List.replicate k (bj x))):=cU _ _ _ _ _ _ (by decide) sI (by have:=cA bj (List.replicate k x);rw[List.map_replicate]at this;rw[this];simp[D.pure]);repeat' first|exact zQ|with_reducible refine zJ (fun _=>?_) fun _=>?_|refine zK ?_|fail
   rw[List.map_replicate];exact .refl _
@[go_sem] theorem Tw:List.replicate 128 (D.int .u8 0)=aV cb:=by simp[cb,aV]
@[go_sem] theorem QN(e ty n:Nat)(s:ah)(h:n=s.length):lx ⟨e,1,1,ty,aV s⟩ e 1 0 n=some (.sl 1 (aV s)):=cU _ _ _ _ _ _ (by decide) (by simp[aV,h]) (mL s)
@[go_sem] theorem Xp:((128:Int) * ((1:Nat):Int)<=140737488355328)=True:=by simp
def js(n:Int):bT×Int:=if 1<=n/\n<=4096 then(⟨List.replicate n.toNat cb,[],-1,false⟩,0)else(d0,1)
instance(n:Int):Ct Tryz.prog 35 [I n] True (.tup [(js n).1.d,I (js n).2]):=by
 refine bm (fn:=Tryz.f35) [(4000004,[(1,13)])] [.cell 2 39,.tmp 3] fun pre=>?_;unfold js;by_cases h:1<=n/\n<=4096
 ·rw[if_pos h];obtain⟨m,rfl⟩:∃m:Nat,n=m:=⟨n.toNat,by omega⟩
  have c1:¬(m:Int)<1:=oM;have c2:¬(4096:Int)<m:=oM;have c3:1<=m/\m<=4096:=oM;have c4:=mM;repeat' first|exact zQ|with_reducible refine zJ (fun _=>?_) fun _=>?_|refine zK ?_|fail
  all_goals first|exact wk|trace_state
 ·rw[if_neg h];by_cases c:n<1
  ·repeat' first|exact zQ|with_reducible refine zJ (fun _=>?_) fun _=>?_|refine zK ?_|fail
   exact wk
  ·have c2:(4096:Int)<n:=oM;repeat' first|exact zQ|with_reducible refine zJ (fun _=>?_) fun _=>?_|refine zK ?_|fail
   exact wk
@[go_sem] theorem RX{α:Type}(x:α)(xs:List α):(x::xs=[])=False:=by simp
@[go_sem] theorem JU(e esz b size:Nat)(ag ag':Bool)(z es:List D)(n:Int)(h0:0<=n)(h1:0<esz):dn ⟨.slice e esz b ag,size,ag',z⟩ (.clp esz es) n=(es[n.toNat]?).map fun d=> .cref d 0:=by simp[dn,h0,h1]
def cK(s:List ah)(l:List bA):List ah:=l.foldl (fun s w=>s.set w.at_.toNat w.data) s
theorem gZ(l:List bA):∀s:List ah,(cK s l).length=s.length:=by
 induction l with
 |nil=>intro s;rfl
 |cons w l ih=>intro s;show(cK (s.set _ _) l).length=_;rw[ih];simp
theorem FV{s:List ah}{l:List bA}{j:Nat}{w:bA}(h:l[j]? =some w):cK s (l.take (j+1))=(cK s (l.take j)).set w.at_.toNat w.data:=by rw[List.take_add_one,h];simp[cK]
theorem sA(s:List ah)(l:List bA)(y:D)(hy:y= .sl 2 (l.map bA.d)\/y= .clp 2 (l.map bA.d))(h0:0<s.length)(h1:s.length<=4096)(h2:l.length<=4096)(h3:∀w∈l,oG s.length w=true)(bx:ae):
 aU Tryz.prog 164 78 [.sl 1 (s.map bj),y] bx (fun d bx'=>∃e,d= .osl 109 e 1 0 s.length/\bx' 109=⟨e,1,1,71,(cK s l).map bj⟩/\∀q,q<78->bx' q=bx q) (fun _ _=>False):=by
 refine aG (fn:=Tryz.f164) (tab:=[]) (base:=78) mixed ?_ rfl aj rfl;refine aH _ [.tmp 4] 24 rfl rfl rfl aj ?_;have hz:s.map bj≠[]:=by intro h;rw[List.map_eq_nil_iff]at h;subst h;simp at h0
 rcases hy with rfl|rfl;all_goals
  repeat' first|exact zQ|with_reducible refine zJ (fun _=>?_) fun _=>?_|refine zK ?_|fail
  refine aB (GR 102 (s.map bj) (by simp;omega) _) rfl fun d bx1 hq=>?_;obtain⟨e,rfl,hb⟩:=hq.own hz;have hk:=hq.fy;rw[List.length_map];repeat' first|exact zQ|with_reducible refine zJ (fun _=>?_) fun _=>?_|refine zK ?_|fail
  refine bO l [(7,7),(12,22)] [(85,85),(109,109)] (fun j τ β=>τ 12=I j/\β 109=⟨e,1,1,71,(cK s (l.take j)).map bj⟩) (by simp[Lm];omega) ⟨by simp[go_sem],hb⟩ (fun j x τ β hx hj hw hi=>?_) fun τ β hn hi=>?_
  ·obtain⟨h12,h109⟩:=hi;have hwo:=h3 x (List.mem_of_getElem? hx);simp only[oG,Bool.and_eq_true,decide_eq_true_eq]at hwo;obtain⟨⟨w1,w2⟩,w3⟩:=hwo;have hl:(cK s (l.take j)).length=s.length:=gZ _ _;have hs:=FV (s:=s) hx;obtain⟨o,ho⟩:∃o,(cK s (l.take j))[x.at_.toNat]? =some o:=⟨_,List.getElem?_eq_getElem oM⟩
   generalize cK s (l.take j)=S at *;have hs2:(S.map bj).set x.at_.toNat (bj x.data)=(cK s (l.take (j+1))).map bj:=by rw[hs,List.map_set]
   clear h3 hq;repeat' first|exact zQ|with_reducible refine zJ (fun _=>?_) fun _=>?_|refine zK ?_|fail
  ·obtain⟨h12,h109⟩:=hi;rw[List.take_length]at h109;clear h3 hq;repeat' first|exact zQ|with_reducible refine zJ (fun _=>?_) fun _=>?_|refine zK ?_|fail
   exact⟨e,rfl,rfl,fun q h=>by rw[if_neg oM,if_neg oM]⟩
def mQ(b:ah):ah:=b++List.replicate (128 - b.length) 0
def oI(d:bT)(a:Int)(b:ah):bT×Int:=if jd d=true/\hasB d a=true then(if b.length<=128 then(if d.pend.length=4096 then(d0,2)else({d with pend:=d.pend++[⟨a,mQ b⟩]},0))else(d0,1))else(d0,40)
theorem vb{d:bT}(h:cG d=true):d.pend.length<=4096:=by simp[cG]at h;omega
instance R3(d:bT)(a:Int)(b:ah):Ct Tryz.prog 99 [d.d,I a,bj b] (okD d) (.tup [(oI d a b).1.d,I (oI d a b).2]):=by
 refine IU (fn:=Tryz.f99) (n:=46) [(4000009,[(6,40)]),(3000043,[])] [.cell 6 39,.tmp 7] fun pre=>?_;unfold oI;cases h1:jd d
 ·repeat' first|exact zQ|with_reducible refine zJ (fun _=>?_) fun _=>?_|refine zK ?_|fail
  all_goals first|exact wk|trace_state
 cases h2:hasB d a
 ·repeat' first|exact zQ|with_reducible refine zJ (fun _=>?_) fun _=>?_|refine zK ?_|fail
  all_goals first|exact wk|trace_state
 rw[if_pos sI];by_cases h3:b.length<=128
 rotate_left
 ·have c:(128:Int)<b.length:=oM;repeat' first|exact zQ|with_reducible refine zJ (fun _=>?_) fun _=>?_|refine zK ?_|fail
  all_goals first|exact wk|trace_state
 have c:¬(128:Int)<b.length:=oM;rw[if_pos h3];by_cases h4:d.pend.length=4096
 ·rw[if_pos h4];have c4:(d.pend.length:Int)=4096:=oM;clear h4;repeat' first|exact zQ|with_reducible refine zJ (fun _=>?_) fun _=>?_|refine zK ?_|fail
  all_goals first|exact wk|trace_state
 rw[if_neg h4];have c4:¬(d.pend.length:Int)=4096:=oM;have hp:d.pend.length<=4096:=vb (by simp[jd]at h1;exact h1.1);have hz:=mM;have hz2:(aV cb).length=128:=by simp[aV,hz]
 have hz3:min b.length 128=b.length:=oM;have hpre:(d.pend.map bA.d).length<=1048576/\D.aF (d.pend.map bA.d)=true:=⟨by simp;omega,by rw[cA];simp[D.pure,D.aF]⟩
 have hps:aV b++aV (List.drop b.length cb)=aV (mQ b):=by rw[<-iE,cb,List.drop_replicate,mQ]
 have c5:((d.pend.map bA.d).length+[D.agg [D.int .i64 a,D.sl 1 (aV (mQ b))]].length) * 32<=140737488355328:=by simp;omega
 have hpl:(mQ b).length=128:=by simp[mQ];omega
 have hout:lx ⟨1,1,2,144,d.pend.map bA.d++[D.agg [D.int .i64 a,D.sl 1 (aV (mQ b))]]⟩ 1 2 0 (d.pend.length+1)=some (.sl 2 ((d.pend++[bA.mk a (mQ b)]).map bA.d)):=by
  rw[show d.pend.map bA.d++[D.agg [D.int .i64 a,D.sl 1 (aV (mQ b))]]=(d.pend++[bA.mk a (mQ b)]).map bA.d by simp];exact cU _ _ _ _ _ _ (by decide) sI (by rw[cA];simp[D.pure,D.aF])
 clear h4;repeat' first|exact zQ|with_reducible refine zJ (fun _=>?_) fun _=>?_|refine zK ?_|fail
 exact⟨wk,wk⟩
def lD(d:bT):List ah:=
 let s:=cK d.secs (d.pend.take d.left.toNat);let w:=d.pend.getD d.left.toNat ⟨0,[]⟩
 s.set w.at_.toNat (w.data.take 64++(s.getD w.at_.toNat []).drop 64)
theorem ou:∀ {l:List bA} {s:List ah},(∀b∈s,b.length=128)->(∀w∈l,oG s.length w=true)->∀b∈cK s l,b.length=128
 |[],s,h,_,b,hb=>h b hb
 |w::l,s,h,hw,b,hb=>by
  refine ou (l:=l) (s:=s.set w.at_.toNat w.data) (fun x hx=>?_) (fun x hx=>by rw[List.length_set];exact hw x (List.mem_cons_of_mem _ hx)) b hb;rcases List.mem_or_eq_of_mem_set hx with h1|rfl
  ·exact h x h1
  ·have:=hw w (List.mem_cons_self ..);simp[oG]at this;exact this.2
def gT(d:bT):bT×Int:=if jd d=true then(if 0<=d.left/\d.left<d.pend.length then(⟨lD d,[],0,true⟩,40)else(⟨cK d.secs d.pend,[],if 0<=d.left then d.left - d.pend.length else d.left,false⟩,0))else(d0,40)
instance R2(d:bT):Ct Tryz.prog 101 [d.d] (okD d) (.tup [(gT d).1.d,I (gT d).2]):=by
 refine IU (fn:=Tryz.f101) (n:=78) [(4000010,[(5,58)]),(2000012,[]),(12,[(4,2)])] [.cell 2 39,.tmp 3] fun pre=>?_;unfold gT;cases h1:jd d
 ·repeat' first|exact zQ|with_reducible refine zJ (fun _=>?_) fun _=>?_|refine zK ?_|fail
  exact wk
 rw[if_pos rfl];have hd:cG d=true:=by simp[jd]at h1;exact h1.1
 have hp:=vb hd;have h2:(∀w∈d.pend,oG d.secs.length w=true)/\(∀b∈d.secs,b.length=128)/\0<d.secs.length/\d.secs.length<=4096/\ -1<=d.left/\d.left<=65536:=by
  simp[cG,List.all_eq_true]at hd;refine⟨?_,?_,?_⟩
  ·exact hd.1.2
  ·exact hd.2
  ·omega
 obtain⟨g1,g2,g3,g4,g5,g6⟩:=h2;clear hd;by_cases hl:0<=d.left/\d.left<d.pend.length
 ·rw[if_pos hl];have hc:cT (List.map bA.d d.pend).length (none:Option Int) (some d.left)=some (0,d.left.toNat):=by simp[cT];omega
  obtain⟨l1,l2⟩:=hl;obtain⟨w,hw⟩:∃w,d.pend[d.left.toNat]? =some w:=⟨_,List.getElem?_eq_getElem oM⟩
  have hwm:=g1 w (List.mem_of_getElem? hw);simp only[oG,Bool.and_eq_true,decide_eq_true_eq]at hwm;obtain⟨⟨w1,w2⟩,w3⟩:=hwm;have q1:(d.pend.take d.left.toNat).length<=4096:=by simp;omega
  have q2:∀x∈d.pend.take d.left.toNat,oG d.secs.length x=true:=fun x hx=>g1 x (List.mem_of_mem_take hx);have q3:=ou (l:=d.pend.take d.left.toNat) g2 q2;have q4:=gZ (d.pend.take d.left.toNat) d.secs;obtain⟨o,ho⟩:∃o,(cK d.secs (d.pend.take d.left.toNat))[w.at_.toNat]? =some o:=⟨_,List.getElem?_eq_getElem oM⟩
  have hol:=q3 o (List.mem_of_getElem? ho);have hT:lD d=(cK d.secs (d.pend.take d.left.toNat)).set w.at_.toNat (w.data.take 64++o.drop 64):=by simp[lD,List.getD_eq_getElem?_getD,hw,ho]
  rw[hT];clear g1 g2;repeat' first|exact zQ|with_reducible refine zJ (fun _=>?_) fun _=>?_|refine zK ?_|fail
  refine aB (sA d.secs (d.pend.take d.left.toNat) _ (.inr (by rw[List.map_take])) g3 g4 q1 q2 _) rfl fun d' bx1 hq=>?_;obtain⟨e,rfl,hb,hk⟩:=hq;have hk1:=hk 1 oM;have hk2:=hk 2 oM;simp only[ao,Bx.none,reduceIte,Nat.reduceEqDiff]at hk1 hk2;generalize cK d.secs (d.pend.take d.left.toNat)=S at *;clear q2 q3 hT hk;have hone:aV o≠[]:=fun h=>by have:=congrArg List.length h;simp[aV,hol]at this
  have hol2:(aV o).length=128:=by simp[aV,hol]
  repeat' first|exact zQ|with_reducible refine zJ (fun _=>?_) fun _=>?_|refine zK ?_|fail
  refine aB (zu 110 (aV o) oM _) rfl fun d' bx2 hq=>?_;obtain⟨e2,rfl,hb2⟩:=hq.own hone;have kp:=hq.fy;have k1:=kp 1 oM;have k2:=kp 2 oM;have k6:=kp 6 oM;have k9:=kp 109 oM;simp only[ao,reduceIte,Nat.reduceEqDiff,hk1,hb]at k1 k2 k6 k9;have r1:64<=(aV o).length:=oM;have r2:(w.data.take 64++o.drop 64).length=128:=by simp;omega
  have r3:aV (w.data.take 64)++aV (o.drop 64)=aV (w.data.take 64++o.drop 64):=(iE _ _).symm;have r4:(S.map bj).set w.at_.toNat (bj (w.data.take 64++o.drop 64))=(S.set w.at_.toNat (w.data.take 64++o.drop 64)).map bj:=by rw[List.map_set]
  have r5:lx ⟨e,1,1,71,(S.set w.at_.toNat (w.data.take 64++o.drop 64)).map bj⟩ e 1 0 d.secs.length=some (.sl 1 ((S.set w.at_.toNat (w.data.take 64++o.drop 64)).map bj)):=cU _ _ _ _ _ _ (by decide) (by simp[q4]) (by rw[cA];simp[D.pure]);have r6:min 128 64=64:=rfl;clear hq kp;repeat' first|exact zQ|with_reducible refine zJ (fun _=>?_) fun _=>?_|refine zK ?_|fail
  exact wk
 ·rw[if_neg hl];by_cases l1:0<=d.left
  ·have l2:¬d.left<d.pend.length:=oM;rw[if_pos l1];have l3:IntKind.i64.wrap (d.left - d.pend.length)=d.left - d.pend.length:=iL _ oM oM;clear hl g5;repeat' first|exact zQ|with_reducible refine zJ (fun _=>?_) fun _=>?_|refine zK ?_|fail
   refine fQ (.light 0 (.load 1 1 (.light 2 (.load 3 1 (.light 5 (.load 6 1 (.both 4 [1] (.light 7 (.both 8 [] .fin .stop)) .stop))))))) aj ?_;repeat' first|exact zQ|with_reducible refine zJ (fun _=>?_) fun _=>?_|refine zK ?_|fail
   refine aB (sA d.secs d.pend _ (.inl rfl) g3 g4 hp g1 _) rfl fun d' bx1 hq=>?_;obtain⟨e,rfl,hb,hk⟩:=hq;have hk1:=hk 1 oM;have hk2:=hk 2 oM;simp only[ao,Bx.none,reduceIte,Nat.reduceEqDiff]at hk1 hk2;have r5:lx ⟨e,1,1,71,(cK d.secs d.pend).map bj⟩ e 1 0 d.secs.length=some (.sl 1 ((cK d.secs d.pend).map bj)):=cU _ _ _ _ _ _ (by decide) (by simp[gZ]) (by rw[cA];simp[D.pure]);clear hk g1 g2;repeat' first|exact zQ|with_reducible refine zJ (fun _=>?_) fun _=>?_|refine zK ?_|fail
   exact wk
  ·rw[if_neg l1];clear hl g5;repeat' first|exact zQ|with_reducible refine zJ (fun _=>?_) fun _=>?_|refine zK ?_|fail
   refine fQ (.light 0 (.load 1 1 (.light 2 (.load 3 1 (.light 5 (.load 6 1 (.both 4 [1] (.light 7 (.both 8 [] .fin .stop)) .stop))))))) aj ?_;repeat' first|exact zQ|with_reducible refine zJ (fun _=>?_) fun _=>?_|refine zK ?_|fail
   refine aB (sA d.secs d.pend _ (.inl rfl) g3 g4 hp g1 _) rfl fun d' bx1 hq=>?_;obtain⟨e,rfl,hb,hk⟩:=hq;have hk1:=hk 1 oM;have hk2:=hk 2 oM;simp only[ao,Bx.none,reduceIte,Nat.reduceEqDiff]at hk1 hk2;have r5:lx ⟨e,1,1,71,(cK d.secs d.pend).map bj⟩ e 1 0 d.secs.length=some (.sl 1 ((cK d.secs d.pend).map bj)):=cU _ _ _ _ _ _ (by decide) (by simp[gZ]) (by rw[cA];simp[D.pure]);clear hk g1 g2;repeat' first|exact zQ|with_reducible refine zJ (fun _=>?_) fun _=>?_|refine zK ?_|fail
   exact wk
end Go.V.Jn
