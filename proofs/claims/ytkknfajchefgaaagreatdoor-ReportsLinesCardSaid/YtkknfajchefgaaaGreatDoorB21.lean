/- Lemmas on plain data and programs: part B21. -/
import Derived.Test.YtkknfajchefgaaaGreatDoorB20
import Derived.Test.YtkknfajchefgaaaGreatDoorB19
set_option linter.all false
set_option maxHeartbeats 8000000
set_option maxRecDepth 100000
namespace Go.V.St
open Go.Proofs Go.Proofs.Tryz Go.RowKit Go.V.Lx Go.V.Gr Go.V.Ty
structure P2 where
 a:Int
 b:Int
@[reducible] def P2.d(x:P2):D:=.agg [I x.a,I x.b]
section
variable {f:Nat} {caps:List D}
instance{p:ae->Bool}{q:ae->Prop}[h:∀x,Ct f (D.str x::caps) (q x) (.bool (p x))](l:List ae):Ct 82 [.sl 1 (l.map D.str),.fn (.func f) caps] (D.aH caps=true/\Lm l/\∀x∈l,q x) (I (j6 p l)):=by
 refine dp f82 [] [.tmp 4] fun pre=>?_;obtain⟨hp,hl,hq⟩:=pre;generalize hA:List.findIdx? p l=A;unfold j6;rw[hA];refine zW ?_;intros;refine F5 l hA 8 [(4,5),(8,18)] [] hl sG ?_ ?_
 ·intro j x τ β hx hj hw h8 cH;have hq:=hq x (aat hx);refine zW ?_;exact arJ
 ·exact asc
instance{p:ae->Bool}{q:ae->Prop}[h:∀x,Ct f (D.str x::caps) (q x) (.bool (p x))](l:List ae):Ct 44 [.sl 1 (l.map D.str),.fn (.func f) caps] (D.aH caps=true/\Lm l/\∀x∈l,q x) (.bool (l.any p)):=by
 refine dp f44 [] [.tmp 4] fun pre=>?_;obtain⟨hp,hl,hq⟩:=pre;rw[<-lk];exact zE
instance{p:Int->Bool}{q:Int->Prop}[h:∀x,Ct f (I x::caps) (q x) (.bool (p x))](l:List Int):Ct 149 [.sl 1 (l.map I),.fn (.func f) caps] (D.aH caps=true/\Lm l/\∀x∈l,q x) (I (j6 p l)):=by
 refine dp f149 [] [.tmp 4] fun pre=>?_;obtain⟨hp,hl,hq⟩:=pre;generalize hA:List.findIdx? p l=A;unfold j6;rw[hA];refine zW ?_;intros;refine F5 l hA 8 [(4,5),(8,18)] [] hl sG ?_ ?_
 ·intro j x τ β hx hj hw h8 cH;have hq:=hq x (aat hx);refine zW ?_;exact arJ
 ·exact asc
instance{p:Int->Bool}{q:Int->Prop}[h:∀x,Ct f (I x::caps) (q x) (.bool (p x))](l:List Int):Ct 80 [.sl 1 (l.map I),.fn (.func f) caps] (D.aH caps=true/\Lm l/\∀x∈l,q x) (.bool (l.any p)):=by
 refine dp f80 [] [.tmp 4] fun pre=>?_;obtain⟨hp,hl,hq⟩:=pre;rw[<-lk];exact zE
instance{p:aV->Bool}{q:aV->Prop}[h:∀x,Ct f (aV.d x::caps) (q x) (.bool (p x))](l:List aV):Ct 197 [.sl 14 (l.map aV.d),.fn (.func f) caps] (D.aH caps=true/\Lm l/\∀x∈l,q x) (I (j6 p l)):=by
 refine dp f197 [] [.tmp 4] fun pre=>?_;obtain⟨hp,hl,hq⟩:=pre;generalize hA:List.findIdx? p l=A;unfold j6;rw[hA];refine zW ?_;intros;refine F5 l hA 8 [(4,5),(8,18)] [] hl sG ?_ ?_
 ·intro j x τ β hx hj hw h8 cH;have hq:=hq x (aat hx);refine zW ?_;exact arJ
 ·exact asc
end
end Go.V.St
namespace Go.V.St
open Go.Proofs Go.Proofs.Tryz Go.RowKit Go.V.Lx Go.V.Gr Go.V.Ty
def A3:Nat->ae->List Int×Bool
 |0,_=>([],false)
 |n+1,s=>if s=[]then([],false)else if nS s then([],true)else(((dW s).1:Int)::(A3 n (s.drop (dW s).2)).1,(A3 n (s.drop (dW s).2)).2)
def fK(s:ae):List Int×Bool:=A3 s.length s
theorem KT:∀ {n m:Nat} {s:ae},s.length<=n->n<=m->A3 m s=A3 n s
 |0,0,_,_,_=>rfl
 |0,m+1,s,h,_=>by obtain rfl:s=[]:=afq.1 oM;rfl
 |n+1,m+1,s,h,hm=>by
  by_cases hs:s=[]
  ·subst hs;rfl
  have hp:=mX hs;have hl:0<s.length:=aev.2 hs;simp only[A3];rw[KT (n:=n) (m:=m) awN oM]
def vb{s:ae}(h:s≠[]):fK s=if nS s then([],true)else(((dW s).1:Int)::(fK (s.drop (dW s).2)).1,(fK (s.drop (dW s).2)).2):=by
 have hp:=mX h;have hl:0<s.length:=aev.2 h;unfold fK;rw[<-KT (m:=s.length - 1) (aaN (s.drop (dW s).2).length) awN];obtain⟨k,hk⟩:∃k,s.length=k+1:=⟨s.length - 1,oM⟩
 simp_all[A3]
theorem wq:∀(n:Nat) (s:ae),s.length<=n->Dk s=if(fK s).2 then none else some (fK s).1
 |n,s,hn=>by
  by_cases hs:s=[]
  ·subst hs;rfl
  have hp:=mX hs;have hl:0<s.length:=aev.2 hs;obtain⟨m,rfl⟩:∃m,n=m+1:=⟨n - 1,oM⟩
  rw[PK hs,vb hs];cases nS s with
  |true=>rfl
  |false=>
   simp only[aew,aa_];rw[wq m _ awN]
   exact awN
instance(s:ae):Ct 144 [.str s] True (.aL [.int .i32 (dW s).1,I (dW s).2]):=⟨fun _=>Yn s⟩
abbrev xE:D:=.bK 228 (.agg [])
def Tu(s:ae):Option D:=if(fK s).2 then some xE else none
def Yl(s:ae):(dW s).1<=1114111:=by grind [dW,Lib.decodeN]
def WK(s:ae)(e0:Nat):xH prog 167 ⟨e0,1,1,9,[.str s]⟩ ((fK s).1.map fun n=>[I n]) (Tu s) 31:=by
 refine Gl mixed (fn:=f167) (tab:=[]) ?_ rfl rfl ar;refine Gm _ 29 rfl rfl rfl ar ?_;intro gs l e bx hk hz hb;refine zW ?_;intros;refine Uw (s,([]:List Int)) (fun g=>g.1.length) [(3,28)] (fun g τ β=>(β gs).sz=g.2.length/\(β gs).k=0/\β (gs+1)=⟨e,1,1,9,[.str g.1]⟩/\(fK s).1=g.2++(fK g.1).1/\(fK s).2=(fK g.1).2) ⟨hz,hk,hb,rfl,rfl⟩ ?_;rintro⟨t,acc⟩ τ β ⟨hz,hk,hb,hr,hp⟩;simp only at hz hk hb hr hp;have hP:Tu s=if(fK t).2 then some xE else none:=by unfold Tu;rw[hp]
 by_cases ht:t=[]
 ·subst ht;refine zW ?_;intros;simp[fK,A3]
 have:(0:Int)<(t.length:Int):=auF
 have hc:=vb ht;have h3:=mX ht;cases sD:nS t with
 |true=>
  rw[sD]at hc;simp only[nS,aas,aaH]at sD;have b1:((dW t).1:Int)=65533:=oM;have b2:((dW t).2:Int)<2:=oM;clear sD;rw[aaO rfl]at hc;exact zE
 |false=>
  have h2:=Qh ht sD;have hx3:=Yl t;have n1:¬gs=gs+1:=oM;have n2:¬gs+1=gs:=oM;rw[sD]at hc;simp only[aew,aa_]at hc;have key:¬(((dW t).1:Int)=65533/\((dW t).2:Int)<2):=by grind [nS]
  generalize hx:(dW t).1=x at *;generalize hm:(dW t).2=m at *;clear hP;repeat' first|exact zQ|with_reducible apply zJ<;>intro _|refine zK ?_
  ·exact awN
  all_goals
   refine wA rfl sG awg fun bx1=>⟨?_,?_⟩
   ·refine zW ?_;intros;exact⟨(t.drop m,acc++[(x:Int)]),awe,sI,rfl,awJ,rfl⟩
   ·refine zW ?_;intros
    exact awN
theorem Fp:∀(n:Nat) (s:ae),s.length<=n->(fK s).1.length<=s.length
 |n,s,hn=>by
  by_cases hs:s=[]
  ·grind [fK,A3]
  have hp:=mX hs;have hl:0<s.length:=aev.2 hs;obtain⟨m,rfl⟩:∃m,n=m+1:=⟨n - 1,oM⟩
  rw[vb hs];cases hb:nS s with
  |true=>simp
  |false=>
   have:=Qh hs hb;have:=Fp m (s.drop (dW s).2) awN
   exact awN
def ZO(s:ae)(bx:ab):az prog 100 8 [.str s] bx (fun d bx'=>d= .fn (.func 167) [.loc 9 ((bx 9).ep+1) 0 0]/\bx'=ah bx 9 ⟨(bx 9).ep+1,1,1,9,[.str s]⟩) (fun _ _=>False):=by
 refine fB 4 8 f100 [] [.tmp 2] ?_;exact zE
def X_(s:ae)(e:Nat)(bx:ab)(hb:bx 9=⟨e,1,1,9,[.str s]⟩)(hs:s.length<=4096):az prog 166 16 [.ak,.fn (.func 167) [.loc 9 e 0 0]] bx
 (fun d bx'=>(fK s).2=false/\aP bx' [27] 3 1 d ((fK s).1.map I)/\∀q,q<9->bx' q=bx q) (fun d bx'=>(fK s).2=true/\d=xE/\∀q,q<9->bx' q=bx q):=by
 refine fB 13 16 f166 [] [.tmp 4] ?_;have hlen:=Fp _ s (aaN _);refine zW ?_;intros;refine JC 167 9 e ⟨e,1,1,9,[.str s]⟩ _ _ 31 (fun n bx'=>∃x,bx' 18=⟨(bx 18).ep+1,1,1,98,[x]⟩/\aP bx' [27] 3 1 x (((fK s).1.take n).map I)/\∀q,q<9->bx' q=bx q) sG oM (by simp[go_sem,hb]) (WK s e) ?_ ?_ ?_
 ·refine zW ?_;intros;exact⟨_,rfl,.nil _ _ _ _,fun q hq=>by rw[aaO oM,aaw oM,aaw oM]⟩
 ·intro n it bx1 hi ⟨x,h18,hv,hq⟩;rw[aaZ,aav]at hi;obtain⟨y,hy,rfl⟩:=hi;have hn:n<(fK s).1.length:=(aaL.1 hy).1;rw[iD oM]at h18;replace hv:=hv.HU (fun t ht=>awN);replace hq:∀q,q<9->bx1 q=bx q:=fun q h=>by rw[<-hq q h,iD oM]
  have hf:=hv.facts;refine zW ?_;intros;refine app [27] hv (fun x' β cq=>?_) awe;have hf:=cq.facts;refine zW ?_;intros;refine⟨fun s h1 h2=>by rw[aaw oM,aaO oM,aaw oM],x',rfl,?_,fun q h=>awN⟩;rw[ae2,hy,akS,aeI];exact cq.of fun t ht=>by grind [bg,ah,an,aZ]
 ·intro bx1 ⟨x,h18,hv,hq⟩;rw[iD oM]at h18;replace hv:=hv.HU (fun t ht=>awN);replace hq:∀q,q<9->bx1 q=bx q:=fun q h=>by rw[<-hq q h,iD oM]
  rw[aa0,aaP]at hv;have hf:=hv.facts;unfold Tu;cases hp:(fK s).2 with
  |true=>
   simp only[abo,C_];repeat' first|exact zQ|with_reducible apply zJ<;>intro _|refine zK ?_
   exact hq
  |false=>
   simp only[aew,aa_,C_];repeat' first|exact zQ|with_reducible apply zJ<;>intro _|refine zK ?_
   exact hq
def UK(s:ae)(e:Nat)(bx:ab)(hb:bx 9=⟨e,1,1,9,[.str s]⟩)(hs:s.length<=4096):az prog 99 11 [.fn (.func 167) [.loc 9 e 0 0]] bx
 (fun d bx'=>(fK s).2=false/\aP bx' [27] 3 1 d ((fK s).1.map I)/\∀q,q<9->bx' q=bx q) (fun d bx'=>(fK s).2=true/\d=xE/\∀q,q<9->bx' q=bx q):=by
 refine fB 5 11 f99 [] [.tmp 2] ?_;refine zW ?_;intros;refine bj (X_ s e bx hb hs) rfl (fun d bx1 hq=>?_) (fun d bx1 hq=>?_)
 ·obtain⟨h1,h2,h3⟩:=hq;repeat' first|exact zQ|with_reducible apply zJ<;>intro _|refine zK ?_
  exact h3
 ·obtain⟨h1,h2,h3⟩:=hq;repeat' first|exact zQ|with_reducible apply zJ<;>intro _|refine zK ?_
  exact h3
variable {e2 e3:Nat} {x2 x3:D}
def EG(bx:ab)(h2:bx 2=⟨e2,1,1,98,[x2]⟩)(h3:bx 3=⟨e3,1,1,39,[x3]⟩):vM prog (dD prog) [] f98 11 [.loc 2 e2 0 0,.loc 3 e3 0 0] bx .ret fun m' bx'=>m'= .ret/\bx'=bx:=by
 refine iG (t:=5) _ _ 16 rfl rfl rfl ar ar (ah (ah (aM 0 [.loc 2 e2 0 0,.loc 3 e3 0 0]) 5 (.raw .nilIface)) 2 (.raw .nilIface)) ?_ ?_
 ·exact zE
 ·exact zE
def PI(bx:ab)(o2:x2.one=true)(o2:x3.one=true)(c2:∀c,ed x2 0 [c]=some c)(c3:∀c,ed x3 0 [c]=some c)(h2:bx 2=⟨e2,1,1,98,[x2]⟩)(h3:bx 3=⟨e3,1,1,39,[x3]⟩):
 vM prog (dD prog) [] f98 11 [.loc 2 e2 0 0,.loc 3 e3 0 0] bx (.cd xE) fun m' bx'=>m'= .ret/\bx' 2=⟨e2,1,1,98,[.ak]⟩/\bx' 3=⟨e3,1,1,39,[I 90]⟩:=by
 refine iG (t:=5) _ _ 16 rfl rfl rfl ar ar (ah (ah (aM 0 [.loc 2 e2 0 0,.loc 3 e3 0 0]) 5 xE) 2 xE) ?_ ?_
 ·exact zE
 ·exact zE
def Z_(s:ae):El prog (dD prog) [] f54 0 [.str s] (fun _=> .none) (fun d bx'=>∃r,aU bx' d=some r/\bA r (.aL [ints (iA s).1,I (iA s).2])) (fun _ _=>False):=by
 refine rp _ [.cell 2 98,.cell 3 39] 11 rfl rfl rfl ar ar ?_;repeat' first|exact zQ|with_reducible apply zJ<;>intro _|refine zK ?_
 ·refine bM _ (mY (EG _ rfl rfl)) fun m' aT hq=>?_;obtain⟨rfl,rfl⟩:=hq;refine zW ?_;intros;refine⟨_,rfl,?_⟩;rw[iA,aaO awj];exact vq (.nil _) (.refl _)
 refine ao (ZO s _) rfl fun d bx1 hq=>?_;obtain⟨rfl,rfl⟩:=hq;have hr:iA s=if(fK s).2 then([],90)else((fK s).1,0):=by
  rw[iA,aaw awj,wq _ s (aaN _)]
  exact awN
 refine zW ?_;intros;refine bj (UK s _ _ rfl oM) rfl (fun d bx1 hq=>?_) (fun d bx1 hq=>?_)
 ·obtain⟨h1,h2,h3⟩:=hq;have b2:=h3 2 oM;have b3:=h3 3 oM;simp only[ah,Bx.none,reduceIte,Nat.reduceEqDiff]at b2 b3;have hf:=h2.facts;refine zW ?_;intros;refine bM _ (mY (EG _ rfl rfl)) fun m' aT hq=>?_;obtain⟨rfl,rfl⟩:=hq;refine zW ?_;intros;obtain⟨r,g1,g2⟩:=(h2.of (bx':=ah (ah bx1 2 ⟨1,1,1,98,[d]⟩) 3 ⟨1,1,1,39,[I 0]⟩) (fun t ht=>awg)).out (by simp[go_sem,kI]);exact⟨_,by rw[g1];rfl,vq g2 (.refl _)⟩
 ·obtain⟨h1,rfl,h3⟩:=hq;have b2:=h3 2 oM;have b3:=h3 3 oM;simp only[ah,Bx.none,reduceIte,Nat.reduceEqDiff]at b2 b3;refine zW ?_;intros;refine bM _ (mY (PI _ rfl rfl (fun c=>sG) (fun c=>sG) b2 b3)) fun m' aT hq=>?_;obtain⟨rfl,g2,g3⟩:=hq;refine zW ?_;intros;exact⟨_,rfl,vq (.nil _) (.refl _)⟩
instance(s:ae):Ct 54 [.str s] True (.aL [ints (iA s).1,I (iA s).2]):=⟨fun _=>(SD (Z_ s)).to (fun _ _ h=>h) fun d' bx' h=>h⟩
def dG(s:ae):Bool:=decide ((1:Int)<=s.length)&&decide ((s.length:Int)<=64)&&decide ((iA s).2=0)&& !(iA s).1.any qD
instance(n:Int):Ct 150 [I n] True (.bool (qD n)):=⟨fun _=>Sk n⟩
instance(l:List D):Ct 151 [.sl 2 l] True (.fn (.func 203) [.bR (.sl 2 l) 0]):=by
 refine dp f151 [] [.tmp 2] fun pre=>?_;exact zE
abbrev F7(k:Int)(f:D):D:=.agg [I k,f]
abbrev Ma(l:List P2):D:=.fn (.func 203) [.bR (.sl 2 (l.map P2.d)) 0]
abbrev Ye:D:=.sl 2 [F7 1 (.fn (.func 150) []),F7 2 (Ma [⟨48,57⟩]),F7 3 (Ma [⟨65,90⟩,⟨97,122⟩,⟨192,214⟩,⟨216,246⟩,⟨248,591⟩,⟨880,1279⟩]),F7 4 (Ma [⟨1424,1983⟩])]
instance:Ct 81 [] True Ye:=by
 refine dp f81 [] [.tmp 0] fun pre=>?_;refine zW ?_;intros;exact .refl _
def Dl(s:ae):(iA s).1.length<=4096:=by
 unfold iA;split
 ·exact sI
 ·rw[wq _ s (aaN _)];have:=Fp _ s (aaN _)
  exact awN
instance(s:ae):Ct 43 [.str s] True (.bool (dG s)):=by
 refine dp f43 [] [.tmp 2] fun pre=>?_;have hl:=Dl s;unfold dG;generalize hA:List.any _ _=A;exact zF
end Go.V.St
