/- Lemmas on plain data and programs: part B23. -/
import Derived.Test.YtkknfajchefgaaaGreatDoorB22
import Derived.Lib.ItoaMem
set_option linter.all false
set_option maxHeartbeats 8000000
set_option maxRecDepth 100000
namespace Go.V.Lx
open Go.Proofs Go.RowKit
def st:List UInt8->Step
 |[]=>none
 |c::r=>dj (c::r) 0 c
def Bz(i:Nat)(x:Tok):Tok:={x with a:=i}
theorem OH(p:List Int)(s:List UInt8)(i:Nat):gC p s i=gC p (s.drop i) 0:=by grind [gC]
theorem O3(x:Tok)(i n:Nat):ew x i n=(ew x 0 n).map fun p=>(i+p.1,p.2.map (Bz i)):=by grind [ew,Bz]
def Le{s:List UInt8}{i:Nat}{c:UInt8}(hx:s[i]? =some c):dj s i c=(st (s.drop i)).map fun p=>(i+p.1,p.2.map (Bz i)):=by
 have hi:=(aaL.1 hx).1;have hd:s.drop i=c::s.drop (i+1):=auo
 have e1:st (s.drop i)=dj (s.drop i) 0 c:=by rw[hd];rfl
 rw[e1];unfold dj;split
 ·simp_all[mS,OH]
 split
 ·grind [qW,OH,O3]
 split
 ·simp only[py];rw[OH [3] s i];cases Lib.atoiAll (gC [3] (s.drop i) 0)<;>grind [O3]
 split
 ·simp only[jb,agW];split
  ·exact awN
  ·rw[O3]
 ·rfl
theorem D9{r:List UInt8}{n:Nat}{l:List Tok}(h:st r=some (n,l)):0<n/\n<=r.length/\l.length<=1:=by
 cases r with
 |nil=>cases h
 |cons c r=>exact rT (s:=c::r) (i:=0) rfl h
inductive LX:List UInt8->Nat->List Tok->Prop
 |nil (i:Nat):LX [] i []
 |step {r:List UInt8} {i n:Nat} {l l':List Tok} (h:st r=some (n,l)) (k:LX (r.drop n) (i+n) l'):LX r i (l.map (Bz i)++l')
inductive LE:List UInt8->Nat->Nat->Prop
 |here {r:List UInt8} (i:Nat) (hr:r≠[]) (h:st r=none):LE r i i
 |step {r:List UInt8} {i n k:Nat} {l:List Tok} (h:st r=some (n,l)) (hk:LE (r.drop n) (i+n) k):LE r i k
theorem Fb{s:List UInt8}{i n:Nat}{l xs:List Tok}(h:st (s.drop i)=some (n,l)):jg s (s.length - i) i xs=jg s (s.length - (i+n)) (i+n) (xs++l.map (Bz i)):=by
 have h1:=(D9 h)
 rw[akh]at h1;have hi:i<s.length:=oM;simp_all[AJ,Le]
theorem Kv{s:List UInt8}{i:Nat}{xs:List Tok}(hi:i<s.length)(h:st (s.drop i)=none):jg s (s.length - i) i xs=([],(i:Int),30):=by simp_all[AJ,Le]
theorem CV{s:List UInt8}{i:Nat}{xs:List Tok}(hi:s.length<=i):jg s (s.length - i) i xs=(xs,0,0):=by rw[show s.length - i=0 by omega];rfl
theorem LX.go{s r:List UInt8}{i:Nat}{l:List Tok}(h:LX r i l):∀xs,r=s.drop i->jg s (s.length - i) i xs=(xs++l,0,0):=by
 induction h with
 |nil i=>
  intro xs hr;have:=aaR List.length hr
  grind [CV]
 |step h k ih=>
  grind [Fb,List.drop_drop]
theorem LE.go{s r:List UInt8}{i k:Nat}(h:LE r i k):∀xs,r=s.drop i->jg s (s.length - i) i xs=([],(k:Int),30):=by
 induction h with
 |here i hr h=>
  intro xs Kj;simp_all[Kv]
 |step h k ih=>
  intro xs hr;subst hr;rw[Fb h,ih _ (by rw[alS])]
theorem N2:∀(m:Nat) (r:List UInt8) (i:Nat),r.length<=m->(∃l,LX r i l)\/∃k,LE r i k
 |0,r,i,h=>by
  have:r=[]:=ae4 oM;subst this;exact .inl ⟨_,.nil i⟩
 |m+1,r,i,h=>by
  cases hr:st r with
  |none=>
   by_cases hn:r=[]
   ·subst hn;exact .inl ⟨_,.nil i⟩
   ·exact .inr ⟨i,.here i hn hr⟩
  |some p=>
   obtain⟨n,l⟩:=p;have h1:=D9 hr;rcases N2 m (r.drop n) (i+n) awN with⟨l',h⟩|⟨k,h⟩
   ·exact .inl ⟨_,.step hr h⟩
   ·exact .inr ⟨k,.step hr h⟩
theorem LX.lex{s:List UInt8}{l:List Tok}(hs:s.length<=65536)(h:LX s 0 l):jP s=(l,0,0):=by
 unfold jP;rw[aaw oM];exact(h.go (s:=s) [] rfl)
theorem LE.lex{s:List UInt8}{k:Nat}(hs:s.length<=65536)(h:LE s 0 k):jP s=([],(k:Int),30):=by
 unfold jP;rw[aaw oM];exact(h.go (s:=s) [] rfl)
def Wf(s:List UInt8)(hs:s.length<=65536):(∃l,LX s 0 l/\jP s=(l,0,0))\/∃k,LE s 0 k/\jP s=([],(k:Int),30):=by
 rcases N2 s.length s 0 (aaN _)with⟨l,h⟩|⟨k,h⟩
 ·exact .inl ⟨l,h,h.lex hs⟩
 ·exact .inr ⟨k,h,h.lex hs⟩
def UO(a b:Int):([a]:List Int).contains b=decide (b=a):=awN
def Bk{c:UInt8}{r:List UInt8}(h:cls c=1):st (c::r)=some (1+(r.takeWhile fun c=>decide (cls c=1)).length,[]):=by
 show dj (c::r) 0 c=_;unfold dj;rw[aaO h];unfold mS gC;rw[agW,aeB,aaO awK]
 exact awN
theorem Lc{r:List UInt8}{m n:Nat}{l:List Tok}(hm:m=(r.takeWhile fun c=>decide (cls c=1)).length)(h0:0<m)(h:st r=some (n,l)):n=m/\l=[]:=by
 cases r with
 |nil=>cases h
 |cons c r=>
  by_cases hc:cls c=1
  ·rw[Bk hc]at h;injection h with h;injection h with h1 h2;rw[aeB,aaO awF,aa5]at hm
   exact awN
  exact awy
theorem LX.space{c:UInt8}{r:List UInt8}{i:Nat}{l:List Tok}(hc:cls c=1)(h:LX r (i+1) l):LX (c::r) i l:=by
 obtain⟨m,hm⟩:∃m,m=(r.takeWhile fun c=>decide (cls c=1)).length:=⟨_,rfl⟩
 have hs:=Bk (r:=r) hc;rw[<-hm]at hs;have:LX (r.drop m) (i+1+m) l:=by
  by_cases h0:m=0
  ·exact awN
  ·cases h with
   |nil=>simp_all
   |step h k=>
    obtain⟨rfl,rfl⟩:=Lc hm oM h;exact k
 have:=LX.step (l':=l) (i:=i) hs awN;exact this
theorem LE.space{c:UInt8}{r:List UInt8}{i k:Nat}(hc:cls c=1)(h:LE r (i+1) k):LE (c::r) i k:=by
 obtain⟨m,hm⟩:∃m,m=(r.takeWhile fun c=>decide (cls c=1)).length:=⟨_,rfl⟩
 have hs:=Bk (r:=r) hc;rw[<-hm]at hs;have:LE (r.drop m) (i+1+m) k:=by
  by_cases h0:m=0
  ·exact awN
  ·cases h with
   |here _ hr hn=>
    cases r with
    |nil=>grind
    |cons c' r=>
     by_cases uS:cls c'=1<;>simp_all[Bk]
   |step h k=>
    obtain⟨rfl,rfl⟩:=Lc hm oM h;exact k
 exact LE.step (i:=i) hs awN
end Go.V.Lx
namespace Go.V.Lx
open Go.Proofs Go.RowKit
def adH{p:UInt8->Bool}(h:((List.range 256).all fun n=>p (UInt8.ofNat n))=true)(c:UInt8):p c=true:=by
 have:=aaI.1 h c.toNat (af_.2 (by have:=c.toNat_lt;omega));exact awy
theorem Mv(c:UInt8):decide (cls c=3)=sN c.toNat:=by
 have:=adH (p:=fun c=>decide (cls c=3)==sN c.toNat) avT c
 exact awN
theorem ad5:cls 10=1:=avT
theorem JD:cls 32=1:=avT
theorem sr(c:UInt8):sN c.toNat=true<->48<=c.toNat/\c.toNat<=57:=by simp[sN,aas,aaH];omega
def dv(acc:Nat):List UInt8->Nat
 |[]=>acc
 |c::r=>dv (10 * acc+(c.toNat - 48)) r
theorem Ss:∀(l:List UInt8) (acc:Nat),acc<=dv acc l
 |[],acc=>aaN _
 |c::r,acc=>adz oM (Ss r (10 * acc+(c.toNat - 48)))
def aea(c:UInt8):dv 0 [c]=c.toNat - 48:=(show 10 * 0+(c.toNat - 48)=c.toNat - 48 by omega)
theorem Il:∀(l:List UInt8) (acc:Nat) (c:UInt8),dv acc (l++[c])=10 * dv acc l+(c.toNat - 48)
 |[],acc,c=>rfl
 |x::r,acc,c=>Il r _ c
def kX(t:List UInt8):Bool:=t.all fun c=>sN c.toNat
theorem Oh(l:List UInt8):∀(acc:Nat),kX l=true->dv acc l<9223372036854775808->Lib.parseUint10 acc l= .ok (dv acc l):=by
 induction l with
 |nil=>intro acc _ _;rfl
 |cons c r ih=>
  intro acc h hb;simp only[kX,aep,aas]at h;have h1:=(sr c).1 h.1;have h2:=Ss r (10 * acc+(c.toNat - 48));have h3:=ih (10 * acc+(c.toNat - 48)) h.2 hb;have dQ:dv (10 * acc+(c.toNat - 48)) r<9223372036854775808:=hb;have e0:acc * 10=10 * acc:=aqh _ _;have e1:¬1844674407370955162<=acc:=oM;have e2:¬18446744073709551616<=acc * 10+(c.toNat - 48):=oM;unfold Lib.parseUint10;rw[aaO h1,aaw e1,aaw e2,e0];exact h3
theorem KM:∀(l:List UInt8) (acc u:Nat),kX l=true->Lib.parseUint10 acc l= .ok u->u=dv acc l
 |[],acc,u,_,h=>by simp only[Lib.parseUint10]at h;injection h with h;exact h.symm
 |c::r,acc,u,hf,h=>by
  simp only[kX,aep,aas]at hf;have h1:=(sr c).1 hf.1;simp only[Lib.parseUint10]at h;rw[aaO h1]at h;split at h
  ·exact awI
  split at h
  ·exact awI
  ·rw[aqh acc 10]at h;exact KM r _ u hf.2 h
def ah8{c:UInt8}(h:sN c.toNat=true):c.toNat≠43/\c.toNat≠45:=by grind [sr]
theorem Jw{t:List UInt8}(hn:t≠[])(hf:kX t=true):Lib.atoiAll t=Lib.signless (Lib.parseUint10 0 t):=by
 cases t with
 |nil=>grind
 |cons c r=>
  have h1:sN c.toNat=true:=by simp_all[kX]
  obtain⟨h43,h45⟩:=ah8 h1;rw[Lib.atoiAll_plain c r h43 h45];rfl
theorem MG:∀(u:Nat),1<=u->∃c r,Lib.decDigits u=c::r/\c≠48:=by
 intro u;induction u using Nat.strongRecOn with
 |_ u ih=>
  intro h1;by_cases h:u<10
  ·refine⟨_,_,Lib.decDigits_one h,fun h2=>?_⟩;have:=aaR UInt8.toNat h2;simp[UInt8.toNat_ofNat]at this;omega
  ·obtain⟨c,r,h2,h3⟩:=ih (u / 10) oM oM;refine⟨c,r++[UInt8.ofNat (48+u % 10)],?_,h3⟩;rw[Lib.decDigits,dif_neg h,h2];rfl
def lead(t:List UInt8):Bool:=decide (t.length=1)|| !(t.head? ==some 48)
theorem P9{c:UInt8}(h:48<=c.toNat/\c.toNat<=57):UInt8.ofNat (48+(c.toNat - 48))=c:=by rw[show 48+(c.toNat - 48)=c.toNat by omega,UInt8.ofNat_toNat]
theorem aeb{t:List UInt8}(hf:kX t=true)(hn:t≠[])(hl:(t.head? ==some 48)=false):1<=dv 0 t:=by
 cases t with
 |nil=>grind
 |cons x r=>
  have hx:=(sr x).1 (aaI.1 hf x sI);have:x.toNat≠48:=fun e=>by
   have:x=48:=UInt8.toNat_inj.1 e
   exact awN
  have h:=Ss r (10 * 0+(x.toNat - 48));have e:dv 0 (x::r)=dv (10 * 0+(x.toNat - 48)) r:=rfl;exact oM
def Ym{t:List UInt8}{c:UInt8}(h1:1<=dv 0 t)(h:48<=c.toNat/\c.toNat<=57)(ih:Lib.decDigits (dv 0 t)=t):Lib.decDigits (dv 0 (t++[c]))=t++[c]:=by
 rw[Il];generalize dv 0 t=u at h1 ih;have e1:(10 * u+(c.toNat - 48)) / 10=u:=oM;have e2:(10 * u+(c.toNat - 48)) % 10=c.toNat - 48:=oM;have e3:¬10 * u+(c.toNat - 48)<10:=oM;rw[Lib.decDigits,dif_neg e3,e1,e2,ih,P9 h]
theorem ad_(n:Nat):∀(t:List UInt8),t.length=n+1->kX t=true->lead t=true->Lib.decDigits (dv 0 t)=t:=by
 induction n with
 |zero=>
  intro t hn hf hl;obtain⟨c,rfl⟩:=alL.1 hn;simp only[kX,aep,agv,afN]at hf;have h:=(sr c).1 hf;have e:dv 0 [c]=c.toNat - 48:=(show 10 * 0+(c.toNat - 48)=c.toNat - 48 by omega)
  grind [Lib.decDigits_one,P9]
 |succ n ihn=>
  intro t hn hf hl;rcases List.eq_nil_or_concat t with rfl|⟨t',c,rfl⟩
  ·simp at hn
  ·rw[List.concat_eq_append]at hn hf hl⊢;rw[aaY,aa5,aeW]at hn;simp only[kX,List.all_append,aep,agv,afN,aas]at hf;have h:=(sr c).1 hf.2;have bh:t'≠[]:=awN
   have hh:(t'++[c]).head? =t'.head?:=by cases t'<;>grind
   have eh:(t'.head? ==some 48)=false:=by simp_all[lead]
   have ih:=ihn t' oM hf.1 (by grind [lead]);exact Ym (aeb hf.1 bh eh) h ih
theorem Q7{t:List UInt8}(hn:t≠[])(hf:kX t=true):Lib.itoa (dv 0 t:Int)=t<->lead t=true:=by
 rw[Lib.itoa_nonneg];constructor
 ·intro h;unfold lead;by_cases h1:dv 0 t=0
  ·grind [Lib.decDigits_one]
  ·obtain⟨c,r,h2,h3⟩:=MG (dv 0 t) oM
   exact awN
 ·intro h;have:0<t.length:=aev.2 hn;exact ad_ (t.length - 1) t oM hf h
def Th{s:List UInt8}{i:Nat}{c:UInt8}(hx:s[i]? =some c)(hc:cls c=3):py s i=if dv 0 (gC [3] s i)<=1099511627776/\lead (gC [3] s i)=true then some (i+(gC [3] s i).length,[⟨2,[],dv 0 (gC [3] s i),i⟩])else none:=by
 have hp:=Bd (p:=[3]) hx awF;have hf:kX (gC [3] s i)=true:=by grind [kX,gC,List.all_takeWhile,Mv]
 unfold py;generalize gC [3] s i=t at hp hf⊢;have hn:t≠[]:=aev.1 hp;rw[Jw hn hf];by_cases h:dv 0 t<=1099511627776
 ·rw[Oh t 0 hf oM];simp only[Lib.signless];rw[aaw oM];simp only[Q7 hn hf,h,true_and]
  grind [ew,cg]
 ·rw[aaw (fun h'=>h h'.1)];cases hu:Lib.parseUint10 0 t with
  |ok u=>
   have:=KM t 0 u hf hu;subst this;simp only[Lib.signless];by_cases h9:9223372036854775808<=dv 0 t
   ·rw[aaO h9]
   ·rw[aaw h9];simp only[];split
    ·unfold ew;rw[aaw]
     grind [cg]
    ·rfl
  |_=>rfl
end Go.V.Lx
namespace Go.V.Lx
open Go.Proofs Go.RowKit
theorem zY{α:Type}(p:α->Bool):∀(r:List α) (m:Nat),(r.takeWhile p).length<=m->(r.take m).takeWhile p=r.takeWhile p
 |[],m,_=>sI
 |c::r,0,h=>awy
 |c::r,m+1,h=>by
  rw[afv,aeB,aeB];cases hc:p c with
  |false=>rfl
  |true=>
   rw[aeB,hc]at h;simp only[abo,aa5]at h⊢;rw[zY p r m oM]
theorem Dv{α:Type}(p:α->Bool):∀(r t:List α),(r.takeWhile p).length<r.length->(r++t).takeWhile p=r.takeWhile p
 |[],t,h=>awv
 |c::r,t,h=>by
  rw[aeF,aeB,aeB];cases hc:p c with
  |false=>rfl
  |true=>
   rw[aeB,hc]at h;simp only[abo,aa5]at h⊢;rw[Dv p r t oM]
def RJ{α:Type}(p:α->Bool)(r t:List α)(x:α)(hx:p x=false):(r++x::t).takeWhile p=r.takeWhile p:=by induction r<;>simp_all[aeB]
theorem O4{α:Type}(p:α->Bool):∀(r t:List α),r.all p=true->(∀x t',t=x::t'->p x=false)->(r++t).takeWhile p=r
 |[],t,_,h=>by cases t<;>simp_all
 |c::r,t,h1,h2=>by
  simp only[aep,aas]at h1;rw[aeF,aeB,aaO h1.1,O4 p r t h1.2 h2]
theorem Bo{α:Type}(p:α->Bool):∀(r:List α),r.takeWhile p=r.take (r.takeWhile p).length
 |[]=>rfl
 |c::r=>by
  rw[aeB];cases p c with
  |false=>rfl
  |true=>
   simp only[abo,aa5,afv];rw[<-Bo p r]
def AN(c:UInt8):Bool:= !(c==10)
theorem Ko:∀(r:List UInt8),(if 0<=Lib.indexByte r 10 then(Lib.indexByte r 10).toNat else r.length)=(r.takeWhile AN).length
 |[]=>rfl
 |c::r=>by
  have ih:=Ko r;have hg:=Lib.indexByte_ge r 10;rw[aeB];unfold Lib.indexByte;cases hc:(c==10)with
  |true=>simp[AN,hc]
  |false=>
   simp only[AN,hc,aaV,abo,aew,aa_,aa5]
   exact awN
def gG(c:UInt8):Bool:=([2,3,5]:List Int).contains (cls c)
def nU(c:UInt8):Bool:=([3]:List Int).contains (cls c)
def spB(c:UInt8):Bool:=([1]:List Int).contains (cls c)
theorem Qo(c:UInt8):nU c=sN c.toNat:=by rw[<-Mv];exact UO _ _
theorem ZM(c:UInt8):gG c=kC c:=by simp_all[Mx,gG,Bool.or_assoc]
def zI(t:List UInt8):Step:=if dv 0 t<=1099511627776/\lead t=true then some (t.length,[⟨2,[],dv 0 t,0⟩])else none
theorem Xk{c:UInt8}{r:List UInt8}(h:cls c=1):st (c::r)=some (((c::r).takeWhile spB).length,[]):=by
 show dj (c::r) 0 c=_;unfold dj;rw[aaO h];unfold mS gC;rw[agW,aeC];rfl
theorem OT{c:UInt8}{r:List UInt8}(h:cls c=2):st (c::r)=ew ⟨1,(c::r).takeWhile gG,0,0⟩ 0 ((c::r).takeWhile gG).length:=by
 show dj (c::r) 0 c=_;unfold dj;rw[aaw oM,aaO h];rfl
theorem OU{c:UInt8}{r:List UInt8}(h:cls c=3):st (c::r)=zI ((c::r).takeWhile nU):=by
 show dj (c::r) 0 c=_;unfold dj;rw[aaw oM,aaw oM,aaO h,Th (c:=c) rfl h];unfold zI gC;rw[agW,aeC];rfl
def lD(r:List UInt8):Bool:=Lib.hasPrefix r [47,47]
theorem Ld{c:UInt8}{r:List UInt8}(h:cls c=4):st (c::r)=if lD (c::r)=true then some (((c::r).takeWhile AN).length,[])else some (1,[⟨3,[c],0,0⟩]):=by
 show dj (c::r) 0 c=_;unfold dj;rw[aaw oM,aaw oM,aaw oM,aaO h];unfold jb;rw[agW];simp only[aeC,afv,akw,Ko]
 grind [lD,ew,cg,pz]
theorem st5{c:UInt8}{r:List UInt8}(h1:cls c≠1)(h2:cls c≠2)(h3:cls c≠3)(h4:cls c≠4):st (c::r)=none:=by
 show dj (c::r) 0 c=_;simp_all[dj]
theorem y7{r:List UInt8}(h:lD r=true):∃t,r=47::47::t:=by
 unfold lD Lib.hasPrefix at h;cases r with
 |nil=>cases h
 |cons a r=>
  cases r<;>grind
theorem MA(t:List UInt8):lD (47::47::t)=true:=by grind [lD,Lib.hasPrefix]
def O2{x:Tok}{n n':Nat}{l:List Tok}(h:ew x 0 n=some (n',l)):n'=n/\l=[{x with a:=0}]/\cg x=true:=by grind [ew]
theorem PC{t:List UInt8}{n:Nat}{l:List Tok}(h:zI t=some (n,l)):n=t.length/\l=[⟨2,[],dv 0 t,0⟩]/\dv 0 t<=1099511627776/\lead t=true:=by grind [zI]
def FG{r:List UInt8}{n:Nat}{l:List Tok}(h:st r=some (n,l)):∃c t,r=c::t/\
 (
  (cls c=1/\n=(r.takeWhile spB).length/\l=[])\/
  (cls c=2/\n=(r.takeWhile gG).length/\l=[⟨1,r.takeWhile gG,0,0⟩]/\cg ⟨1,r.takeWhile gG,0,0⟩=true)\/
  (cls c=3/\n=(r.takeWhile nU).length/\l=[⟨2,[],dv 0 (r.takeWhile nU),0⟩]/\dv 0 (r.takeWhile nU)<=1099511627776/\lead (r.takeWhile nU)=true)\/
  (cls c=4/\lD r=true/\n=(r.takeWhile AN).length/\l=[])\/
  (cls c=4/\lD r=false/\n=1/\l=[⟨3,[c],0,0⟩])):=by
 cases r with
 |nil=>cases h
 |cons c t=>
  refine⟨c,t,rfl,?_⟩;by_cases h1:cls c=1
  ·grind [Xk]
  by_cases h2:cls c=2
  ·rw[OT h2]at h;obtain⟨h3,h4,h5⟩:=O2 h
   exact awN
  grind [OU,PC,Ld,st5]
def MC{r:List UInt8}{m:Nat}(h:lD r=true)(hm:2<=m):lD (r.take m)=true:=by
 obtain⟨t,rfl⟩:=y7 h;obtain⟨k,rfl⟩:∃k,m=k+2:=⟨m - 2,oM⟩
 grind [MA]
theorem Ei{r:List UInt8}{m:Nat}(h:lD (r.take m)=true):lD r=true:=by grind [y7,List.take_append_drop,MA]
theorem Sl{r t:List UInt8}(h:lD (r++t)=true)(hr:2<=r.length):lD r=true:=by
 have:=MC (m:=2) h (aaN _)
 grind [Ei]
def abJ{r:List UInt8}(h:lD r=true):2<=(r.takeWhile AN).length:=by
 obtain⟨t,rfl⟩:=y7 h;rw[aeB,aaO awL,aeB,aaO awL];exact sI
def ac5{r:List UInt8}{n m:Nat}{l:List Tok}(h:st r=some (n,l))(hm:n<=m):st (r.take m)=some (n,l):=by
 have hp:=(D9 h).1;obtain⟨c,t,rfl,hc⟩:=FG h;obtain⟨k,rfl⟩:∃k,m=k+1:=⟨m - 1,oM⟩
 have ht:(c::t).take (k+1)=c::t.take k:=rfl;rcases hc with⟨h1,h2,h3⟩|⟨h1,h2,h3,h4⟩|⟨h1,h2,h3,h4,h5⟩|⟨h1,h2,h3,h4⟩|⟨h1,h2,h3,h4⟩
 ·grind [zY,Xk]
 ·grind [zY,OT]
 ·grind [zY,OU]
 ·have:=zY AN (c::t) (k+1) oM;have hl:=abJ h2;rw[ht,Ld h1,<-ht,MC h2 oM,aaO rfl,this,h3,h4]
 ·rw[ht,Ld h1,<-ht,aaw,h3,h4]
  grind [Ei]
def agD{r t:List UInt8}{n:Nat}{l:List Tok}(h:st r=some (n,l))(hn:n<r.length):st (r++t)=some (n,l):=by
 have hp:=(D9 h).1;obtain⟨c,r,rfl,hc⟩:=FG h;have ht:(c::r)++t=c::(r++t):=rfl;rcases hc with⟨h1,h2,h3⟩|⟨h1,h2,h3,h4⟩|⟨h1,h2,h3,h4,h5⟩|⟨h1,h2,h3,h4⟩|⟨h1,h2,h3,h4⟩
 ·grind [Dv,Xk]
 ·grind [Dv,OT]
 ·grind [Dv,OU]
 ·have:=Dv AN (c::r) t oM;have hl:lD (c::r++t)=true:=by grind [y7,MA]
  simp_all[Ld]
 ·rw[ht,Ld h1,<-ht,aaw,h3,h4]
  grind [Sl]
theorem PS{r t:List UInt8}(hr:r≠[])(h:st r=none):st (r++32::t)=none:=by
 cases r with
 |nil=>grind
 |cons c r=>
  have ht:(c::r)++32::t=c::(r++32::t):=rfl;by_cases h1:cls c=1
  ·grind [Xk]
  by_cases h2:cls c=2
  ·rw[ht,OT h2,<-ht,RJ gG _ _ _ avT,<-OT h2,h]
  by_cases h3:cls c=3
  ·rw[ht,OU h3,<-ht,RJ nU _ _ _ avT,<-OU h3,h]
  grind [Ld,st5]
theorem LE.bounds{r:List UInt8}{i k:Nat}(h:LE r i k):i<=k/\k<i+r.length:=by induction h<;>grind
theorem LE.more{r:List UInt8}{i k:Nat}(h:LE r i k)(t:List UInt8):LE (r++32::t) i k:=by
 induction h with
 |here i hr h=>exact .here i sI (PS hr h)
 |step h hk ih=>
  have h1:=hk.bounds;rw[akh]at h1;refine .step (agD h oM) ?_
  exact awN
theorem LE.before{r:List UInt8}{i k:Nat}(h:LE r i k):∃l,LX (r.take (k - i)) i l:=by
 induction h with
 |here i hr h=>exact⟨[],by rw[Nat.sub_self,akw];exact .nil i⟩
 |@step r i n k l h hk ih=>
  have h1:=hk.bounds;obtain⟨l',h2⟩:=ih;refine⟨_,.step (ac5 (m:=k - i) h oM) (l':=l') ?_⟩
  grind [List.drop_take]
theorem LE.from{r:List UInt8}{i k:Nat}(h:LE r i k):st (r.drop (k - i))=none/\r.drop (k - i)≠[]:=by
 induction h with
 |here i hr h=>grind
 |@step r i n k l h hk ih=>
  have h1:=hk.bounds
  exact auP
theorem Kr(u:Nat):kX (Lib.decDigits u)=true/\dv 0 (Lib.decDigits u)=u/\lead (Lib.decDigits u)=true:=by
 have fa:kX (Lib.decDigits u)=true/\dv 0 (Lib.decDigits u)=u:=by
  induction u using Nat.strongRecOn with
  |_ u ih=>
   have hd:∀k,k<10->(UInt8.ofNat (48+k)).toNat=48+k:=fun k hk=>by grind [UInt8.toNat_ofNat']
   by_cases h:u<10
   ·rw[Lib.decDigits_one h,aea,hd u h];simp only[kX,aep,agv,afN]
    grind [sr]
   ·obtain⟨h1,h2⟩:=ih (u / 10) oM;rw[Lib.decDigits,dif_neg h,Il,h2,hd _ oM];refine⟨?_,oM⟩;unfold kX at h1⊢;rw[List.all_append,h1];simp only[aep,agv,afN,akW]
    grind [sr]
 refine⟨fa.1,fa.2,?_⟩;unfold lead;by_cases h:u<10
 ·rw[Lib.decDigits_one h];rfl
 ·obtain⟨c,r,h1,h2⟩:=MG u oM
  exact awN
def R0(t:List UInt8):Prop:=∀c t',t=c::t'->cls c=1
def Xm:R0 []:=fun c t' h=>awI
def PT(t:List UInt8):R0 (32::t):=fun c t' h=>by grind [JD]
def MF(u:Nat):∃c r,Lib.decDigits u=c::r:=by
 rw[Lib.decDigits];split
 ·exact awN
 ·cases h:Lib.decDigits (u / 10)<;>simp_all
def UI{c:UInt8}(h:sN c.toNat=true):cls c=3:=by grind [Mv]
def JE{c:UInt8}(h:isLt c.toNat=true):cls c=2:=by grind [Mw]
def RE{x:Tok}{t:List UInt8}(h:cg x=true)(ht:R0 t):st (word x++t)=some ((word x).length,[{x with a:=0}]):=by
 obtain⟨k,w,n,a⟩:=x;unfold cg at h;by_cases k1:k=1
 ·subst k1;simp only[abo,aas,aaH]at h;obtain⟨h1,h2⟩:=h;subst h2;have hw:word ⟨1,w,0,a⟩=w:=rfl;rw[hw];cases w with
  |nil=>cases h1
  |cons c r=>
   have mP:=h1;simp only[iP,aas]at h1;have eB:(c::r).all gG=true:=by grind [ZM]
   have htw:((c::r)++t).takeWhile gG=c::r:=O4 gG (c::r) t eB fun x t' h=>by
    have:=ht x t' h
    grind [gG]
   simp_all[OT,JE,ew,cg]
 rw[aaw k1]at h;by_cases k2:k=2
 ·subst k2;simp only[abo,aas,aaH]at h;obtain⟨⟨h1,h2⟩,h3⟩:=h;subst h1;obtain⟨u,rfl⟩:∃u:Nat,n=u:=⟨n.toNat,oM⟩
  have hw:word ⟨2,[],u,a⟩=Lib.decDigits u:=by simp_all[word,Lib.itoa_nonneg]
  rw[hw];obtain⟨f1,f2,f3⟩:=Kr u;have eB:(Lib.decDigits u).all nU=true:=by
   have e:nU=fun c=>sN c.toNat:=by grind [Qo]
   rw[e];exact f1
  have htw:(Lib.decDigits u++t).takeWhile nU=Lib.decDigits u:=O4 nU _ t eB fun x t' h=>by
   have:=ht x t' h
   grind [nU]
  obtain⟨c,r,hc⟩:=MF u;have VA:sN c.toNat=true:=by simp_all[kX]
  have e:Lib.decDigits u++t=c::(r++t):=awN
  rw[e,OU (UI VA),<-e,htw];unfold zI
  exact awN
 rw[aaw k2]at h;by_cases k3:k=3
 ·subst k3;simp only[abo,aas,aaH]at h;obtain⟨h1,h2⟩:=h;subst h2;have hw:word ⟨3,w,0,a⟩=w:=rfl;rw[hw]
  match w,h1 with
  |[c],h1=>
   have hc:cls c=4:=by grind [pz]
   rw[aeF,adC,Ld hc,aaw]
   ·rfl
   ·intro h;obtain⟨t',h'⟩:=y7 h;injection h' with h3 h4;have:=ht _ _ h4
    exact awN
 exact awN
def TP{r:List UInt8}{n:Nat}{x:Tok}{l:List Tok}(h:st r=some (n,x::l)):l=[]/\cg x=true/\word x=r.take n/\x.a=0:=by
 obtain⟨c,t,rfl,hc⟩:=FG h;rcases hc with⟨h1,h2,h3⟩|⟨h1,h2,h3,h4⟩|⟨h1,h2,h3,h4,h5⟩|⟨h1,h2,h3,h4⟩|⟨h1,h2,h3,h4⟩
 ·cases h3
 ·injection h3 with h5 h6;subst h5;subst h6;exact⟨rfl,h4,by rw[h2];exact Bo _ _,rfl⟩
 ·injection h3 with h6 h7;subst h6;subst h7;refine⟨rfl,?_,?_,rfl⟩
  ·simp[cg];exact oM
  ·have hf:kX ((c::t).takeWhile nU)=true:=by grind [kX,List.all_takeWhile,Qo]
   have bh:(c::t).takeWhile nU≠[]:=by simp_all[nU]
   have hw:word ⟨2,[],dv 0 ((c::t).takeWhile nU),0⟩=Lib.itoa (dv 0 ((c::t).takeWhile nU):Int):=rfl
   grind [Q7,Bo]
 ·cases h4
 ·injection h4 with h5 h6;subst h5;subst h6;refine⟨rfl,?_,?_,rfl⟩
  ·simp[cg,pz,h1]
  ·rw[h3];rfl
theorem aal(x:Tok)(i:Nat):cg (Bz i x)=cg x:=rfl
theorem adk(x:Tok)(i:Nat):word (Bz i x)=word x:=rfl
theorem LX.facts{r:List UInt8}{i:Nat}{l:List Tok}(h:LX r i l):l.all cg=true/\((l.map word).flatten).length<=r.length/\l.length<=r.length:=by
 induction h with
 |nil i=>simp
 |@step r i n l l' h k ih=>
  obtain⟨i1,i2,i3⟩:=ih;have h1:=D9 h;rw[akh]at i2 i3
  match l,h,h1 with
  |[],h,h1=>
   exact awN
  |x::l,h,h1=>
   obtain⟨rfl,h2,h3,h4⟩:=TP h
   grind [aal,adk]
theorem OJ(x:Tok)(i:Nat):uM x (Bz i x)=true:=by simp[uM,Bz]
theorem N3:∀(l:List Tok) (i:Nat),l.all cg=true->∃l',LX (Lib.join (l.map word) [32]) i l'/\eH l l'=true
 |[],i,_=>⟨[],.nil i,rfl⟩
 |[x],i,h=>by
  simp only[aep,agv,afN]at h;have hs:=RE h Xm;rw[aez]at hs;refine⟨[Bz i x],?_,by simp[eH,OJ]⟩;rw[abk,aex,Lib.join_one];exact LX.step (i:=i) hs (l':=[]) (by rw[List.drop_length];exact .nil _)
 |x::y::l,i,h=>by
  rw[aep,aas]at h;obtain⟨l',h1,h2⟩:=N3 (y::l) (i+(word x).length+1) h.2;have hj:Lib.join ((x::y::l).map word) [32]=word x++32::Lib.join ((y::l).map word) [32]:=by grind [Lib.join_cons,Lib.joinTail]
  have hs:=RE h.1 (PT (Lib.join ((y::l).map word) [32]));refine⟨Bz i x::l',?_,by grind [eH,OJ]⟩;rw[hj];refine LX.step (i:=i) (l':=l') hs ?_;rw[akO];exact h1.space JD
end Go.V.Lx
