/- Lemmas on plain data and programs: part B24. -/
import Derived.Test.YtkknfajchefgaaaGreatDoorB15
import Derived.Test.YtkknfajchefgaaaGreatDoorB21
import Derived.Test.YtkknfajchefgaaaGreatDoorB23
set_option linter.all false
set_option maxHeartbeats 8000000
set_option maxRecDepth 100000
namespace Go.V.Rp
open Go.Proofs Go.RowKit Go.V.Lx Go.V.Gr Go.V.Ty Go.V.St
def enc(l:List Int):ae:=l.flatMap fun n=>bw n.toNat
def tK{s:ae}(hs:s≠[])(hb:nS s=false):fJ (dW s).1=true/\bw (dW s).1=s.take (dW s).2:=by
 obtain⟨n,r,_,_,_,h⟩:=Wh (bo s 0);by_cases hg:LD s n r
 ·have h1:=JU h hg;rw[Pv hb]at h1;injection h1 with h2 h3;obtain⟨_,_,_,g4,g5⟩:=hg
  exact awN
 ·have h2:=(abC hs).1 (by rw[YB hs h hg])
  exact awN
def ab0{m k:Nat}{r:Int}{t:ae}(hk:k≠0)(hl:(bw m).length=k)(hc:MD (bw m++t) (k - 1))(ha:ko (bw m++t) r (k - 1)=m)(hp:fJ m=true):LD (bw m++t) k r:=
 ⟨hk,awN,hc,awN,by rw[ha,ae3,List.take_left' hl]⟩
def Pk{m:Nat}(h:m<=1114111)(t:ae):∃(k:Nat) (r:Int),k≠0/\(bw m).length=k/\kQ (bo (bw m++t) 0)=((k:Int),r)/\MD (bw m++t) (k - 1)/\ko (bw m++t) r (k - 1)=m:=by
 have ob:∀k,k<256->(UInt8.ofNat k).toNat=k:=fun k hk=>awe
 by_cases c1:m<128
 ·have e:bw m=[UInt8.ofNat m]:=by rw[bw,aaO c1]
  have b0:bo (bw m++t) 0=m:=by rw[e];exact ob m oM
  refine⟨1,m,oM,by rw[e];rfl,?_,fun i hi=>oM,R1 _ _⟩;rw[b0];unfold kQ;grind
 by_cases c2:m<2048
 ·have e:bw m=[UInt8.ofNat (192+m / 64),UInt8.ofNat (128+m % 64)]:=by simp_all[bw]
  have b0:bo (bw m++t) 0=192+m / 64:=avb
  have b1:bo (bw m++t) 1=128+m % 64:=avb
  refine⟨2,((m / 64:Nat):Int),oM,by rw[e];rfl,?_,fun i hi=>?_,?_⟩
  ·rw[b0];unfold kQ;exact awN
  ·exact awN
  ·rw[X5,b1];exact oM
 by_cases c3:m<65536
 ·have e:bw m=[UInt8.ofNat (224+m / 4096),UInt8.ofNat (128+m / 64 % 64),UInt8.ofNat (128+m % 64)]:=by simp_all[bw,aaw]
  have b0:bo (bw m++t) 0=224+m / 4096:=avb
  have b1:bo (bw m++t) 1=128+m / 64 % 64:=avb
  have b2:bo (bw m++t) 2=128+m % 64:=avb
  refine⟨3,((m / 4096:Nat):Int),oM,by rw[e];rfl,?_,fun i hi=>?_,?_⟩
  ·rw[b0];unfold kQ;exact awN
  ·exact awN
  grind [X6]
 ·have e:bw m=[UInt8.ofNat (240+m / 262144),UInt8.ofNat (128+m / 4096 % 64),UInt8.ofNat (128+m / 64 % 64),UInt8.ofNat (128+m % 64)]:=by simp_all[bw,aaw]
  have b0:bo (bw m++t) 0=240+m / 262144:=avb
  have b1:bo (bw m++t) 1=128+m / 4096 % 64:=avb
  have b2:bo (bw m++t) 2=128+m / 64 % 64:=avb
  have b3:bo (bw m++t) 3=128+m % 64:=avb
  refine⟨4,((m / 262144:Nat):Int),oM,by rw[e];rfl,?_,fun i hi=>?_,?_⟩
  ·rw[b0];unfold kQ;exact awN
  ·exact awN
  ·rw[X7,b1,b2,b3];exact oM
def abM{n:Int}(h:fJ n=true)(t:ae):nS (bw n.toNat++t)=false/\((dW (bw n.toNat++t)).1:Int)=n/\(dW (bw n.toNat++t)).2=(bw n.toNat).length/\bw n.toNat++t≠[]:=by
 obtain⟨h0,h1,h2⟩:=(gH n).1 h;obtain⟨m,rfl⟩:∃m:Nat,n=m:=⟨n.toNat,oM⟩
 simp only[ae3];obtain⟨k,r,k1,k2,k3,k4,k5⟩:=Pk (m:=m) oM t;have f:=JU k3 (ab0 k1 k2 k4 k5 h)
 grind [su,List.append_eq_nil_iff]
theorem I6:∀l:List Int,l.all fJ=true->fK (enc l)=(l,false)
 |[],_=>rfl
 |n::l,h=>by
  rw[aep,aas]at h;obtain⟨h1,h2,h3,h4⟩:=abM h.1 (enc l);have e:enc (n::l)=bw n.toNat++enc l:=rfl;rw[e,vb h4,h1,aaw sI,h3,akO,I6 l h.2,h2]
theorem Im:∀(k:Nat) (s:ae),s.length<=k->(fK s).2=false->enc (fK s).1=s/\(fK s).1.all fJ=true
 |k,s,hk,h=>by
  by_cases hs:s=[]
  ·subst hs;exact⟨rfl,rfl⟩
  have hp:=mX hs;have hl:0<s.length:=aev.2 hs;obtain⟨m,rfl⟩:∃m,k=m+1:=⟨k - 1,oM⟩
  rw[vb hs]at h⊢;cases hb:nS s with
  |true=>grind
  |false=>
   rw[hb,aaw sI]at h;rw[aaw sI];obtain⟨e1,e2⟩:=tK hs hb;obtain⟨i1,i2⟩:=Im m (s.drop (dW s).2) awN h
   grind [enc,List.take_append_drop]
def nI(l:List Int):Option ae:=if l.all fJ=true/\(enc l).length<=4096 then some (enc l)else none
def tc(s:ae):List Int:=(iA s).1
def yh(s:ae):iA s=if 4096<s.length then([],2)else if(fK s).2 then([],90)else((fK s).1,0):=by
 unfold iA;rw[wq s.length s (aaN _)]
 exact awN
def ajw{l:List Int}{s:ae}(h:nI l=some s):tc s=l:=by
 unfold nI at h;by_cases hc:l.all fJ=true/\(enc l).length<=4096
 ·rw[aaO hc]at h;injection h with h;subst h;simp_all[tc,yh,aaw,I6]
 exact awN
def ajv{s:ae}(h:(iA s).2=0):nI (tc s)=some s:=by
 unfold tc;rw[yh]at h⊢;by_cases h1:4096<s.length
 ·exact awN
 rw[aaw h1]at h⊢;cases h2:(fK s).2 with
 |true=>grind
 |false=>
  obtain⟨e1,e2⟩:=Im s.length s (aaN _) h2;simp_all[nI]
def Wl{c:UInt8}{m:Nat}(hm:m<=1114111)(h:c∈bw m)(hc:c.toNat<128):m=c.toNat:=by
 have ob:∀k,k<256->(UInt8.ofNat k).toNat=k:=fun k hk=>awe
 have no:∀k,128<=k->k<256->c≠UInt8.ofNat k:=fun k h1 h2 e=>awN
 unfold bw at h
 exact awN
def RS{s:ae}{c:UInt8}(h:dG s=true)(hc:c.toNat<128)(hs:qD c.toNat=true):c∉s:=fun hm=>by
 unfold dG at h;simp only[aas,aaH,ae_]at h;obtain⟨⟨⟨_,h2⟩,h3⟩,h4⟩:=h;rw[yh,aaw oM]at h3 h4;cases hp:(fK s).2 with
 |true=>grind
 |false=>
  rw[hp]at h4;obtain⟨e1,e2⟩:=Im s.length s (aaN _) hp;rw[<-e1]at hm;obtain⟨n,n1,n2⟩:=afm.1 hm;have hb:=(gH n).1 (aaI.1 e2 n n1);have:=Wl oM n2 hc
  exact awN
def AQ{v:Int}(h:iT v):Lib.atoiAll (Lib.itoa v)= .ok v/\kX (Lib.itoa v)=true:=by
 obtain⟨u,rfl⟩:∃u:Nat,v=u:=⟨v.toNat,by have:=h.1;omega⟩
 have e:Lib.itoa (u:Int)=Lib.decDigits u:=by simp_all[Lib.itoa]
 obtain⟨h1,h2,h3⟩:=Kr u;have h4:=h.2;rw[e];refine⟨?_,h1⟩;obtain⟨c,r,hr⟩:=MF u;rw[Jw awN h1,Oh _ 0 h1 oM,h2];show(if 9223372036854775808<=u then Lib.NumEnd.range else .ok (u:Int))=_
 exact awN
def Ip{s:ae}(h:kX s=true){c:UInt8}(hc:¬(48<=c.toNat/\c.toNat<=57)):c∉s:=fun hm=>hc ((sr c).1 (aaI.1 h c hm))
end Go.V.Rp
