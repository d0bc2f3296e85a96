/- Lemmas on plain data and programs: part B19. -/
import Derived.Test.YtkknfajchefgaaaGreatDoorB17
import Derived.Test.YtkknfajchefgaaaGreatDoorB18
set_option linter.all false
set_option maxHeartbeats 8000000
set_option maxRecDepth 100000
namespace Go.V.St
open Go.Proofs Go.RowKit Go.V.Lx Go.V.Gr Go.V.Ty
def su(s:ae):Int×Int:=if nS s then(0,0)else((dW s).1,(dW s).2)
def ko(s:ae)(r:Int):Nat->Int
 |0=>r
 |j+1=>ko s r j * 64+bo s (j+1) - 128
def MD(s:ae)(j:Nat):Prop:=∀i,i<j->128<=bo s (i+1)/\bo s (i+1)<192
def rj(s:ae)(i:Nat):bo s i<256:=by grind [bo,UInt8.toNat_lt]
def uG{b:Int}(h:(kQ b).1≠0):(b<128/\kQ b=(1,b))\/(192<=b/\b<224/\kQ b=(2,b - 192))\/(224<=b/\b<240/\kQ b=(3,b - 224))\/(240<=b/\b<248/\kQ b=(4,b - 240)):=by
 unfold kQ at h⊢;by_cases h1:b<128<;>grind
def ade{s:ae}{n:Nat}(h:n<=s.length):s.take n=(List.range n).map fun i=>UInt8.ofNat (bo s i):=by
 apply List.ext_getElem
 ·exact awe
 ·intro i h1 h2;simp only[List.getElem_take,List.getElem_map,List.getElem_range];simp only[afd]at h1;simp[bo,aaS (show i<s.length by omega)]
def Mn{s:ae}{n:Nat}{r:Int}(hn:n<=s.length)(hc:MD s (n - 1))(hb:(kQ (bo s 0))=((n:Int),r))(hz:n≠0):
 (bw (ko s r (n - 1)).toNat=s.take n)<->(if n=1 then 0 else if n=2 then 128 else if n=3 then 2048 else 65536:Int)<=ko s r (n - 1):=by
 rw[ade hn];have au:=rj s 0;have ob:∀ {a b:Nat},a=b->UInt8.ofNat a=UInt8.ofNat b:=fun h=>by rw[h]
 rcases uG (b:=(bo s 0:Int)) awN with⟨h1,h2⟩|⟨h1,mP,h2⟩|⟨h1,mP,h2⟩|⟨h1,mP,h2⟩<;>rw[hb]at h2<;>injection h2 with h2 h3
 ·obtain rfl:n=1:=oM
  grind [ko,bw]
 ·obtain rfl:n=2:=oM;have c0:=hc 0 oM;simp only[ko,aeC]at c0⊢;obtain⟨m,hm⟩:∃m:Nat,r * 64+(bo s 1:Int) - 128=m:=⟨(r * 64+(bo s 1:Int) - 128).toNat,oM⟩
  simp only[hm,ae3,agb,aft,adC,aeF,abk,aex];unfold bw
  exact awN
 ·obtain rfl:n=3:=oM;have c0:=hc 0 oM;have c1:=hc 1 oM;simp only[ko,aeC,Nat.reduceAdd]at c0 c1⊢;obtain⟨m,hm⟩:∃m:Nat,(r * 64+(bo s 1:Int) - 128) * 64+(bo s 2:Int) - 128=m:=⟨((r * 64+(bo s 1:Int) - 128) * 64+(bo s 2:Int) - 128).toNat,oM⟩
  simp only[hm,ae3,agb,aft,adC,aeF,abk,aex];unfold bw
  exact awN
 ·obtain rfl:n=4:=oM;have c0:=hc 0 oM;have c1:=hc 1 oM;have c2:=hc 2 oM;simp only[ko,aeC,Nat.reduceAdd]at c0 c1 c2⊢;obtain⟨m,hm⟩:∃m:Nat,((r * 64+(bo s 1:Int) - 128) * 64+(bo s 2:Int) - 128) * 64+(bo s 3:Int) - 128=m:=⟨(((r * 64+(bo s 1:Int) - 128) * 64+(bo s 2:Int) - 128) * 64+(bo s 3:Int) - 128).toNat,oM⟩
  simp only[hm,ae3,agb,aft,adC,aeF,abk,aex];unfold bw;by_cases h5:m<128
  ·exact awN
  by_cases h6:m<2048
  ·exact awN
  by_cases h7:m<65536
  ·exact awN
  ·rw[aaw h5,aaw h6,aaw h7];exact⟨fun _=>awe,fun _=>by rw[ob (show 240+m / 262144=bo s 0 by omega),ob (show 128+m / 4096 % 64=bo s 1 by omega),ob (show 128+m / 64 % 64=bo s 2 by omega),ob (show 128+m % 64=bo s 3 by omega)]⟩
def R1(s:ae)(r:Int):ko s r (1 - 1)=r:=rfl
def X5(s:ae)(r:Int):ko s r (2 - 1)=r * 64+bo s 1 - 128:=rfl
theorem X6(s:ae)(r:Int):ko s r (3 - 1)=(r * 64+bo s 1 - 128) * 64+bo s 2 - 128:=rfl
def X7(s:ae)(r:Int):ko s r (4 - 1)=((r * 64+bo s 1 - 128) * 64+bo s 2 - 128) * 64+bo s 3 - 128:=rfl
def LD(s:ae)(n:Nat)(r:Int):Prop:=n≠0/\n<=s.length/\MD s (n - 1)/\fJ (ko s r (n - 1))=true/\bw (ko s r (n - 1)).toNat=s.take n
def JT{s:ae}{a n:Nat}(h:s≠[])(hd:Lib.decodeN s.length (bo s 0) (bo s 1) (bo s 2) (bo s 3)=(a,n)):su s=if a=65533/\n<2 then(0,0)else((a:Int),(n:Int)):=by simp_all[dW,su,nS]
theorem gH(n:Int):fJ n=true<->0<=n/\n<=1114111/\(n<55296\/57343<n):=by unfold fJ;grind
def JU{s:ae}{n:Nat}{r:Int}(hb:kQ (bo s 0)=((n:Int),r))(hg:LD s n r):su s=(ko s r (n - 1),(n:Int)):=by
 obtain⟨g1,g2,g3,g4,g5⟩:=hg;have hs:s≠[]:=fun h=>awN
 rw[Mn g2 g3 hb g1]at g5;rw[gH]at g4;have h1:=rj s 1;have h2:=rj s 2;have h3:=rj s 3;have key:Lib.decodeN s.length (bo s 0) (bo s 1) (bo s 2) (bo s 3)=((ko s r (n - 1)).toNat,n):=by
  rcases uG (b:=(bo s 0:Int)) awN with⟨e1,e2⟩|⟨e1,JO,e2⟩|⟨e1,JO,e2⟩|⟨e1,JO,e2⟩<;>rw[hb]at e2<;>injection e2 with e2 e3
  ·obtain rfl:n=1:=oM;simp only[ko,Lib.decodeN];rw[aaO oM,e3];rfl
  ·obtain rfl:n=2:=oM;have c0:=g3 0 oM;simp only[ko,aeC]at c0 g4 g5⊢
   exact ave
  ·obtain rfl:n=3:=oM;have c0:=g3 0 oM;have c1:=g3 1 oM;simp only[ko,aeC,Nat.reduceAdd]at c0 c1 g4 g5⊢
   exact ave
  ·obtain rfl:n=4:=oM;have c0:=g3 0 oM;have c1:=g3 1 oM;have c2:=g3 2 oM;simp only[ko,aeC,Nat.reduceAdd]at c0 c1 c2 g4 g5⊢
   exact ave
 rw[JT hs key,aaw,Int.toNat_of_nonneg oM];rintro⟨k1,k2⟩;obtain rfl:n=1:=oM;rw[R1]at k1 g5;rcases uG (b:=(bo s 0:Int)) awN with⟨e1,e2⟩|⟨e1,JO,e2⟩|⟨e1,JO,e2⟩|⟨e1,JO,e2⟩<;>rw[hb]at e2<;>injection e2 with e2 e3<;>omega
def YB{s:ae}(hs:s≠[]){n:Nat}{r:Int}(hb:kQ (bo s 0)=((n:Int),r))(hg:¬LD s n r):su s=(0,0):=by
 suffices key:Lib.decodeN s.length (bo s 0) (bo s 1) (bo s 2) (bo s 3)=(65533,1) by rw[JT hs key];rfl
 have hl:0<s.length:=aev.2 hs;have h0:=rj s 0;have h1:=rj s 1;have h2:=rj s 2;have h3:=rj s 3;have hg:∀(g1:n≠0) (g2:n<=s.length) (g3:MD s (n - 1)),fJ (ko s r (n - 1))=true->(if n=1 then 0 else if n=2 then 128 else if n=3 then 2048 else 65536:Int)<=ko s r (n - 1)->False:=fun g1 g2 g3 g4 g5=>hg ⟨g1,g2,g3,g4,(Mn g2 g3 hb g1).2 g5⟩;simp only[gH]at hg;unfold kQ at hb;unfold Lib.decodeN;repeat' split
 all_goals first|rfl|exfalso
 ·rw[aaO oM]at hb;injection hb with e1 e2;obtain rfl:n=1:=oM;exact hg oM oM (fun i hi=>oM) (by rw[R1];omega) (by rw[R1,aaO rfl];omega)
 ·rw[aaw oM,aaO oM]at hb;injection hb with e1 e2;obtain rfl:n=2:=oM;exact hg oM oM (fun i hi=>awN) (by rw[X5];omega) (by rw[X5,aaw oM,aaO rfl];omega)
 ·rw[aaw oM,aaw oM,aaO oM]at hb;injection hb with e1 e2;obtain rfl:n=3:=oM;exact hg oM oM (fun i hi=>awN) (by rw[X6];omega) (by rw[X6,aaw oM,aaw oM,aaO rfl];omega)
 ·rw[aaw oM,aaw oM,aaw oM,aaO oM]at hb;injection hb with e1 e2;obtain rfl:n=4:=oM;exact hg oM oM (fun i hi=>awN) (by rw[X7];omega) (by rw[X7,aaw oM,aaw oM,aaw oM];omega)
def Wh(b:Nat):∃(n:Nat) (r:Int),n<=4/\0<=r/\r<128/\kQ b=((n:Int),r):=by
 by_cases h:(kQ b).1=0
 ·refine⟨0,0,oM,oM,oM,?_⟩
  grind [kQ]
 ·rcases uG h with⟨e1,e2⟩|⟨e1,JO,e2⟩|⟨e1,JO,e2⟩|⟨e1,JO,e2⟩
  ·exact⟨1,_,oM,oM,oM,e2⟩
  ·exact⟨2,_,oM,oM,oM,e2⟩
  ·exact⟨3,_,oM,oM,oM,e2⟩
  ·exact⟨4,_,oM,oM,oM,e2⟩
def iA(s:ae):List Int×Int:=if 4096<(s.length:Int)then([],2)else match Dk s with
 |some l=>(l,0)
 |none=>([],90)
def Pv{t:ae}(h:nS t=false):su t=(((dW t).1:Int),((dW t).2:Int)):=by grind [su]
def abC{t:ae}(ht:t≠[]):(su t).2=0<->nS t=true:=by grind [su,mX]
end Go.V.St
