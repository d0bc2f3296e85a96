/- Plain laws: B27. -/
import Derived.Test.YtkgloohlmogakaaGreatDoorB26
set_option linter.all false
set_option maxHeartbeats 8000000
set_option maxRecDepth 100000
namespace Go.V.Jn
open Go.Proofs Go.Proofs.Tryz Go.RowKit Go.V.Lx Go.V.Gr Go.V.Ty Go.V.St
attribute [go_sem] nQ lx Ew
@[go_sem] def Ev(n:Int):(aU.i n).d= .agg [I 1,I n,.str [],.sl 4 []]:=rfl
@[go_sem] def MH(s:ah):(aU.t s).d= .agg [I 2,I 0,.str s,.sl 4 []]:=rfl
def RL(n:Int):bN (D.agg [I 1,I n,.str [],.aq]) (.agg [I 1,I n,.str [],.sl 4 []]):=gh (.cons (.refl _) (.cons (.refl _) (.cons (.refl _) (.cons (.nil _) .nil))))
def RO(s:ah):bN (D.agg [I 2,I 0,.str s,.aq]) (.agg [I 2,I 0,.str s,.sl 4 []]):=gh (.cons (.refl _) (.cons (.refl _) (.cons (.refl _) (.cons (.nil _) .nil))))
@[go_sem] def Yu(v:aU):v.d.cells.length=4:=(RF v).1
@[go_sem] theorem ako(v:aU):v.d.cells.all D.one=true:=by
 cases v with
 |i n=>rfl
 |t s=>rfl
 |l xs=>rw[nQ];rfl
@[go_sem] theorem akn(v:aU):D.agg (List.take 4 v.d.cells)=v.d:=by
 cases v with
 |i n=>rfl
 |t s=>rfl
 |l xs=>rw[nQ];rfl
@[go_sem] theorem UD(v:aU):D.agg v.d.cells=v.d:=by
 cases v with
 |i n=>rfl
 |t s=>rfl
 |l xs=>rw[nQ];rfl
theorem JQ{n:Nat}:∀ {xs:List aU},(∀x∈xs,e_ x<=n)->fb xs<=n
 |[],_=>by simp[fb]
 |x::xs,h=>by
  have:=h x (List.mem_cons_self ..);have:=JQ (xs:=xs) fun y hy=>h y (List.mem_cons_of_mem _ hy);simp[fb];omega
theorem Ns(v:aU):e_ v<=(cr v).length:=by
 induction v using oq with
 |hi n=>simp[e_]
 |ht s=>simp[e_]
 |hl xs ih=>
  have:=JQ (n:=(dW xs).length) fun x hx=>Nat.le_trans (ih x hx) (qL hx);simp[e_,cr];omega
instance(n:Int):Ct 93 [I n] True (aU.i n).d:=by
 refine bf f93 [] [.cell 2 158] fun pre=>?_;repeat' first|exact zQ|with_reducible apply zJ<;>intro _|refine zK ?_
 exact RL n
instance(s:ah):Ct 155 [.str s] True (aU.t s).d:=by
 refine bf f155 [] [.cell 2 158] fun pre=>?_;repeat' first|exact zQ|with_reducible apply zJ<;>intro _|refine zK ?_
 exact RO s
instance al1(v:aU):Ct 214 [v.d] (ng v) (.bool true):=by
 induction v using oq with
 |hi n=>
  refine bf f214 [] [.tmp 2] fun pre=>?_;repeat' first|exact zQ|with_reducible apply zJ<;>intro _|refine zK ?_
 |ht s=>
  refine bf f214 [] [.tmp 2] fun pre=>?_;repeat' first|exact zQ|with_reducible apply zJ<;>intro _|refine zK ?_
 |hl xs ih=>
  refine bf f214 [] [.tmp 2] fun pre=>?_;obtain⟨h1,h2,h3⟩:=Ah pre;repeat' first|exact zQ|with_reducible apply zJ<;>intro _|refine zK ?_
  refine bW xs [(2,3),(30,43)] [] (fun j τ _=>τ 3=I j) (by simp[Lm];omega) sG (fun j x τ β hx hj hw hi=>?_) fun τ β hn hi=>?_
  ·have hm:=mG hx;have hf:=h3 x hm;haveI:=ih x hm;repeat' first|exact zQ|with_reducible apply zJ<;>intro _|refine zK ?_
  ·repeat' first|exact zQ|with_reducible apply zJ<;>intro _|refine zK ?_
instance alZ(v:aU):Ct 215 [v.d] (ng v) (I (e_ v)):=by
 induction v using oq with
 |hi n=>
  refine bf f215 [] [.tmp 2] fun pre=>?_;rw[show e_ (.i n)=0 from rfl];repeat' first|exact zQ|with_reducible apply zJ<;>intro _|refine zK ?_
 |ht s=>
  refine bf f215 [] [.tmp 2] fun pre=>?_;rw[show e_ (.t s)=0 from rfl];repeat' first|exact zQ|with_reducible apply zJ<;>intro _|refine zK ?_
 |hl xs ih=>
  refine bf f215 [] [.tmp 2] fun pre=>?_;obtain⟨h1,h2,h3⟩:=Ah pre;repeat' first|exact zQ|with_reducible apply zJ<;>intro _|refine zK ?_
  refine bW xs [(3,4),(8,22)] [] (fun j τ _=>τ 4=I j/\τ 3=I (fb (xs.take j))) (by simp[Lm];omega) (by simp[go_sem,fb]) (fun j x τ β hx hj hw hi=>?_) fun τ β hn hi=>?_
  ·obtain⟨h7,h8⟩:=hi;have hm:=mG hx;have hf:=h3 x hm;have hd:fb (xs.take (j+1))=max (fb (xs.take j)) (e_ x):=by rw[List.take_add_one,hx,Bo];simp[fb]
   haveI:=ih x hm;clear ih h3;repeat' first|exact zQ|with_reducible apply zJ<;>intro _|refine zK ?_
   exact congrArg I oM
  ·obtain⟨h7,h8⟩:=hi;rw[tL]at h8;have hd:e_ (.l xs)=fb xs+1:=rfl;rw[hd];have w1:IntKind.i64.wrap ((fb xs:Int)+1)=((fb xs+1:Nat):Int):=aE (by have:=Ns (.l xs);have:=pre.2;omega);clear ih h3;repeat' first|exact zQ|with_reducible apply zJ<;>intro _|refine zK ?_
instance(v:aU):Ct 156 [v.d] (ng v) (I (if 16<e_ v then 2 else 0)):=by
 refine bf f156 [] [.tmp 2] fun pre=>?_;repeat' first|exact zQ|with_reducible apply zJ<;>intro _|refine zK ?_
 ·rw[if_pos oM];exact .refl _
 ·rw[if_neg oM];exact .refl _
@[go_sem] def agZ(lo:Nat)(T:TypeId->TI)(dst:Option Tmp)(bx:ae)(x y:D):qJ lo T 71 9 dst bx x y=vt lo T (T 71) (T 9) dst bx x y:=by simp only[qJ];rw[if_neg (by decide)]
def i_{u:Nat}(h:u<18446744073709551616):(eA u).length<=10:=HV 9 oM
def MK{c:Nat}:IntKind.u8.wrap (c:Int)=((UInt8.ofNat c).toNat:Int):=by simp[IntKind.wrap,IntKind.signed,IntKind.bits]
instance al2(u:Nat):Ct 216 [.int .u64 u] (u<18446744073709551616) (aT (eA u)):=by
 induction u using Nat.strongRecOn with
 |ind u ih=>
 refine bf f216 [(1000012,[])] [.tmp 2] fun pre=>?_;have w8:=MK (c:=u);have hl:=i_ pre;by_cases hs:u<128
 ·have c:(u:Int)<128:=oM;rw[xf hs];repeat' first|exact zQ|with_reducible apply zJ<;>intro _|refine zK ?_
  exact .refl _
 ·have c:¬(u:Int)<128:=oM;rw[BE hs]at hl⊢;have hd:u / 128<u:=oM;have Bv:u / 128<18446744073709551616:=oM;have e1:(u:Int).tdiv 128=((u / 128:Nat):Int):=by rw[Int.tdiv_eq_ediv_of_nonneg oM];rfl
  have e2:(u:Int).tmod 128=((u % 128:Nat):Int):=by rw[Int.tmod_eq_emod_of_nonneg oM];rfl
  have e3:IntKind.u64.wrap (((u % 128:Nat):Int)+128)=((u % 128+128:Nat):Int):=by rw[show((u % 128:Nat):Int)+128=((u % 128+128:Nat):Int) by omega,cU rfl (by simp[IntKind.bits];omega)]
  have e4:=MK (c:=u % 128+128);have e5:IntKind.u64.wrap ((u / 128:Nat):Int)=((u / 128:Nat):Int):=cU rfl (by simp[IntKind.bits];omega);haveI:=ih _ hd;generalize UInt8.ofNat (u % 128+128)=x at *;generalize eA (u / 128)=y at *;clear ih;repeat' first|exact zQ|with_reducible apply zJ<;>intro _|refine zK ?_
  refine app [12,16] (.inr ⟨12,1,by simp,rfl,by simp[aj]⟩:aS _ [12,16] 5 1 (.bp 12 1 1 0 1) [.int .u8 x.toNat]) (fun x' β hv=>?_) (by simp[aB];simp at hl;omega);replace hv:aS β [12,16] 5 1 x' (aB (x::y)):=hv;have hf:=hv.facts;repeat' first|exact zQ|with_reducible apply zJ<;>intro _|refine zK ?_
  exact vI (hv.mix _) rfl
instance(n:Int):Ct 217 [I n] (-9223372036854775808<=n/\n<=9223372036854775807) (.int .u64 (rZ n)):=by
 refine bf f217 [] [.tmp 2] fun pre=>?_;obtain⟨h1,h2⟩:=pre;unfold rZ;by_cases h:0<=n
 ·rw[if_pos h];obtain⟨m,rfl⟩:∃m:Nat,n=m:=⟨n.toNat,by omega⟩
  have e1:IntKind.u64.wrap (m:Int)=m:=cU rfl (by simp[IntKind.bits];omega);have e2:IntKind.u64.wrap (2 * (m:Int))=((2 * m:Nat):Int):=by rw[show 2 * (m:Int)=((2 * m:Nat):Int) by omega,cU rfl (by simp[IntKind.bits];omega)]
  rw[Int.toNat_natCast];repeat' first|exact zQ|with_reducible apply zJ<;>intro _|refine zK ?_
 ·rw[if_neg h];obtain⟨m,hm⟩:∃m:Nat,n= -(m:Int) - 1:=⟨(-(n+1)).toNat,by omega⟩
  subst hm;have e0:(-(-(m:Int) - 1+1)).toNat=m:=oM;have e3:IntKind.i64.wrap (-(m:Int) - 1+1)= -(m:Int):=by rw[gp _ oM oM];omega
  have e4:IntKind.i64.wrap (0 - -(m:Int))=m:=by rw[gp _ oM oM];omega
  have e5:0 - (-(m:Int) - 1+1)=m:=oM;have e1:IntKind.u64.wrap (m:Int)=m:=cU rfl (by simp[IntKind.bits];omega);have e2:IntKind.u64.wrap (2 * (m:Int))=((2 * m:Nat):Int):=by rw[show 2 * (m:Int)=((2 * m:Nat):Int) by omega,cU rfl (by simp[IntKind.bits];omega)]
  have e6:IntKind.u64.wrap (((2 * m:Nat):Int)+1)=((2 * m+1:Nat):Int):=by rw[show((2 * m:Nat):Int)+1=((2 * m+1:Nat):Int) by omega,cU rfl (by simp[IntKind.bits];omega)]
  rw[e0];repeat' first|exact zQ|with_reducible apply zJ<;>intro _|refine zK ?_
instance al0(v:aU):Ct 157 [v.d] (ng v) (aT (cr v)):=by
 induction v using oq with
 |hi n=>
  refine bf f157 [(1000009,[]),(1000017,[]),(1000027,[]),(5,[(10,8),(10,5),(10,2),(5,2),(4,2)])] [.tmp 2] fun pre=>?_;have hz:=DP pre.1.1 pre.1.2;have hr: -9223372036854775808<=n/\n<=9223372036854775807:=pre.1;rw[show cr (.i n)=1::eA (rZ n)from rfl];have hl:=i_ hz;clear pre;repeat' first|exact zQ|with_reducible apply zJ<;>intro _|refine zK ?_
  refine app [9,14] (.inr ⟨9,1,by simp,rfl,by simp[aj]⟩:aS _ [9,14] 5 1 (.bp 9 1 1 0 1) [.int .u8 1]) (fun x' β hv=>?_) (by simp[aB];omega);replace hv:aS β [9,14] 5 1 x' (aB (1::eA (rZ n))):=hv;have hf:=hv.facts;repeat' first|exact zQ|with_reducible apply zJ<;>intro _|refine zK ?_
  exact vI (hv.mix _) rfl
 |ht s=>
  refine bf f157 [(2000005,[]),(1000009,[]),(1000017,[]),(1000027,[]),(5,[(10,8),(10,5),(10,2),(5,2),(4,2)])] [.tmp 2] fun pre=>?_;have hs:s.length<=1099511627776:=by have:=pre.2;simp[cr]at this;omega
  rw[show cr (.t s)=2::(eA s.length++s)from rfl];have hl:=i_ (u:=s.length) oM;have hw:IntKind.u64.wrap (s.length:Int)=s.length:=cU rfl (by simp[IntKind.bits];omega);have hu:s.length<18446744073709551616:=oM;clear pre;repeat' first|exact zQ|with_reducible apply zJ<;>intro _|refine zK ?_
  refine gY (.aY 1 (.aY 7 (.load 2 1 (.load 8 1 (.both 0 [1] (.both 3 [1] (.aY 4 (.both 5 [1] (.both 6 [1] (.both 9 [] (.aY 10 .fin) .stop) .stop) .stop)) .stop) (.both 3 [1] (.aY 4 (.both 0 [1] (.both 5 [1] (.both 6 [1] (.both 9 [] (.aY 10 .fin) .stop) .stop) .stop) (.both 5 [1] (.both 0 [1] (.both 6 [1] (.both 9 [] (.aY 10 .fin) .stop) .stop) .stop) .stop))) .stop)))))) ak ?_;repeat' first|exact zQ|with_reducible apply zJ<;>intro _|refine zK ?_
  refine⟨?_,?_,?_⟩;all_goals repeat' first|exact zQ|with_reducible apply zJ<;>intro _|refine zK ?_
  all_goals
   refine app [17,23,26] (.inr ⟨17,1,by simp,rfl,by simp[aj]⟩:aS _ [17,23,26] 5 1 (.bp 17 1 1 0 1) [.int .u8 2]) (fun x' β hv=>?_) (by simp[aB];omega);replace hv:aS β [17,23,26] 5 1 x' (aB (2::eA s.length)):=hv;have hf:=hv.facts;repeat' first|exact zQ|with_reducible apply zJ<;>intro _|refine zK ?_
   refine app [17,23,26] (hv.mix _) (fun x2 β2 eN=>?_) (by simp[aB];omega);rw[<-eD]at eN;have J8:=eN.facts;repeat' first|exact zQ|with_reducible apply zJ<;>intro _|refine zK ?_
   exact vI (eN.mix _) rfl
 |hl xs ih=>
  refine bf f157 [(1000009,[]),(1000017,[]),(1000027,[]),(5,[(10,8),(10,5),(10,2),(5,2),(4,2)])] [.tmp 2] fun pre=>?_;obtain⟨h1,h2,h3⟩:=Ah pre;rw[show cr (.l xs)=3::(eA xs.length++dW xs)from rfl];have hl:=i_ (u:=xs.length) oM;have hw:IntKind.u64.wrap (xs.length:Int)=xs.length:=cU rfl (by simp[IntKind.bits];omega);have hu:xs.length<18446744073709551616:=oM;clear pre;repeat' first|exact zQ|with_reducible apply zJ<;>intro _|refine zK ?_
  refine app [27,33,48] (.inr ⟨27,1,by simp,rfl,by simp[aj]⟩:aS _ [27,33,48] 5 1 (.bp 27 1 1 0 1) [.int .u8 3]) (fun x' β hv=>?_) (by simp[aB];omega);replace hv:aS β [27,33,48] 5 1 x' (aB (3::eA xs.length)):=hv;have hf:=hv.facts;repeat' first|exact zQ|with_reducible apply zJ<;>intro _|refine zK ?_
  refine bW xs [(3,4),(34,48)] (h_ [27,33,48]) (fun j τ β=>τ 4=I j/\aS β [27,33,48] 5 1 (τ 3) (aB (3::(eA xs.length++dW (xs.take j))))) (by simp[Lm];omega) ⟨by simp[go_sem],by simpa[go_sem,dW]using hv.mix _⟩ (fun j x τ β hx hj hw hi=>?_) fun τ β hn hi=>?_
  ·obtain⟨h7,h8⟩:=hi;generalize qg:τ 3=v3 at *;have Sm:=h8.facts;have hm:=mG hx;have Wx:=h3 x hm;haveI:=ih x hm;have qF:=EL hx;have ar:=EM xs (j+1);rw[qF,List.length_append]at ar;clear ih h3;repeat' first|exact zQ|with_reducible apply zJ<;>intro _|refine zK ?_
   refine app [27,33,48] (h8.mix _) (fun x2 β2 eN=>?_) (by simp[aB];omega);rw[<-eD]at eN;have J8:=eN.facts;rw[List.cons_append,List.append_assoc,<-qF]at eN;repeat' first|exact zQ|with_reducible apply zJ<;>intro _|refine zK ?_
   rw[qF]at eN;exact eN.mix _
  ·obtain⟨h7,h8⟩:=hi;rw[tL]at h8;generalize qg:τ 3=v3 at *;have Sm:=h8.facts;clear ih h3;repeat' first|exact zQ|with_reducible apply zJ<;>intro _|refine zK ?_
   exact vI (h8.mix _) rfl
instance(v:aU):Ct 91 [v.d] (ng v/\e_ v<=16) (.aI [aT (cr v),I 0]):=by
 refine bf f91 [] [.tmp 2,.tmp 3] fun pre=>?_;obtain⟨h1,h2⟩:=pre;have h3:¬16<e_ v:=oM;have h4:(if 16<e_ v then 2 else 0:Int)=0:=if_neg h3;repeat' first|exact zQ|with_reducible apply zJ<;>intro _|refine zK ?_
 all_goals trace_state
def T_{a:Nat}(h:a<18446744073709551616):a ^^^ 18446744073709551615=18446744073709551615 - a:=by
 have h1:(BitVec.ofNat 64 a ^^^ BitVec.allOnes 64).toNat=(~~~ BitVec.ofNat 64 a).toNat:=by rw[BitVec.xor_allOnes]
 rw[BitVec.toNat_xor,BitVec.toNat_not,BitVec.toNat_allOnes,BitVec.toNat_ofNat,Nat.mod_eq_of_lt h]at h1;simpa using h1
def YA{m:Nat}(h:m<9223372036854775808):du .xor .i64 (m:Int) (-1)= -(m:Int) - 1:=by
 have h1:(BitVec.ofInt 64 (m:Int) ^^^ BitVec.ofInt 64 (-1)).toNat=18446744073709551615 - m:=by rw[show BitVec.ofInt 64 (-1)=BitVec.allOnes 64 by decide,BitVec.xor_allOnes,BitVec.toNat_not,yq,Nat.mod_eq_of_lt oM]
 show IntKind.i64.wrap (((BitVec.ofInt 64 (m:Int) ^^^ BitVec.ofInt 64 (-1)).toNat:Nat):Int)=_;rw[h1];simp[IntKind.wrap,IntKind.signed,IntKind.bits];omega
def aaY{m:Nat}(h:m<9223372036854775808):du .xor .i64 (m:Int) 0=m:=by
 have h1:(BitVec.ofInt 64 (m:Int) ^^^ BitVec.ofInt 64 0).toNat=m:=by rw[show BitVec.ofInt 64 0=0#64 by decide,BitVec.xor_zero,yq,Nat.mod_eq_of_lt oM]
 show IntKind.i64.wrap (((BitVec.ofInt 64 (m:Int) ^^^ BitVec.ofInt 64 0).toNat:Nat):Int)=_;rw[h1,gp _ oM oM]
instance alY(v:aU):Ct 208 [v.d] (ng v) (.aI [I (e_ v),.bool true]):=by
 induction v using oq with
 |hi n=>
  refine bf f208 [] [.tmp 2,.tmp 3] fun pre=>?_;rw[show e_ (.i n)=0 from rfl];repeat' first|exact zQ|with_reducible apply zJ<;>intro _|refine zK ?_
  all_goals exact wk
 |ht s=>
  refine bf f208 [] [.tmp 2,.tmp 3] fun pre=>?_;rw[show e_ (.t s)=0 from rfl];repeat' first|exact zQ|with_reducible apply zJ<;>intro _|refine zK ?_
  all_goals exact wk
 |hl xs ih=>
  refine bf f208 [] [.tmp 2,.tmp 3] fun pre=>?_;obtain⟨h1,h2,h3⟩:=Ah pre;have hd:e_ (.l xs)=fb xs+1:=rfl;have w1:IntKind.i64.wrap ((fb xs:Int)+1)=((fb xs+1:Nat):Int):=aE (by have:=Ns (.l xs);have:=pre.2;omega);rw[hd];clear hd pre;repeat' first|exact zQ|with_reducible apply zJ<;>intro _|refine zK ?_
  refine bW xs [(2,3),(6,8),(57,71)] [(6,6)] (fun j τ _=>τ 57=I j/\τ 2=I (fb (xs.take j))) (by simp[Lm];omega) (by simp[go_sem,fb]) (fun j x τ β hx hj hw hi=>?_) fun τ β hn hi=>?_
  ·obtain⟨h7,h8⟩:=hi;have hm:=mG hx;have hf:=h3 x hm;have hd:max (fb (xs.take j):Int) (e_ x:Int)=(fb (xs.take (j+1)):Int):=by rw[List.take_add_one,hx,Bo];simp[fb];omega
   haveI:=ih x hm;clear ih h3;repeat' first|exact zQ|with_reducible apply zJ<;>intro _|refine zK ?_
  ·obtain⟨h7,h8⟩:=hi;rw[tL]at h8;generalize fb xs=dp at *;clear ih h3;repeat' first|exact zQ|with_reducible apply zJ<;>intro _|refine zK ?_
   all_goals first|exact wk|trace_state
instance(v:aU):Ct 153 [v.d] (ng v) (I (if 16<e_ v then 2 else 0)):=by
 refine bf f153 [] [.tmp 2] fun pre=>?_;repeat' first|exact zQ|with_reducible apply zJ<;>intro _|refine zK ?_
 ·rw[if_pos oM];exact .refl _
 ·rw[if_neg oM];exact .refl _
instance(n:Int):Ct 211 [I n] (-9223372036854775808<=n/\n<=9223372036854775807) (.int .u64 (rZ n)):=by
 refine bf f211 [] [.tmp 2] fun pre=>?_;obtain⟨h1,h2⟩:=pre;have uQ:min 1 64=1:=rfl;have qb:min 63 64=63:=rfl;by_cases h:0<=n
 ·have hz:rZ n=2 * n.toNat:=if_pos h;obtain⟨m,rfl⟩:∃m:Nat,n=m:=⟨n.toNat,by omega⟩
  have e1:IntKind.u64.wrap (m:Int)=m:=cU rfl (by simp[IntKind.bits];omega);have e2:IntKind.u64.wrap ((m:Int) * 2 ^ min 1 64)=((2 * m:Nat):Int):=by rw[show(m:Int) * 2 ^ min 1 64=((2 * m:Nat):Int) by rw[uQ];omega,cU rfl (by simp[IntKind.bits];omega)]
  have e3:(m:Int).fdiv (2 ^ min 63 64)=0:=by rw[Int.fdiv_eq_ediv_of_nonneg _ sI];rw[qb];omega
  have e4:du .xor .u64 ((2 * m:Nat):Int) 0=((2 * m:Nat):Int):=by
   have:=vp .u64 rfl (a:=2 * m) (b:=0) (by simp[IntKind.bits];omega) (by simp[IntKind.bits]);rw[Nat.xor_zero]at this;exact this
  have e5:IntKind.u64.wrap 0=0:=rfl;rw[hz,Int.toNat_natCast];clear uQ qb hz;repeat' first|exact zQ|with_reducible apply zJ<;>intro _|refine zK ?_
 ·have hz:rZ n=2 * (-(n+1)).toNat+1:=if_neg h;obtain⟨m,hm⟩:∃m:Nat,n= -(m:Int) - 1:=⟨(-(n+1)).toNat,by omega⟩
  subst hm;have e0:(-(-(m:Int) - 1+1)).toNat=m:=oM;have e1:IntKind.u64.wrap (-(m:Int) - 1)=((18446744073709551615 - m:Nat):Int):=by simp[IntKind.wrap,IntKind.signed,IntKind.bits];omega
  have e2:IntKind.u64.wrap (((18446744073709551615 - m:Nat):Int) * 2 ^ min 1 64)=((18446744073709551614 - 2 * m:Nat):Int):=by rw[uQ];simp[IntKind.wrap,IntKind.signed,IntKind.bits];omega
  have e3:(-(m:Int) - 1).fdiv (2 ^ min 63 64)= -1:=by rw[Int.fdiv_eq_ediv_of_nonneg _ sI];rw[qb];omega
  have e5:IntKind.u64.wrap (-1)=18446744073709551615:=rfl;have e4:du .xor .u64 ((18446744073709551614 - 2 * m:Nat):Int) 18446744073709551615=((2 * m+1:Nat):Int):=by
   have:=vp .u64 rfl (a:=18446744073709551614 - 2 * m) (b:=18446744073709551615) (by simp[IntKind.bits];omega) (by simp[IntKind.bits]);rw[T_ oM]at this;rw[show(18446744073709551615:Int)=((18446744073709551615:Nat):Int)from rfl,this];omega
  rw[hz,e0];clear uQ qb hz;repeat' first|exact zQ|with_reducible apply zJ<;>intro _|refine zK ?_
instance(n:Int):Ct 220 [.int .u64 (rZ n)] (-9223372036854775808<=n/\n<=9223372036854775807) (I n):=by
 refine bf f220 [] [.tmp 2] fun pre=>?_;obtain⟨h1,h2⟩:=pre;have uQ:min 1 64=1:=rfl;by_cases h:0<=n
 ·have hz:rZ n=2 * n.toNat:=if_pos h;obtain⟨m,rfl⟩:∃m:Nat,n=m:=⟨n.toNat,by omega⟩
  rw[Int.toNat_natCast]at hz;rw[hz];have e1:((2 * m:Nat):Int).fdiv (2 ^ min 1 64)=m:=by rw[Int.fdiv_eq_ediv_of_nonneg _ sI];rw[uQ];omega
  have e2:IntKind.i64.wrap (m:Int)=m:=gp _ oM oM;have e3:du .and .u64 ((2 * m:Nat):Int) 1=0:=by
   have:=wF .u64 rfl (a:=2 * m) (b:=1) (by simp[IntKind.bits];omega);rw[Nat.and_one_is_mod,show 2 * m % 2=0 by omega]at this;exact this
  have e4:IntKind.i64.wrap 0=0:=rfl;have e5:=aaY (m:=m) oM;have e6:(0:Int) - 0=0:=rfl;clear uQ hz;repeat' first|exact zQ|with_reducible apply zJ<;>intro _|refine zK ?_
 ·have hz:rZ n=2 * (-(n+1)).toNat+1:=if_neg h;obtain⟨m,hm⟩:∃m:Nat,n= -(m:Int) - 1:=⟨(-(n+1)).toNat,by omega⟩
  subst hm;rw[show(-(-(m:Int) - 1+1)).toNat=m by omega]at hz;rw[hz];have e1:((2 * m+1:Nat):Int).fdiv (2 ^ min 1 64)=m:=by rw[Int.fdiv_eq_ediv_of_nonneg _ sI];rw[uQ];omega
  have e2:IntKind.i64.wrap (m:Int)=m:=gp _ oM oM;have e3:du .and .u64 ((2 * m+1:Nat):Int) 1=1:=by
   have:=wF .u64 rfl (a:=2 * m+1) (b:=1) (by simp[IntKind.bits];omega);rw[Nat.and_one_is_mod,show(2 * m+1) % 2=1 by omega]at this;exact this
  have e4:IntKind.i64.wrap 1=1:=rfl;have e6:IntKind.i64.wrap (-1)= -1:=rfl;have e7:IntKind.i64.wrap (0 - 1)= -1:=rfl;have e5:=YA (m:=m) oM;clear uQ hz;repeat' first|exact zQ|with_reducible apply zJ<;>intro _|refine zK ?_
abbrev wS:List Nat:=[107,115,130,214,219]
def aam{u:Nat}:du .or .u8 ((UInt8.ofNat u).toNat:Int) 128=((UInt8.ofNat (u % 128+128)).toNat:Int):=by
 have:=Q2 .u8 rfl (a:=(UInt8.ofNat u).toNat) (b:=128) (by simp[IntKind.bits];omega) (by simp[IntKind.bits]);rw[show(128:Int)=((128:Nat):Int)from rfl,this]
 congr 1
 simp only[UInt8.toNat_ofNat',Nat.reducePow];have h:u % 256 % 128|||1 * 2 ^ 7=u % 256 % 128+1 * 2 ^ 7:=H_ oM
 have h2:u % 256|||128=u % 256 % 128|||1 * 2 ^ 7:=by
  apply Nat.eq_of_testBit_eq;intro i;rw[Nat.testBit_or,Nat.testBit_or,show(128:Nat)=2 ^ 7 from rfl,Nat.one_mul,Nat.testBit_mod_two_pow];by_cases hi:i<7
  ·simp[hi]
  ·by_cases fU:i=7
   ·subst fU;simp;intro _;decide
   ·have h3:(u % 256).testBit i=false:=Nat.testBit_lt_two_pow (Nat.lt_of_lt_of_le (Nat.mod_lt _ (by decide)) (show 256<=2 ^ i from(show(256:Nat)=2 ^ 8 from rfl)▸Nat.pow_le_pow_right (by decide) oM));simp[h3,hi]
 rw[h2,h];omega
def JG(bx bx':ae)(d:D)(s:ah):Prop:=aS bx' wS 5 1 d (aB s)/\∀q,q∉wS->bx' q=bx q
theorem JG.mk{bx β:ae}{d:D}{s:ah}(h:aS β wS 5 1 d (aB s)):JG bx (bc (h_ wS) β bx) d s:=by
 refine⟨h.mix _,fun q hq=>?_⟩;have:dA (h_ wS) q=false:=by
  simp[wS,h_,dA]at *;omega
 show(if dA (h_ wS) q=true then _ else _)=_;rw[this];rfl
def zm(u:Nat)(hu:u<18446744073709551616)(bs:ah)(hb:bs.length<=1099511627776)(x:D)(bx:ae)(hv:aS bx wS 5 1 x (aB bs)):
 bj prog 210 200 [x,.int .u64 u] bx (fun d bx'=>JG bx bx' d (bs++eA u)) (fun _ _=>False):=by
 refine aK (fn:=f210) (tab:=[]) (base:=200) mixed ?_ rfl ak rfl;refine aL _ [.tmp 4] 20 rfl rfl rfl ak ?_;have hf:=hv.facts;have AV:=i_ hu;generalize hR:bs++eA u=R;have hRl:R.length<=1099511627776+10:=by rw[<-hR,List.length_append];omega
 repeat' first|exact zQ|with_reducible apply zJ<;>intro _|refine zK ?_
 refine rF (u,bs) (fun g:Nat×ah=>g.1) [(0,1),(5,14)] (h_ wS) (fun g τ β=>τ 1= .int .u64 g.1/\aS β wS 5 1 (τ 0) (aB g.2)/\g.1<18446744073709551616/\Hid (g.2++eA g.1=R)) ⟨by simp[go_sem],by simpa[go_sem]using hv,hu,hR⟩ ?_;clear hR AV hu;rintro⟨v,acc⟩ τ β ⟨h1,hw,ar,he⟩;simp only at h1 hw ar he;generalize v8:τ 0=x0 at *;have xU:=hw.facts;have hl:acc.length<=1099511627786:=by
  have:=congrArg List.length he.out;simp only[List.length_append]at this;omega
 have w8:=MK (c:=v);clear hRl hb;by_cases hs:v<128
 ·have c:¬(128:Int)<=(v:Int):=oM;have he:=he.out;rw[xf hs]at he;replace he:Hid _:=he;repeat' first|exact zQ|with_reducible apply zJ<;>intro _|refine zK ?_
  refine app wS (hw.mix _) (fun x' β' kg=>?_) (by simp[aB];omega);have hZ:aS β' wS 5 1 x' (aB (acc++[UInt8.ofNat v])):=by rw[eD];exact kg
  rw[he.out]at hZ;have kK:=hZ.facts;clear he kg;repeat' first|exact zQ|with_reducible apply zJ<;>intro _|refine zK ?_
  exact JG.mk hZ
 ·have c:(128:Int)<=(v:Int):=oM;have he:=he.out;rw[BE hs]at he;have e1:(v:Int).fdiv (2 ^ min 7 64)=((v / 128:Nat):Int):=by rw[Int.fdiv_eq_ediv_of_nonneg _ sI,show(2:Int) ^ min 7 64=((128:Nat):Int)from rfl];omega
  have e2:=aam (u:=v);have hd:Hid (v / 128<v):=show v / 128<v by omega
  have qD:v / 128<18446744073709551616:=oM;generalize UInt8.ofNat (v % 128+128)=y at *;replace he:Hid _:=he;repeat' first|exact zQ|with_reducible apply zJ<;>intro _|refine zK ?_
  refine app wS (hw.mix _) (fun x' β' kg=>?_) (by simp[aB];omega);have hZ:aS β' wS 5 1 x' (aB (acc++[y])):=by rw[eD];exact kg
  have kK:=hZ.facts;clear kg;repeat' first|exact zQ|with_reducible apply zJ<;>intro _|refine zK ?_
  exact⟨(v / 128,acc++[y]),hd.out,rfl,hZ.mix _,qD,by show _=_;rw[List.append_assoc];exact he.out⟩
def MU(bx:ae)(e e1:Nat):Prop:=bx 21=⟨e1,1,1,231,[.loc 23 e 0 0]⟩/\bx 23=⟨e,1,4,297,[.agg [.raw .nilFunc,.fn (.func 209) [],.fn (.func 212) [],.fn (.func 213) [.loc 21 e1 0 0]]]⟩
def NW(bx bx':ae)(d:D):Prop:=∃e e1,d= .loc 23 e 0 0/\MU bx' e e1/\∀q,q<20->bx' q=bx q
def Jq(bx:ae):bj prog 154 20 [] bx (fun d bx'=>NW bx bx' d) (fun _ _=>False):=by
 refine aK (fn:=f154) (tab:=[]) (base:=20) mixed ?_ rfl ak rfl;refine aL _ [.tmp 0] 18 rfl rfl rfl ak ?_;repeat' first|exact zQ|with_reducible apply zJ<;>intro _|refine zK ?_
 refine⟨(bx 23).ep+1,(bx 21).ep+1,rfl,⟨by simp[aj],by simp[aj]⟩,fun q hq=>?_⟩;have h1:¬q=21:=oM;have h2:¬q=23:=oM;simp[aj,h1,h2]
def Yx:aU->FuncId
 | .i _=>209
 | .t _=>212
 | .l _=>213
def RH(e1:Nat):aU->List D
 | .l _=>[.loc 21 e1 0 0]
 |_=>[]
def MN(bx bx':ae)(d:D)(s:ah):Prop:=aS bx' wS 5 1 d (aB s)/\di [(100,1000)] bx' bx
def SL{q:Nat}(h:dA [(100,1000)] q=false):q∉wS:=by
 simp[dA]at h;simp[wS];omega
def Ia{q t:Nat}(h:dA [(100,1000)] q=false)(h1:100<=t/\t<=1000:=by decide):q≠t:=by simp[dA]at h;omega
def L2{β b:ae}{q:Nat}(h:dA [(100,1000)] q=false):bc (h_ wS) β b q=b q:=by
 have:dA (h_ wS) q=false:=by
  have:=SL h;simp[wS,h_,dA]at *;omega
 show(if dA (h_ wS) q=true then _ else _)=_;rw[this];rfl
def O_{bx:ae}{x:D}{xs:List D}{s:Nat}{v:Bx}(h:aS bx wS 5 1 x xs)(hs:s∉wS):aS (aj bx s v) wS 5 1 x xs:=h.of fun t ht=>aD fun e=>hs (e▸ht)
theorem JG.x{bx b bx':ae}{d:D}{s:ah}(h:JG b bx' d s)(hb:di [(100,1000)] b bx):MN bx bx' d s:=⟨h.1,fun q hq=>(h.2 q (SL hq)).trans (hb q hq)⟩
def UF(n:Int)(hr: -9223372036854775808<=n/\n<=9223372036854775807)(bs:ah)(x:D)(bx:ae)(hl:bs.length<=1099511627000)(hv:aS bx wS 5 1 x (aB bs)):
 bj prog 209 100 [x,.agg [I 1,I n,.str [],.sl 4 []]] bx (fun d bx'=>MN bx bx' d (bs++cr (.i n))) (fun _ _=>False):=by
 refine aK (fn:=f209) (tab:=[(2000001,[]),(1,[(6,3),(5,3)])]) (base:=100) mixed ?_ rfl ak rfl;refine aL _ [.tmp 4] 12 rfl rfl rfl ak ?_;have hz:=DP hr.1 hr.2;have hf:=hv.facts;generalize hR:bs++cr (.i n)=R;replace hR:Hid (bs++[1]++eA (rZ n)=R):=by show _=_;rw[<-hR];simp[cr]
 repeat' first|exact zQ|with_reducible apply zJ<;>intro _|refine zK ?_
 refine gY (.aY 0 (.aY 3 (.load 4 3 (.both 1 [3] (.both 2 [3] (.both 5 [] (.both 6 [] (.aY 7 .fin) .stop) .stop) .stop) .stop)))) ak ?_;repeat' first|exact zQ|with_reducible apply zJ<;>intro _|refine zK ?_
 refine app wS (O_ hv (by decide)) (fun x' β kg=>?_) (by simp[aB];omega);have hZ:aS β wS 5 1 x' (aB (bs++[1])):=by rw[eD];exact kg
 have kK:=hZ.facts;clear kg;repeat' first|exact zQ|with_reducible apply zJ<;>intro _|refine zK ?_
 refine aC (zm (rZ n) hz (bs++[1]) (by simp;omega) x' _ (hZ.mix _)) rfl fun d bx1 hq=>?_;rw[hR.out]at hq;have pC:=hq.1.facts;repeat' first|exact zQ|with_reducible apply zJ<;>intro _|refine zK ?_
 exact hq.x fun q h=>(L2 h).trans (aD (Ia h))
def UH(s:ah)(bs:ah)(x:D)(bx:ae)(hl:bs.length+s.length<=1099511627000)(hv:aS bx wS 5 1 x (aB bs)):
 bj prog 212 100 [x,.agg [I 2,I 0,.str s,.sl 4 []]] bx (fun d bx'=>MN bx bx' d (bs++cr (.t s))) (fun _ _=>False):=by
 refine aK (fn:=f212) (tab:=[(2000001,[]),(1,[(10,7),(9,7),(10,2),(9,2),(4,2)])]) (base:=100) mixed ?_ rfl ak rfl;refine aL _ [.tmp 4] 16 rfl rfl rfl ak ?_;have hf:=hv.facts;have hw:IntKind.u64.wrap (s.length:Int)=s.length:=cU rfl (by simp[IntKind.bits];omega);have mr:s.length<18446744073709551616:=oM;have AV:=i_ mr;generalize hR:bs++cr (.t s)=R;replace hR:Hid (bs++[2]++eA s.length++s=R):=by show _=_;rw[<-hR];simp[cr]
 repeat' first|exact zQ|with_reducible apply zJ<;>intro _|refine zK ?_
 refine gY (.aY 0 (.aY 3 (.aY 8 (.load 4 3 (.load 9 3 (.both 1 [3] (.both 2 [3] (.both 5 [3] (.aY 6 (.both 7 [3] (.both 10 [] (.aY 11 .fin) .stop) .stop)) .stop) (.both 5 [3] (.aY 6 (.both 2 [3] (.both 7 [3] (.both 10 [] (.aY 11 .fin) .stop) .stop) .stop)) .stop)) (.both 5 [3] (.aY 6 (.both 1 [3] (.both 2 [3] (.both 7 [3] (.both 10 [] (.aY 11 .fin) .stop) .stop) .stop) .stop)) .stop))))))) ak ?_;repeat' first|exact zQ|with_reducible apply zJ<;>intro _|refine zK ?_
 refine⟨⟨?_,?_⟩,?_⟩;all_goals
  repeat' first|exact zQ|with_reducible apply zJ<;>intro _|refine zK ?_
  refine app wS (O_ hv (by decide)) (fun x' β kg=>?_) (by simp[aB];omega);have hZ:aS β wS 5 1 x' (aB (bs++[2])):=by rw[eD];exact kg
  have kK:=hZ.facts;clear kg;repeat' first|exact zQ|with_reducible apply zJ<;>intro _|refine zK ?_
  refine aC (zm s.length mr (bs++[2]) (by simp;omega) x' _ (hZ.mix _)) rfl fun d bx1 hq=>?_;have pC:=hq.1.facts;have k3:=hq.2 103 (by decide);have kq:di [(100,1000)] bx1 bx:=fun q h=>(hq.2 q (SL h)).trans ((L2 h).trans (aD (Ia h)));replace kq:Hid _:=kq;have oQ:=hq.1;clear hq;repeat' first|exact zQ|with_reducible apply zJ<;>intro _|refine zK ?_
  refine app wS oQ (fun x2 β2 SH=>?_) (by simp[aB];omega);have W4:aS β2 wS 5 1 x2 (aB (bs++[2]++eA s.length++s)):=by rw[eD];exact SH
  rw[hR.out]at W4;have J8:=W4.facts;clear SH;repeat' first|exact zQ|with_reducible apply zJ<;>intro _|refine zK ?_
  exact⟨W4.mix _,fun q h=>(L2 h).trans (kq.out q h)⟩
def Wr(v:aU):Prop:=∀(bs:ah) (x:D) (bx:ae) (e e1:Nat),bs.length+(cr v).length<=1099511627000->aS bx wS 5 1 x (aB bs)->MU bx e e1->
 bj prog (Yx v) 100 ([x,v.d]++RH e1 v) bx (fun d bx'=>MN bx bx' d (bs++cr v)) (fun _ _=>False)
def UG(xs:List aU)(ih:∀x∈xs,ng x->Wr x)(hx:ng (.l xs))(bs:ah)(x:D)(bx:ae)(e e1:Nat)(hl:bs.length+(cr (.l xs)).length<=1099511627000)(hv:aS bx wS 5 1 x (aB bs))(hw:MU bx e e1):
 bj prog 213 120 [x,.agg [I 3,I 0,.str [],.sl 4 (xs.map aU.d)],.loc 21 e1 0 0] bx (fun d bx'=>MN bx bx' d (bs++cr (.l xs))) (fun _ _=>False):=by
 refine aK (fn:=f213) (tab:=[(2000001,[]),(2000005,[]),(1,[(7,4),(6,4)])]) (base:=120) mixed ?_ rfl ak rfl;refine aL _ [.tmp 5] 35 rfl rfl rfl ak ?_;have hf:=hv.facts;obtain⟨f1,f2,f3⟩:=Ah hx;have Kj:IntKind.u64.wrap (xs.length:Int)=xs.length:=cU rfl (by simp[IntKind.bits];omega);have mr:xs.length<18446744073709551616:=oM;have AV:=i_ mr;have er:bs.length+(1+((eA xs.length).length+(dW xs).length))<=1099511627000:=by simp[cr]at hl;omega
 clear hl hx;generalize hR:bs++cr (.l xs)=R;replace hR:Hid (bs++[3]++eA xs.length++dW xs=R):=by show _=_;rw[<-hR];simp[cr]
 have pG:=hw.1;have hZ:=hw.2;repeat' first|exact zQ|with_reducible apply zJ<;>intro _|refine zK ?_
 refine gY (.aY 0 (.aY 3 (.load 4 4 (.both 1 [4] (.both 2 [4] (.both 5 [] (.aY 6 (.both 7 [] (.aY 8 .fin) .stop)) .stop) (.both 5 [] (.aY 6 (.both 2 [4] (.both 7 [] (.aY 8 .fin) .stop) .stop)) .stop)) (.both 5 [] (.aY 6 (.both 1 [4] (.both 2 [4] (.both 7 [] (.aY 8 .fin) .stop) .stop) .stop)) .stop))))) ak ?_;repeat' first|exact zQ|with_reducible apply zJ<;>intro _|refine zK ?_
 refine⟨⟨?_,?_⟩,?_⟩;all_goals
  repeat' first|exact zQ|with_reducible apply zJ<;>intro _|refine zK ?_
  refine app wS (O_ hv (by decide)) (fun x' β kg=>?_) (by simp[aB];omega);have eN:aS β wS 5 1 x' (aB (bs++[3])):=by rw[eD];exact kg
  have kK:=eN.facts;clear kg;repeat' first|exact zQ|with_reducible apply zJ<;>intro _|refine zK ?_
  refine aC (zm xs.length mr (bs++[3]) (by simp;omega) x' _ (eN.mix _)) rfl fun d bx1 hq=>?_;have pC:=hq.1.facts;have k4:=hq.2 124 (by decide);have kq:di [(100,1000)] bx1 bx:=fun q h=>(hq.2 q (SL h)).trans ((L2 h).trans (aD (Ia h)));have oQ:=hq.1;have Xn:=(kq 21 rfl).trans pG;have Xo:=(kq 23 rfl).trans hZ;clear hq kK eN;repeat' first|exact zQ|with_reducible apply zJ<;>intro _|refine zK ?_
  refine fresh (fun σ' B=>σ' 0=d/\σ' 2= .loc 21 e1 0 0/\σ' 17= .sl 4 (xs.map aU.d)/\σ' 18=I xs.length/\σ' 19=I 0/\aS B wS 5 1 d (aB (bs++[3]++eA xs.length))/\di [(100,1000)] B bx) ⟨by simp[go_sem],by simp[go_sem],by simp[go_sem],by simp[go_sem],by simp[go_sem],oQ,kq⟩ ?_;clear k4 kq oQ Xn Xo;rintro σ B ⟨s0,s2,s17,s18,s19,oQ,kq⟩;refine bW xs [(0,0),(7,7),(19,33)] [(100,1000)] (fun j τ β=>τ 19=I j/\aS β wS 5 1 (τ 0) (aB (bs++[3]++eA xs.length++dW (xs.take j)))) (by simp[Lm];omega) ⟨s19,by rw[s0];simpa[dW]using oQ⟩ (fun j y τ β hx hj hw hi=>?_) fun τ β hn hi=>?_
  ·obtain⟨NL,Kh⟩:=hi;generalize v8:τ 0=v0 at *;have hm:=mG hx;have hfy:=f3 y hm;have hWy:=ih y hm hfy;have xU:=Kh.facts;have kj:di [(100,1000)] (bc [(100,1000)] β B) bx:=fun q h=>(di.nH q h).trans (kq q h);have Xn:=(kj 21 rfl).trans pG;have Xo:=(kj 23 rfl).trans hZ;have qF:=EL hx;have ar:=EM xs (j+1);rw[qF,List.length_append]at ar;have hl3:(bs++[3]++eA xs.length++dW (xs.take j)).length+(cr y).length<=1099511627000:=by
    have:=er;simp only[List.length_append,List.length_cons,List.length_nil];omega
   replace qF:Hid _:=qF;clear ih f3;cases y;all_goals
    repeat' first|exact zQ|with_reducible apply zJ<;>intro _|refine zK ?_
    refine gY (.aY 1 (.aY 7 (.load 2 7 (.load 8 7 (.both 0 [7] (.aY 3 (.aY 4 (.aY 5 (.both 6 [7] (.both 9 [] (.aY 10 .fin) .stop) .stop)))) .stop))))) ak ?_;repeat' first|exact zQ|with_reducible apply zJ<;>intro _|refine zK ?_
    have hc:=fun b (h1:aS b wS 5 1 v0 _) (h2:MU b e e1)=>hWy _ v0 b e e1 hl3 h1 h2;simp only[Ev,MH,nQ,Yx,RH,List.cons_append,List.nil_append]at hc;refine aC (hc _ (O_ (O_ (Kh.mix _) (by decide)) (by decide)) ⟨(aD (by decide)).trans ((aD (by decide)).trans Xn),(aD (by decide)).trans ((aD (by decide)).trans Xo)⟩) rfl fun d2 bK iM=>?_;have J8:=iM.1.facts;have eN:=iM.1;rw[List.append_assoc,<-qF.out]at eN;have kb:di [(100,1000)] bK B:=fun q h=>(iM.2 q h).trans ((aD (Ia h)).trans ((aD (Ia h)).trans (di.nH q h)));clear hc iM;repeat' first|exact zQ|with_reducible apply zJ<;>intro _|refine zK ?_
    trace_state
  ·obtain⟨NL,Kh⟩:=hi;rw[tL,hR.out]at Kh;generalize v8:τ 0=v0 at *;have xU:=Kh.facts;repeat' first|exact zQ|with_reducible apply zJ<;>intro _|refine zK ?_
   exact⟨Kh.mix _,fun q h=>(di.nH q h).trans (kq q h)⟩
theorem UE(v:aU)(hf:ng v):Wr v:=by
 induction v using oq with
 |hi n=>exact fun bs x bx e e1 hl hv hw=>UF n hf.1 bs x bx oM hv
 |ht s=>exact fun bs x bx e e1 hl hv hw=>UH s bs x bx (by simp[cr]at hl;omega) hv
 |hl xs ih=>
  intro bs x bx e e1 hl hv hw;have:=UG xs (fun x hx _=>ih x hx ((Ah hf).2.2 x hx)) hf bs x bx e e1 hl hv hw;show bj _ _ _ [x,(aU.l xs).d,.loc 21 e1 0 0] _ _ _;rw[nQ];exact this
instance(v:aU):Ct 87 [v.d] (ng v/\e_ v<=16/\(cr v).length<=1099511627000) (.aI [aT (cr v),I 0]):=by
 refine bf f87 [(2000004,[]),(4,[(10,8),(10,3)])] [.tmp 2,.tmp 3] fun pre=>?_;obtain⟨h1,h2,h3⟩:=pre;have h4:(if 16<e_ v then 2 else 0:Int)=0:=if_neg oM;have hW:=UE v h1;generalize hR:cr v=R at *;replace hR:Hid _:=hR;repeat' first|exact zQ|with_reducible apply zJ<;>intro _|refine zK ?_
 cases v;all_goals
  refine gY (.aY 1 (.load 2 1 (.load 7 1 (.both 0 [1] (.aY 3 (.aY 4 (.aY 5 (.load 6 23 (.both 8 [] (.aY 9 (.aY 10 .fin)) .stop))))) .stop)))) ak ?_;repeat' first|exact zQ|with_reducible apply zJ<;>intro _|refine zK ?_
  refine aC (Jq _) rfl fun d bx1 hq=>?_;obtain⟨e,e1,rfl,hw,hk⟩:=hq;have k1:=hk 1 (by decide);have hZ:=hw.2;have hc:=fun b (q1:aS b wS 5 1 .aq (aB [])) (q2:MU b e e1)=>hW [] .aq b e e1 (by rw[hR.out];simpa using h3) q1 q2;simp only[Ev,MH,nQ,Yx,RH,List.cons_append,List.nil_append]at hc;clear hk;repeat' first|exact zQ|with_reducible apply zJ<;>intro _|refine zK ?_
  refine aC (hc _ (.nil _ _ _ _) hw) rfl fun d2 bK iM=>?_;have J8:=iM.1.facts;have eN:=iM.1;rw[hR.out]at eN;clear hc iM hW;repeat' first|exact zQ|with_reducible apply zJ<;>intro _|refine zK ?_
  exact Mr eN rfl
def RD(bx:ae)(e:Nat)(s:ah):Prop:=bx 8=⟨e,1,1,244,[.agg [aT s]]⟩
def Wnt(bx bx':ae)(d:D):Prop:=d= .aI []/\bx'=bx
def wz(e:Nat)(bx:ae):bj prog 169 300 [.loc 8 e 0 0,.bool true] bx (fun d bx'=>Wnt bx bx' d) (fun _ _=>False):=by
 refine aK (fn:=f169) (tab:=[]) (base:=300) mixed ?_ rfl ak rfl;refine aL _ [] 7 rfl rfl rfl ak ?_;repeat' first|exact zQ|with_reducible apply zJ<;>intro _|refine zK ?_
 exact⟨rfl,rfl⟩
def UW(bx bx':ae)(e:Nat)(d d0:D)(s:ah):Prop:=d=d0/\RD bx' e s/\∀q,q≠8->bx' q=bx q
def wv(e n:Nat)(s:ah)(bx:ae)(h:RD bx e s)(hn:n<=s.length)(hs:s.length<=1099511627776):bj prog 219 310 [.loc 8 e 0 0,I n] bx (fun d bx'=>UW bx bx' e d (.ij 1 (aB (s.take n))) (s.drop n)) (fun _ _=>False):=by
 refine aK (fn:=f219) (tab:=[]) (base:=310) mixed ?_ rfl ak rfl;refine aL _ [.tmp 4] 32 rfl rfl rfl ak ?_;have hb:bx 8=⟨e,1,1,244,[.agg [aT s]]⟩:=h;have c1:(n:Int)<=(s.length:Int):=oM;repeat' first|exact zQ|with_reducible apply zJ<;>intro _|refine zK ?_
 refine aC (wz e bx) rfl fun d bx1 hq=>?_;obtain⟨rfl,rfl⟩:=hq;repeat' first|exact zQ|with_reducible apply zJ<;>intro _|refine zK ?_
 exact⟨rfl,by simp[RD,aj],fun q hq=>aD hq⟩
def HQ{x i:Nat}(hi:i<=9)(h:x * 128 ^ i<18446744073709551616):IntKind.u64.wrap ((x:Int) * 2 ^ min (7 * i) 64)=((x * 128 ^ i:Nat):Int):=by
 rw[show min (7 * i) 64=7 * i by omega,show(x:Int) * 2 ^ (7 * i)=((x * 128 ^ i:Nat):Int) by rw[XU];simp];exact cU rfl (by simpa[IntKind.bits]using h)
def OE{a x i:Nat}(ha:a<128 ^ i)(h:a+x * 128 ^ i<18446744073709551616):du .or .u64 (a:Int) ((x * 128 ^ i:Nat):Int)=((a+x * 128 ^ i:Nat):Int):=by
 rw[Q2 .u64 rfl (by simp only[IntKind.bits];omega) (by simp only[IntKind.bits];omega)]
 congr 1
 rw[XU]at *;exact H_ ha
def Zl(c:UInt8):du .and .u8 (c.toNat:Int) 127=((c.toNat % 128:Nat):Int):=by
 have:=wF .u8 rfl (a:=c.toNat) (b:=127) (by simpa[IntKind.bits]using c.toNat_lt);rw[Tk]at this;exact this
def HY(u:Nat)(hu:u<18446744073709551616)(r:ah)(hr:r.length<=1099511627000)(e:Nat)(bx:ae)(h:RD bx e (eA u++r)):bj prog 221 350 [.loc 8 e 0 0] bx (fun d bx'=>UW bx bx' e d (.int .u64 u) r) (fun _ _=>False):=by
 refine aK (fn:=f221) (tab:=[]) (base:=350) mixed ?_ rfl ak rfl;refine aL _ [.tmp 2] 38 rfl rfl rfl ak ?_;repeat' first|exact zQ|with_reducible apply zJ<;>intro _|refine zK ?_
 refine rF (u,0,0) (fun g:Nat×Nat×Nat=>g.1) [(2,37)] [(8,8)] (fun g τ β=>τ 3=I g.2.1/\τ 2= .int .u64 g.2.2/\RD β e (eA g.1++r)/\Hid (g.2.2+g.1 * 128 ^ g.2.1=u/\g.2.2<128 ^ g.2.1/\g.2.1<=9/\(g.2.1=0\/g.1≠0))) ⟨by simp[go_sem],by simp[go_sem],h,by show _/\_;simp⟩ ?_;rintro⟨v,i,a⟩ τ β ⟨h3,h2,hb,hg⟩;simp only at h3 h2 hb hg;obtain⟨g1,g2,g3,g4⟩:=hg.out;clear hg;have WA:i=9->v<=1:=fun h=>by subst h;omega
 have hac:=fun c:UInt8=>Zl c;have w2:IntKind.i64.wrap (7 * (i:Int))=((7 * i:Nat):Int):=by rw[gp _ oM oM];omega
 have w5:IntKind.i64.wrap ((i:Int)+1)=((i+1:Nat):Int):=aE oM;by_cases hs:v<128
 ·rw[xf hs]at hb;have ht:(UInt8.ofNat v).toNat=v:=by simp;omega
  have hP:v * 128 ^ i<18446744073709551616:=oM;have w3:=HQ g3 hP;have w4:=OE g2 (x:=v) oM;rw[g1]at w4;have w1:IntKind.u64.wrap (v:Int)=v:=cU rfl (by simp[IntKind.bits];omega);generalize UInt8.ofNat v=c at *;have m1:c.toNat % 128=v:=oM;have eW:((i:Int)=0/\(i:Int)<9)\/(¬(i:Int)=0/\(i:Int)<9/\¬(c.toNat:Int)=0)\/(¬(i:Int)=0/\¬(i:Int)<9/\¬(c.toNat:Int)=0/\(c.toNat:Int)<=1):=oM;have ar:(c.toNat:Int)<128:=oM;have Hc:bc [(8,8)] β bx 8=⟨e,1,1,244,[.agg [aT ([c]++r)]]⟩:=hb;have Wh:=wv e 1 ([c]++r) (bc [(8,8)] β bx) Hc sI (by simp;omega);clear g1 hP ht WA g4 hb Hc g2;have w3z:(i:Int)=0->IntKind.u64.wrap ((v:Int) * 2 ^ min (7 * 0:Int).toNat 64)=((v * 128 ^ i:Nat):Int):=fun h=>by
   have:i=0:=oM;subst this;simpa using w3
  replace w3z:Hid _:=w3z;rcases eW with⟨k1,k2⟩|⟨k1,k2,k3⟩|⟨k1,k2,k3,k4⟩
  all_goals
   try have w3y:=w3z.out k1
   repeat' first|exact zQ|with_reducible apply zJ<;>intro _|refine zK ?_
   refine aC Wh rfl fun d bx1 hq=>?_;obtain⟨rfl,q1,q2⟩:=hq;replace q2:Hid _:=q2;repeat' first|exact zQ|with_reducible apply zJ<;>intro _|refine zK ?_
   refine aC (wz e bx1) rfl fun d bK hq=>?_;obtain⟨rfl,rfl⟩:=hq;repeat' first|exact zQ|with_reducible apply zJ<;>intro _|refine zK ?_
   exact⟨rfl,q1,fun q hq=>(q2.out q hq).trans (by simp[bc,dA];intro h1 h2;omega)⟩
 ·rw[BE hs]at hb;have ht:(UInt8.ofNat (v % 128+128)).toNat=v % 128+128:=by simp;omega
  have hle:128 ^ (i+1) * (v / 128)<=v * 128 ^ i:=by rw[Nat.pow_succ,Nat.mul_assoc,Nat.mul_comm];exact Nat.mul_le_mul_right _ oM
  have Hf:(v % 128) * 128 ^ i+(v / 128) * 128 ^ (i+1)=v * 128 ^ i:=by rw[Nat.pow_succ,Nat.mul_comm (128 ^ i) 128,<-Nat.mul_assoc,<-Nat.add_mul];congr 1;omega
  have hi8:i<9:=by
   rcases Nat.lt_or_ge i 9 with h|h
   ·exact h
   ·have:=WA oM;omega
  have w3:=HQ (x:=v % 128) g3 oM;have w4:=OE g2 (x:=v % 128) oM;have w1:IntKind.u64.wrap ((v % 128:Nat):Int)=((v % 128:Nat):Int):=cU rfl (by simp[IntKind.bits];omega);generalize UInt8.ofNat (v % 128+128)=c at *;have m1:c.toNat % 128=v % 128:=oM;have eW:((i:Int)=0/\(i:Int)<9)\/(¬(i:Int)=0/\(i:Int)<9/\¬(c.toNat:Int)=0):=oM;have ar:¬(c.toNat:Int)<128:=oM;have Od:128 ^ (i+1)=128 ^ i * 128:=Nat.pow_succ ..;have n2:a+v % 128 * 128 ^ i<128 ^ (i+1):=by
   have:v % 128 * 128 ^ i<=127 * 128 ^ i:=Nat.mul_le_mul_right _ oM;omega
  have n1:a+v % 128 * 128 ^ i+v / 128 * 128 ^ (i+1)=u:=by rw[Nat.add_assoc,Hf];exact g1
  have n4:v / 128≠0:=oM;have n5:v / 128<v:=oM;have Hc:bc [(8,8)] β bx 8=⟨e,1,1,244,[.agg [aT (c::eA (v / 128)++r)]]⟩:=hb;have Hp:(c::eA (v / 128)++r).length<=1099511627776:=by
   have im:v<=v * 128 ^ i:=Nat.le_mul_of_pos_right _ (Nat.pow_pos (by decide));have:=i_ (u:=v / 128) oM;simp;omega
  have Wh:=wv e 1 (c::eA (v / 128)++r) (bc [(8,8)] β bx) Hc sI Hp;generalize hX:a+v % 128 * 128 ^ i=X at *;generalize v / 128=v' at *;have hN:Hid (X+v' * 128 ^ (i+1)=u/\X<128 ^ (i+1)/\i+1<=9/\(i+1=0\/v'≠0)):=by show _/\_;exact⟨n1,n2,by omega,.inr n4⟩
  replace n5:Hid _:=n5;clear g1 ht WA g4 hb Hc g2 hle Hf Od n1 n2 n4 Hp hX;have w3z:(i:Int)=0->IntKind.u64.wrap (((v % 128:Nat):Int) * 2 ^ min (7 * 0:Int).toNat 64)=((v % 128 * 128 ^ i:Nat):Int):=fun h=>by
   have:i=0:=oM;subst this;simpa using w3
  replace w3z:Hid _:=w3z;rcases eW with⟨k1,k2⟩|⟨k1,k2,k3⟩
  all_goals
   try have w3y:=w3z.out k1
   repeat' first|exact zQ|with_reducible apply zJ<;>intro _|refine zK ?_
   refine aC Wh rfl fun d bx1 hq=>?_;obtain⟨rfl,q1,q2⟩:=hq;have q3:di [(8,8)] bx1 bx:=fun q hq=>by
    have:q≠8:=by simp[dA]at hq;omega
    exact(q2 q this).trans (by simp[bc,dA];intro h1 h2;omega)
   clear q2;repeat' first|exact zQ|with_reducible apply zJ<;>intro _|refine zK ?_
   refine aC (wz e bx1) rfl fun d bK hq=>?_;obtain⟨rfl,rfl⟩:=hq;repeat' first|exact zQ|with_reducible apply zJ<;>intro _|refine zK ?_
   refine⟨(v',i+1,X),n5.out,?_,rfl,q1,hN⟩;first|rfl|exact congrArg I (show(0:Int)+1=((i+1:Nat):Int) by omega)
def HL(n:Nat)(r:ah)(hr:r.length<=1099511627000)(hn:n<=r.length)(e:Nat)(bx:ae)(h:RD bx e (eA n++r)):bj prog 222 390 [.loc 8 e 0 0] bx (fun d bx'=>UW bx bx' e d (I n) r) (fun _ _=>False):=by
 refine aK (fn:=f222) (tab:=[]) (base:=390) mixed ?_ rfl ak rfl;refine aL _ [.tmp 2] 18 rfl rfl rfl ak ?_;have w1:IntKind.u64.wrap (r.length:Int)=r.length:=cU rfl (by simp[IntKind.bits];omega);have w2:IntKind.i64.wrap (n:Int)=n:=gp _ oM oM;have c1:(n:Int)<=(r.length:Int):=oM;repeat' first|exact zQ|with_reducible apply zJ<;>intro _|refine zK ?_
 refine aC (HY n oM r hr e _ h) rfl fun d bx1 hq=>?_;obtain⟨rfl,q1,q2⟩:=hq;have hb:bx1 8=⟨e,1,1,244,[.agg [aT r]]⟩:=q1;replace q2:Hid _:=q2;repeat' first|exact zQ|with_reducible apply zJ<;>intro _|refine zK ?_
 refine aC (wz e bx1) rfl fun d bK hq=>?_;obtain⟨rfl,rfl⟩:=hq;repeat' first|exact zQ|with_reducible apply zJ<;>intro _|refine zK ?_
 exact⟨rfl,q1,q2.out⟩
@[go_sem] def abt(T:TypeId->TI)(e z0 b s s':Nat)(g0 g g':Bool)(z z':List D)(es:List D):re T ⟨.slice e z0 b g0,s,g,z⟩ ⟨.str,s',g',z'⟩ (.ij 1 es)=if(T e).k.qR=true then(ji es).map .str else none:=by simp[re]
def Vl(b:Nat)(bx bx':ae)(e:Nat)(v:aU)(r:ah)(d:D):Prop:=∃x,bD bx' d=some x/\bN x v.d/\RD (dX bx' [d]) e r/\∀q,q<b->q≠8->dX bx' [d] q=bx q
theorem RD.up{bx:ae}{e t:Nat}{s:ah}{v:Bx}(h:RD bx e s)(ht:(8:Nat)≠t):RD (aj bx t v) e s:=(aD ht).trans h
theorem RD.of{bx bx':ae}{e:Nat}{s:ah}(h:RD bx e s)(ht:bx' 8=bx 8):RD bx' e s:=ht.trans h
def UA(n:Int)(hn: -9223372036854775808<=n/\n<=9223372036854775807)(b dp:Nat)(hb:8<b)(r:ah)(hr:r.length<=1099511620000)(e:Nat)(bx:ae)(h:RD bx e (cr (.i n)++r)):
 bj prog 168 b [.loc 8 e 0 0,I dp] bx (fun d bx'=>Vl b bx bx' e (.i n) r d) (fun _ _=>False):=by
 refine aK (fn:=f168) (tab:=[(2000012,[]),(12,[(8,4),(8,3)])]) (base:=b) mixed ?_ rfl ak rfl;refine aL _ [.cell 4 158] 50 rfl rfl rfl ak ?_;have bw:(8:Nat)≠b+4:=oM;have vD:b+4≠8:=oM;have hz:=DP hn.1 hn.2;rw[show cr (.i n)++r=1::(eA (rZ n)++r)from rfl]at h;have hl:=i_ hz;have w1:IntKind.i64.wrap ((UInt8.toNat 1:Nat):Int)=1:=rfl;repeat' first|exact zQ|with_reducible apply zJ<;>intro _|refine zK ?_
 refine aC (wv e 1 _ _ (h.up bw) sI (by simp;omega)) rfl fun d bx1 hq=>?_;obtain⟨rfl,q1,q2⟩:=hq;have k4:=q2 (b+4) vD;have kr:∀q,q<b->q≠8->bx1 q=bx q:=fun q h1 h2=>(q2 q h2).trans (aD oM);replace kr:Hid _:=kr;clear q2 h;repeat' first|exact zQ|with_reducible apply zJ<;>intro _|refine zK ?_
 refine aC (HY (rZ n) hz r oM e _ (q1.up bw)) rfl fun d bK hq=>?_;obtain⟨rfl,q3,q4⟩:=hq;have k5:=q4 (b+4) vD;have uX:∀q,q<b->q≠8->bK q=bx q:=fun q h1 h2=>((q4 q h2).trans (aD oM)).trans (kr.out q h1 h2);replace uX:Hid _:=uX;clear q4 q1 kr;repeat' first|exact zQ|with_reducible apply zJ<;>intro _|refine zK ?_
 refine⟨.agg [I 1,I n,.str [],.aq],rfl,RL n,?_,fun q h1 h2=>?_⟩
 ·exact(q3.up bw).up bw
 ·exact((aD oM).trans (aD oM)).trans (uX.out q h1 h2)
def UC(s:ah)(b dp:Nat)(hb:8<b)(r:ah)(hr:s.length+r.length<=1099511620000)(e:Nat)(bx:ae)(h:RD bx e (cr (.t s)++r)):
 bj prog 168 b [.loc 8 e 0 0,I dp] bx (fun d bx'=>Vl b bx bx' e (.t s) r d) (fun _ _=>False):=by
 refine aK (fn:=f168) (tab:=[(2000012,[]),(12,[(8,4),(8,3)])]) (base:=b) mixed ?_ rfl ak rfl;refine aL _ [.cell 4 158] 50 rfl rfl rfl ak ?_;have bw:(8:Nat)≠b+4:=oM;have vD:b+4≠8:=oM;rw[show cr (.t s)++r=2::(eA s.length++(s++r)) by simp[cr]]at h;have hl:=i_ (u:=s.length) oM;have w1:IntKind.i64.wrap ((UInt8.toNat 2:Nat):Int)=2:=rfl;repeat' first|exact zQ|with_reducible apply zJ<;>intro _|refine zK ?_
 refine aC (wv e 1 _ _ (h.up bw) sI (by simp;omega)) rfl fun d bx1 hq=>?_;obtain⟨rfl,q1,q2⟩:=hq;have k4:=q2 (b+4) vD;have kr:∀q,q<b->q≠8->bx1 q=bx q:=fun q h1 h2=>(q2 q h2).trans (aD oM);replace kr:Hid _:=kr;clear q2 h;repeat' first|exact zQ|with_reducible apply zJ<;>intro _|refine zK ?_
 refine aC (HL s.length (s++r) (by simp;omega) sI e _ (q1.up bw)) rfl fun d bK hq=>?_;obtain⟨rfl,q3,q4⟩:=hq;have k5:=q4 (b+4) vD;have uX:∀q,q<b->q≠8->bK q=bx q:=fun q h1 h2=>((q4 q h2).trans (aD oM)).trans (kr.out q h1 h2);replace uX:Hid _:=uX;clear q4 q1 kr;repeat' first|exact zQ|with_reducible apply zJ<;>intro _|refine zK ?_
 refine aC (wv e s.length _ _ q3 sI (by simp;omega)) rfl fun d uK hq=>?_;obtain⟨rfl,q5,q6⟩:=hq;have k6:=(q6 (b+4) vD).trans k5;have HJ:∀q,q<b->q≠8->uK q=bx q:=fun q h1 h2=>(q6 q h2).trans (uX.out q h1 h2);replace HJ:Hid _:=HJ;rw[List.take_left];rw[List.drop_left]at q5;clear q6 q3 uX k5;repeat' first|exact zQ|with_reducible apply zJ<;>intro _|refine zK ?_
 refine⟨.agg [I 2,I 0,.str s,.aq],rfl,RO s,?_,fun q h1 h2=>?_⟩
 ·exact(q5.up bw).up bw
 ·exact((aD oM).trans (aD oM)).trans (HJ.out q h1 h2)
def Rdv(v:aU):Prop:=∀(b dp:Nat),8<b->dp+e_ v<=16->∀(r:ah),(cr v).length+r.length<=1099511620000->∀(e:Nat) (bx:ae),RD bx e (cr v++r)->
 bj prog 168 b [.loc 8 e 0 0,I dp] bx (fun d bx'=>Vl b bx bx' e v r d) (fun _ _=>False)
def UB(xs:List aU)(ih:∀x∈xs,Rdv x)(b dp:Nat)(hb:8<b)(Hg:dp+e_ (.l xs)<=16)(r:ah)(hr:(cr (.l xs)).length+r.length<=1099511620000)(e:Nat)(bx:ae)(h:RD bx e (cr (.l xs)++r)):
 bj prog 168 b [.loc 8 e 0 0,I dp] bx (fun d bx'=>Vl b bx bx' e (.l xs) r d) (fun _ _=>False):=by
 refine aK (fn:=f168) (tab:=[(2000012,[]),(12,[(8,4),(8,3)])]) (base:=b) mixed ?_ rfl ak rfl;refine aL _ [.cell 4 158] 50 rfl rfl rfl ak ?_;have bw:(8:Nat)≠b+4:=oM;have vD:b+4≠8:=oM;rw[show cr (.l xs)++r=3::(eA xs.length++(dW xs++r)) by simp[cr]]at h;have qe:(dW xs).length+r.length<=1099511620000:=by simp[cr]at hr;omega
 have lA:=tM xs;have hl:=i_ (u:=xs.length) oM;have w1:IntKind.i64.wrap ((UInt8.toNat 3:Nat):Int)=3:=rfl;have p9:e_ (.l xs)=fb xs+1:=rfl;have c1:(dp:Int)<16:=oM;clear hr;repeat' first|exact zQ|with_reducible apply zJ<;>intro _|refine zK ?_
 refine aC (wv e 1 _ _ (h.up bw) sI (by simp;omega)) rfl fun d bx1 hq=>?_;obtain⟨rfl,q1,q2⟩:=hq;have k4:=q2 (b+4) vD;have kr:∀q,q<b->q≠8->bx1 q=bx q:=fun q h1 h2=>(q2 q h2).trans (aD oM);replace kr:Hid _:=kr;clear q2 h;repeat' first|exact zQ|with_reducible apply zJ<;>intro _|refine zK ?_
 refine aC (wz e _) rfl fun d bK hq=>?_;obtain⟨rfl,rfl⟩:=hq;repeat' first|exact zQ|with_reducible apply zJ<;>intro _|refine zK ?_
 refine aC (HL xs.length (dW xs++r) (by simp;omega) (by simp;omega) e _ (q1.up bw)) rfl fun d bK hq=>?_;obtain⟨rfl,q3,q4⟩:=hq;have k5:=q4 (b+4) vD;have uX:∀q,q<b->q≠8->bK q=bx q:=fun q h1 h2=>((q4 q h2).trans (aD oM)).trans (kr.out q h1 h2);replace uX:Hid _:=uX;clear q4 q1 kr;repeat' first|exact zQ|with_reducible apply zJ<;>intro _|refine zK ?_
 generalize(bx (b+4)).ep+1=e4 at *;refine bo xs.length (fun k σ B=>σ 0= .loc 8 e 0 0/\σ 1=I dp/\σ 4= .loc (b+4) e4 0 0/\σ 36=I xs.length/\σ 37=I k/\RD B e (dW (xs.drop k)++r)/\(∃x,B (b+4)=⟨e4,1,4,158,[.agg [I 3,I 0,.str [],x]]⟩/\aS B [b+46] 158 4 x ((xs.take k).map aU.d))/\Hid (∀q,q<b->q≠8->B q=bx q))
  ⟨by simp[go_sem],by simp[go_sem],by simp[go_sem],by simp[go_sem],by simp[go_sem],q3,⟨.aq,by rw[k5];simp[aj],.nil _ _ _ _⟩,uX⟩ ?_ ?_
 ·clear k4 k5 q3 uX;rintro k σ B hk ⟨s0,s1,s4,s36,s37,hR,⟨x,hB,hv⟩,kr⟩;obtain⟨y,hy⟩:∃y,xs[k]? =some y:=⟨_,gE hk⟩
  have hm:=mG hy;have hI:=ih y hm;have hdy:=PV hm;have CO:dW (xs.drop k)=cr y++dW (xs.drop (k+1)):=by rw[List.drop_eq_getElem_cons hk,show xs[k]=y by simpa[gE hk]using hy];rfl
  have Hp:(cr y).length+(dW (xs.drop (k+1))++r).length<=1099511620000:=by
   have:=congrArg (fun l=>(dW l).length) (List.take_append_drop k xs);simp only[wR,CO,List.length_append]at this;simp only[List.length_append];omega
  rw[CO,List.append_assoc]at hR;have c2:(k:Int)<(xs.length:Int):=oM;have w2:IntKind.i64.wrap ((dp:Int)+1)=((dp+1:Nat):Int):=aE oM;have w3:IntKind.i64.wrap ((k:Int)+1)=((k+1:Nat):Int):=aE oM;have hf:=hv.facts;have hc:=hI (b+50) (dp+1) oM oM _ Hp e B hR;clear hI ih CO Hp Hg;repeat' first|exact zQ|with_reducible apply zJ<;>intro _|refine zK ?_
  refine gY (.aY 0 (.aY 2 (.aY 3 (.aY 4 (.load 1 4 (.both 5 [4] (.both 6 [4] (.both 7 [] (.aY 8 (.both 9 [] .fin .stop)) .stop) .stop) .stop)))))) ak ?_;repeat' first|exact zQ|with_reducible apply zJ<;>intro _|refine zK ?_
  refine wJ hc rfl (fun d bx1 hp=>?_) fun d bx1 hp=>hp.elim;obtain⟨z,z1,z2,z3,z4⟩:=hp;refine⟨z,_,z1,z2,?_⟩;generalize dX bx1 [d]=B1 at *;have EY:=(z4 (b+4) oM vD).trans hB;have im:aS B1 [b+46] 158 4 x ((xs.take k).map aU.d):=hv.of fun t ht=>by simp at ht;subst ht;exact z4 _ oM oM
  have SO:∀q,q<b->q≠8->B1 q=bx q:=fun q h1 h2=>(z4 q oM h2).trans (kr.out q h1 h2);replace SO:Hid _:=SO;clear hc z1 z2 z4 hv kr hR;repeat' first|exact zQ|with_reducible apply zJ<;>intro _|refine zK ?_
  have tS:((xs.take k).map aU.d).length<=1099511627776:=by simp;omega
  refine wG im sG (by simp only[List.length_cons,List.length_nil];omega) oM oM oM fun x' uK g1 g2=>?_;have hB3:=(g2 (b+4) oM).trans EY;have hR3:=z3.of (g2 8 oM);have HJ:∀q,q<b->q≠8->uK q=bx q:=fun q h1 h2=>(g2 q oM).trans (SO.out q h1 h2);replace HJ:Hid _:=HJ;have Sm:=g1.facts;have fV:(xs.take k).map aU.d++[y.d]=(xs.take (k+1)).map aU.d:=by rw[List.take_add_one,hy];simp
  rw[fV]at g1;clear g2 EY z3 SO im hf;repeat' first|exact zQ|with_reducible apply zJ<;>intro _|refine zK ?_
  exact⟨hR3.up bw,⟨x',rfl,g1.of fun t ht=>by simp at ht;subst ht;exact aD oM⟩,fun q h1 h2=>by rw[if_neg oM];exact HJ.out q h1 h2⟩
 ·clear k4 k5 q3 uX ih;rintro σ B ⟨s0,s1,s4,s36,s37,hR,⟨x,hB,hv⟩,kr⟩;have c2:¬(xs.length:Int)<(xs.length:Int):=oM;rw[tL]at hv;rw[List.drop_length,show dW []=[]from rfl,List.nil_append]at hR;have hf:=hv.facts;repeat' first|exact zQ|with_reducible apply zJ<;>intro _|refine zK ?_
  have aX:aS (aj B (b+4) ⟨e4,1,4,158,[.agg [I 3,I 0,.str [],x]]⟩) [b+46] 158 4 x (xs.map aU.d):=hv.of fun t ht=>by simp at ht;subst ht;exact aD oM
  obtain⟨rr,o1,o2⟩:=aX.out (lx xs);have vV:∀q,q≠b+46->q∉bM [D.agg [I 3,I 0,.str [],x]]:=fun q h1 h2=>by
   simp[bM,Go.V.names]at h2;have:=aS.names aX q h2;simp at this;omega
  refine⟨.agg [I 3,I 0,.str [],rr],by simp[go_sem,o1],?_,?_,fun q h1 h2=>?_⟩
  ·rw[nQ];exact gh (.cons (.refl _) (.cons (.refl _) (.cons (.refl _) (.cons o2 .nil))))
  ·refine RD.of hR ?_;rw[eL,if_neg (vV 8 oM)];exact aD bw
  ·rw[eL,if_neg (vV q oM)];exact(aD oM).trans (kr.out q h1 h2)
theorem X_(v:aU)(h:okW v):Rdv v:=by
 induction v using oq with
 |hi n=>exact fun b dp hb hd r hr e bx hR=>UA n h b dp hb r oM e bx hR
 |ht s=>exact fun b dp hb hd r hr e bx hR=>UC s b dp hb r (by simp[cr]at hr;omega) e bx hR
 |hl xs ih=>
  rw[De]at h;exact fun b dp hb hd r hr e bx hR=>UB xs (fun x hx=>ih x hx (h x hx)) b dp hb hd r hr e bx hR
@[go_sem] def akp(v w:aU):fl v.d 0 w.d.cells=some w.d:=by
 have h2:=Yu w;have hv:∃ds,v.d= .agg ds/\ds.length=4:=by
  cases v with
  |i n=>exact⟨_,rfl,rfl⟩
  |t s=>exact⟨_,rfl,rfl⟩
  |l xs=>rw[nQ];exact⟨_,rfl,rfl⟩
 obtain⟨ds,h1,h3⟩:=hv;rw[h1];unfold fl;rw[if_pos (by rw[h2];show 0+4<=ds.length;omega)];show some (D.agg (ds.take 0++w.d.cells++ds.drop (0+w.d.cells.length)))=_;rw[h2,List.drop_of_length_le oM];simp[UD]
def Je{e e':Nat}(bx:ae):yI prog (cJ prog) [] f167 20 [.loc 2 e 0 0,.loc 3 e' 0 0] bx .ret fun m' bx'=>m'= .ret/\bx'=bx:=by
 refine lV (t:=3) _ _ 9 rfl rfl rfl ak ak (aj (aj (bF 0 [.loc 2 e 0 0,.loc 3 e' 0 0]) 3 (.raw .nilIface)) 2 (.raw .nilIface)) ?_ ?_
 ·repeat' first|exact zQ|with_reducible apply zJ<;>intro _|refine zK ?_
 ·repeat' first|exact zQ|with_reducible apply zJ<;>intro _|refine zK ?_
def PU(v:aU)(h:okW v)(hd:e_ v<=16)(hl:(cr v).length<=1099511620000):ET prog (cJ prog) [] f108 0 [aT (cr v)] (fun _=> .none) (fun d bx'=>∃r,bD bx' d=some r/\bN r (.aI [v.d,I 0])) (fun _ _=>False):=by
 refine rG _ [.cell 2 158,.cell 3 53] 20 rfl rfl rfl ak ak ?_;have hR:=X_ v h 40 0 oM oM [] (by simpa using hl);rw[List.append_nil]at hR;repeat' first|exact zQ|with_reducible apply zJ<;>intro _|refine zK ?_
 refine wJ (hR 1 _ (by simp[RD,aj,Bx.none])) rfl (fun d bx1 hp=>?_) fun d bx1 hp=>hp.elim;obtain⟨z,z1,z2,z3,z4⟩:=hp;refine⟨z,_,z1,z2,?_⟩;generalize dX bx1 [d]=B1 at *;have k2:=z4 2 oM oM;have k3:=z4 3 oM oM;have k8:B1 8=⟨1,1,1,244,[.agg [aT []]]⟩:=z3;simp only[aj,Bx.none,reduceIte,Nat.reduceEqDiff]at k2 k3;clear z1 z2 z3 z4 hR;repeat' first|exact zQ|with_reducible apply zJ<;>intro _|refine zK ?_
 refine aC (wz 1 _) rfl fun d bK hq=>?_;obtain⟨rfl,rfl⟩:=hq;repeat' first|exact zQ|with_reducible apply zJ<;>intro _|refine zK ?_
 refine jz _ (wU (Je _)) fun m' bK hq=>?_;obtain⟨rfl,rfl⟩:=hq;repeat' first|exact zQ|with_reducible apply zJ<;>intro _|refine zK ?_
 exact⟨_,by rw[(zr _ _ (Ew v)).1];rfl,.refl _⟩
instance(v:aU):Ct 108 [aT (cr v)] (okW v/\e_ v<=16/\(cr v).length<=1099511620000) (.aI [v.d,I 0]):=⟨fun h=>(GV (PU v h.1 h.2.1 h.2.2)).to (fun _ _ h=>h) fun d' bx' h=>h⟩
instance(n:Int):Ct 84 [I n] True (aU.i n).d:=by
 refine bf f84 [] [.cell 2 158] fun pre=>?_;repeat' first|exact zQ|with_reducible apply zJ<;>intro _|refine zK ?_
 exact RL n
instance(s:ah):Ct 151 [.str s] True (aU.t s).d:=by
 refine bf f151 [] [.cell 2 158] fun pre=>?_;repeat' first|exact zQ|with_reducible apply zJ<;>intro _|refine zK ?_
 exact RO s
def RN{r:D}{xs:List aU}(h:bN r (.sl 4 (xs.map aU.d))):bN (D.agg [I 3,I 0,.str [],r]) (aU.l xs).d:=by rw[nQ];exact gh (.cons (.refl _) (.cons (.refl _) (.cons (.refl _) (.cons h .nil))))
instance(l:List Int):Ct 83 [.sl 1 (l.map I),.fn (.func 84) []] (l.length<=1099511627776) (aU.l (l.map aU.i)).d:=by
 refine bf f83 [(5,[(7,4),(7,3)])] [.cell 4 158] fun pre=>?_;have hL:Lm l:=by simp[Lm];omega
 repeat' first|exact zQ|with_reducible apply zJ<;>intro _|refine zK ?_
 refine bW l [(6,6),(10,22)] [(4,4),(6,6),(20,20)] (fun j τ β=>τ 10=I j/\∃x,β 4=⟨1,1,4,158,[.agg [I 3,I 0,.str [],x]]⟩/\aS β [20] 158 4 x (((l.take j).map aU.i).map aU.d)) hL ⟨by simp[go_sem],.aq,by simp[go_sem],.nil _ _ _ _⟩ (fun j y τ β hx hj hw hi=>?_) fun τ β hn hi=>?_
 ·obtain⟨iU,x,h4,hv⟩:=hi;have hf:=hv.facts;have fV:((l.take j).map aU.i).map aU.d++[(aU.i y).d]=((l.take (j+1)).map aU.i).map aU.d:=by rw[List.take_add_one,hx];simp
  have fz:(((l.take j).map aU.i).map aU.d).length<=l.length:=by simp;omega
  replace fz:Hid _:=fz;repeat' first|exact zQ|with_reducible apply zJ<;>intro _|refine zK ?_
  refine app [20] (hv.mix _) (fun x' β' aX=>?_) (by have:=fz.out;simp only[List.length_cons,List.length_nil];omega);have kK:=aX.facts;replace aX:aS β' [20] 158 4 x' (((l.take j).map aU.i).map aU.d++[(aU.i y).d]):=aX;rw[fV]at aX;clear fV;repeat' first|exact zQ|with_reducible apply zJ<;>intro _|refine zK ?_
  exact⟨x',rfl,aX.of fun t ht=>by simp at ht;subst ht;simp[aj,bc,dA]⟩
 ·obtain⟨iU,x,h4,hv⟩:=hi;rw[tL]at hv;have hf:=hv.facts;obtain⟨r,o2,o1⟩:=u7 hv (lx _);repeat' first|exact zQ|with_reducible apply zJ<;>intro _|refine zK ?_
  rw[o1 _ fun t ht=>by simp at ht;subst ht;simp[aj,bc,dA]];exact RN o2
instance(l:List ah):Ct 152 [strs l,.fn (.func 151) []] (l.length<=1099511627776) (aU.l (l.map aU.t)).d:=by
 refine bf f152 [(5,[(7,4),(7,3)])] [.cell 4 158] fun pre=>?_;have hL:Lm l:=by simp[Lm];omega
 repeat' first|exact zQ|with_reducible apply zJ<;>intro _|refine zK ?_
 refine bW l [(6,6),(10,22)] [(4,4),(6,6),(20,20)] (fun j τ β=>τ 10=I j/\∃x,β 4=⟨1,1,4,158,[.agg [I 3,I 0,.str [],x]]⟩/\aS β [20] 158 4 x (((l.take j).map aU.t).map aU.d)) hL ⟨by simp[go_sem],.aq,by simp[go_sem],.nil _ _ _ _⟩ (fun j y τ β hx hj hw hi=>?_) fun τ β hn hi=>?_
 ·obtain⟨iU,x,h4,hv⟩:=hi;have hf:=hv.facts;have fV:((l.take j).map aU.t).map aU.d++[(aU.t y).d]=((l.take (j+1)).map aU.t).map aU.d:=by rw[List.take_add_one,hx];simp
  have fz:(((l.take j).map aU.t).map aU.d).length<=l.length:=by simp;omega
  replace fz:Hid _:=fz;repeat' first|exact zQ|with_reducible apply zJ<;>intro _|refine zK ?_
  refine app [20] (hv.mix _) (fun x' β' aX=>?_) (by have:=fz.out;simp only[List.length_cons,List.length_nil];omega);have kK:=aX.facts;replace aX:aS β' [20] 158 4 x' (((l.take j).map aU.t).map aU.d++[(aU.t y).d]):=aX;rw[fV]at aX;clear fV;repeat' first|exact zQ|with_reducible apply zJ<;>intro _|refine zK ?_
  exact⟨x',rfl,aX.of fun t ht=>by simp at ht;subst ht;simp[aj,bc,dA]⟩
 ·obtain⟨iU,x,h4,hv⟩:=hi;rw[tL]at hv;have hf:=hv.facts;obtain⟨r,o2,o1⟩:=u7 hv (lx _);repeat' first|exact zQ|with_reducible apply zJ<;>intro _|refine zK ?_
  rw[o1 _ fun t ht=>by simp at ht;subst ht;simp[aj,bc,dA]];exact RN o2
@[go_sem ↓] def adA{P:Program}{C:Calc}{σ:Env}{bx:ae}{dst:Option Tmp}{ty:TypeId}{pos:String}{af:Array Edge}{g:Option (Nat×Bool)}{K1:Cl->Env->ae->Prop}(T:Nat)(x:Operand):bq P C ⟨dst,.call {callee:=.builtin .cap,args:= #[x],argTypes:= #[T]},ty,pos,af,g⟩ σ bx K1=aM (mQ .cap [an P T] [ev σ x]) fun v=>K1 .n (put σ dst v) bx:=ay
@[go_sem] def ag1(lo:Nat)(T:TypeId->TI)(dst:Option Tmp)(bx:ae)(x y:D):qJ lo T 156 3 dst bx x y=vt lo T (T 156) (T 3) dst bx x y:=by simp only[qJ];rw[if_neg (by decide)]
def Gq{lo:Nat}{T:TypeId->TI}{el esz b size d t e:Nat}{ag ag':Bool}{z es ys:List D}{bx:ae}{K2:D×ae->Prop}(hb:bx t=⟨e,1,esz,el,es⟩)(bH:lo<=t)(bw:ys≠[])(hz:(T el).zero.length=esz)
 (h1:ys.length * b<=140737488355328) (h2:0<esz) (h3:0<b)
 (hk:∀(e':Nat) (bx':ae),bx' d=⟨e',1,esz,el,ys⟩->(∀s,s≠d->s≠t->bx' s=bx s)->K2 (.bp d e' esz 0 ys.length,bx')):
 aM (fN lo T ⟨.slice el esz b ag,size,ag',z⟩ (some d) bx (.bp t e esz 0 0) ys) K2:=by
 have:=hk ((bx d).ep+1) (aj (aj bx t {bx t with k:=0}) d ⟨(bx d).ep+1,1,esz,el,ys⟩) (by simp[aj]) (fun s h1 h2=>by simp[aj,h1,h2]);simp only[fN,bw,if_false,hz,if_true,ph,DY];rw[if_pos (by simp[hb,bH,h2,h3,h1]),nV];simpa using this
def Grn(bx bx':ae)(d:D):Prop:=∃e es,d= .bp 102 e 4 0 0/\bx' 102=⟨e,1,4,158,es⟩/\∀q,q<80->bx' q=bx q
def VO(n:Nat)(h0:0<n)(hn:n<=1048576)(bx:ae):bj prog 207 80 [.aq,I n] bx (fun d bx'=>Grn bx bx' d) (fun _ _=>False):=by
 refine aK (fn:=f207) (tab:=[]) (base:=80) mixed ?_ rfl ak rfl;refine aL _ [.tmp 4] 27 rfl rfl rfl ak ?_;have c1:¬(n:Int)<0:=oM;have c2:IntKind.i64.wrap ((n:Int) - 0)=n:=by rw[gp _ oM oM];omega
 have c3:(0:Int)<n:=oM;have c4:(n:Int) - (0 - 0)=n:=oM;have c5:¬List.replicate n (D.agg [D.int .i64 0,D.int .i64 0,.str [],.aq])=[]:=by simp;omega
 have c6:ph 0 102 158 4 56 bx .aq (List.replicate n (D.agg [D.int .i64 0,D.int .i64 0,.str [],.aq]))=some (.bp 102 ((bx 102).ep+1) 4 0 n,aj bx 102 ⟨(bx 102).ep+1,1,4,158,List.replicate n (D.agg [D.int .i64 0,D.int .i64 0,.str [],.aq])⟩):=by
  simp only[ph,List.length_replicate];rw[if_pos ⟨by omega,by decide,by decide⟩]
 repeat' first|exact zQ|with_reducible apply zJ<;>intro _|refine zK ?_
 exact⟨(bx 102).ep+1,_,rfl,by rw[dC],fun q hq=>aD oM⟩
def cN:Nat->Nat
 |0=>0
 |1=>1
 |2=>4
 |_=>5
def cL(a b1 b2 b3 c:D):Nat->List D
 |0=>[]
 |1=>[a]
 |2=>[a,b1,b2,b3]
 |_=>[a,b1,b2,b3,c]
def v4(d:D):Prop:=d.cells.length=4/\d.cells.all D.one=true/\d.pure=true
instance(a b1 b2 b3 c:D):Ct 150 [.sl 1 [.sl 4 [a],.sl 4 [b1,b2,b3],.sl 4 [c]]] (a.pure=true/\b1.pure=true/\b2.pure=true/\b3.pure=true/\c.pure=true) (.sl 4 [a,b1,b2,b3,c]):=by
 refine bf f150 [] [.tmp 2] fun pre=>?_;obtain⟨pa,p1,p2,p3,pc⟩:=pre;repeat' first|exact zQ|with_reducible apply zJ<;>intro _|refine zK ?_
 have x1:((1:Nat):Int)=1:=rfl;have x2:((2:Nat):Int)=2:=rfl;have x3:((3:Nat):Int)=3:=rfl;have x4:((4:Nat):Int)=4:=rfl;have x5:((5:Nat):Int)=5:=rfl;have v1:(0:Int)+1=1:=rfl;have v2:(1:Int)+1=2:=rfl;have v3:(2:Int)+1=3:=rfl;have v4':(1:Int)+3=4:=rfl;have v5:(4:Int)+1=5:=rfl;have y1:(1:Int).toNat=1:=rfl;have y2:(2:Int).toNat=2:=rfl;refine iS [(3,3),(5,5),(11,22)] [] 3 (fun k τ β=>τ 11=I k/\τ 3=I (cN k)) ⟨by simp[go_sem],by simp[go_sem,cN]⟩ (fun k τ β hk hi=>?_) fun τ β hi=>?_
 ·obtain⟨sq,h3⟩:=hi;have rJ:k=0\/k=1\/k=2:=oM;rcases rJ with rfl|rfl|rfl;all_goals
   simp only[cN]at h3⊢;repeat' first|exact zQ|with_reducible apply zJ<;>intro _|refine zK ?_
 ·obtain⟨sq,h3⟩:=hi;simp only[cN]at h3;have z3:¬(3:Int)<3:=by decide
  repeat' first|exact zQ|with_reducible apply zJ<;>intro _|refine zK ?_
  have hG:=VO 5 oM oM (fun _=>Bx.none);refine aC hG rfl fun d bx1 hq=>?_;obtain⟨e,es,rfl,hb,-⟩:=hq;repeat' first|exact zQ|with_reducible apply zJ<;>intro _|refine zK ?_
  refine iS [(6,6),(8,8),(27,34)] (h_ [33,102]) 3 (fun k τ β=>τ 27=I k/\((k=0/\τ 6= .bp 102 e 4 0 0/\β 102=⟨e,1,4,158,es⟩)\/(k≠0/\aS β [33] 158 4 (τ 6) (cL a b1 b2 b3 c k)))) ⟨by simp[go_sem],.inl ⟨rfl,by simp[go_sem],hb⟩⟩ (fun k τ β hk hi=>?_) fun τ β hi=>?_
  ·obtain⟨h27,hi⟩:=hi;rcases hi with⟨rfl,h6,aeG⟩|⟨kN,hv⟩
   ·have hbb:bc (h_ [33,102]) β bx1 102=⟨e,1,4,158,es⟩:=by simpa[bc,dA,h_]using aeG
    repeat' first|exact zQ|with_reducible apply zJ<;>intro _|refine zK ?_
    refine Gq hbb oM sI sG sI oM oM fun e' bx' h1 h2=>?_;have kb:di (h_ [33,102]) bx' bx1:=fun q hq=>by
     simp[dA,h_]at hq;rw[h2 q oM oM];exact di.nH q (by simp[dA,h_];omega)
    clear h2;repeat' first|exact zQ|with_reducible apply zJ<;>intro _|refine zK ?_
    exact .inr ⟨by decide,.inr ⟨33,e',by simp,rfl,h1⟩⟩
   ·generalize v8:τ 6=x at *;have hf:=hv.facts;have rJ:k=1\/k=2:=oM;rcases rJ with rfl|rfl;all_goals
     simp only[cL]at hv⊢;repeat' first|exact zQ|with_reducible apply zJ<;>intro _|refine zK ?_
     refine app [33] (hv.mix _) (fun x' β' aX=>?_) ?_
     rotate_left
     ·simp
     have kK:=aX.facts;repeat' first|exact zQ|with_reducible apply zJ<;>intro _|refine zK ?_
     exact .inr ⟨by decide,aX.of fun t ht=>by simp at ht;subst ht;simp[bc,dA]⟩
  ·obtain⟨h27,hi⟩:=hi;rcases hi with⟨h0,_⟩|⟨_,hv⟩
   ·omega
   simp only[cL]at hv;generalize v8:τ 6=x at *;have hf:=hv.facts;repeat' first|exact zQ|with_reducible apply zJ<;>intro _|refine zK ?_
   exact vI (hv.mix _) rfl (by simp[D.aF,pa,p1,p2,p3,pc])
instance(n:Int):Ct 109 [.agg [I 1,I n,.str [],.sl 4 []],I 1,I 0] True (.agg [I 1,I n,.str [],.sl 4 []]):=by
 refine bf f109 [] [.cell 6 158] fun pre=>?_;repeat' first|exact zQ|with_reducible apply zJ<;>intro _|refine zK ?_
instance(s:ah):Ct 109 [.agg [I 2,I 0,.str s,.sl 4 []],I 2,I 0] True (.agg [I 2,I 0,.str s,.sl 4 []]):=by
 refine bf f109 [] [.cell 6 158] fun pre=>?_;repeat' first|exact zQ|with_reducible apply zJ<;>intro _|refine zK ?_
instance(es:List D)(m:Int):Ct 109 [.agg [I 3,I 0,.str [],.sl 4 es],I 3,I m] (m<0\/m=es.length) (.agg [I 3,I 0,.str [],.sl 4 es]):=by
 refine bf f109 [] [.cell 6 158] fun pre=>?_;rcases pre with h|rfl
 ·have c:¬(0:Int)<=m:=oM;repeat' first|exact zQ|with_reducible apply zJ<;>intro _|refine zK ?_
 ·have c:(0:Int)<=(es.length:Int):=oM;repeat' first|exact zQ|with_reducible apply zJ<;>intro _|refine zK ?_
instance(s:ah):Ct 110 [.agg [I 2,I 0,.str s,.sl 4 []]] True (.str s):=by
 refine bf f110 [] [.tmp 2] fun pre=>?_;repeat' first|exact zQ|with_reducible apply zJ<;>intro _|refine zK ?_
instance(l:List ah):Ct 113 [.agg [I 3,I 0,.str [],.sl 4 ((l.map aU.t).map aU.d)],.fn (.func 110) []] (l.length<=1099511627776) (strs l):=by
 refine bf f113 [] [.tmp 4] fun pre=>?_;have hL:Lm l:=by simp[Lm];omega
 have c1:(-1:Int)<0:=by decide
 repeat' first|exact zQ|with_reducible apply zJ<;>intro _|refine zK ?_
 refine bW l [(4,4),(6,6),(11,21)] [(6,6),(20,20)] (fun j τ β=>τ 11=I j/\aS β [20] 9 1 (τ 4) ((l.take j).map D.str)) hL ⟨by simp[go_sem],by simpa[go_sem]using .nil _ _ _ _⟩ (fun j y τ β hx hj hw hi=>?_) fun τ β hn hi=>?_
 ·obtain⟨iU,hv⟩:=hi;generalize v8:τ 4=x at *;have hf:=hv.facts;have fV:(l.take j).map D.str++[D.str y]=(l.take (j+1)).map D.str:=by rw[List.take_add_one,hx];simp
  have fz:((l.take j).map D.str).length<=l.length:=by simp;omega
  replace fz:Hid _:=fz;repeat' first|exact zQ|with_reducible apply zJ<;>intro _|refine zK ?_
  refine app [20] (hv.of fun t ht=>by simp at ht;subst ht;simp[aj,bc,dA]) (fun x' β' aX=>?_) (by have:=fz.out;simp only[List.length_cons,List.length_nil];omega);have kK:=aX.facts;rw[fV]at aX;clear fV;repeat' first|exact zQ|with_reducible apply zJ<;>intro _|refine zK ?_
  exact aX.of fun t ht=>by simp at ht;subst ht;simp[aj,bc,dA]
 ·obtain⟨iU,hv⟩:=hi;rw[tL]at hv;generalize v8:τ 4=x at *;have hf:=hv.facts;repeat' first|exact zQ|with_reducible apply zJ<;>intro _|refine zK ?_
  exact vI (hv.mix _) rfl
def wD(w:Word):Nat->D
 |0=> .agg [.str w.t,I 0,I 0,I 0,.aq]
 |1=> .agg [.str w.t,I w.f,I 0,I 0,.aq]
 |2=> .agg [.str w.t,I w.f,I w.u,I 0,.aq]
 |_=> .agg [.str w.t,I w.f,I w.u,I w.s,.aq]
def Ey(w:Word):(cF w).d= .agg [I 3,I 0,.str [],.sl 4 [.agg [I 2,I 0,.str w.t,.sl 4 []],.agg [I 1,I w.f,.str [],.sl 4 []],.agg [I 1,I w.u,.str [],.sl 4 []],.agg [I 1,I w.s,.str [],.sl 4 []],.agg [I 3,I 0,.str [],.sl 4 ((w.alts.map aU.t).map aU.d)]]]:=by simp only[cF,nQ,mC,List.map_nil,Ev,MH]
def RW(bx bx':ae)(w:Word)(d:D):Prop:=d=w.d/\∀q,q≠62->q≠63->q≠79->bx' q=bx q
def Ug(w:Word)(hl:w.alts.length<=1099511627776)(e:Nat)(bx:ae)(h:bx 10=⟨e,1,1,187,[.fn (.func 110) []]⟩):
 bj prog 112 60 [(cF w).d,.loc 10 e 0 0] bx (fun d bx'=>RW bx bx' w d) (fun _ _=>False):=by
 rw[Ey];refine aK (fn:=f112) (tab:=[(1000019,[])]) (base:=60) mixed ?_ rfl ak rfl;refine aL _ [.cell 3 123] 43 rfl rfl rfl ak ?_;generalize hX:D.agg [I 3,I 0,.str [],.sl 4 ((w.alts.map aU.t).map aU.d)]=X at *;replace hX:Hid _:=hX;repeat' first|exact zQ|with_reducible apply zJ<;>intro _|refine zK ?_
 generalize hL:[D.agg [I 2,I 0,.str w.t,.sl 4 []],D.agg [I 1,I w.f,.str [],.sl 4 []],D.agg [I 1,I w.u,.str [],.sl 4 []],D.agg [I 1,I w.s,.str [],.sl 4 []],X]=L at *;refine fresh (fun σ' B=>∃e3 e9,σ' 1= .loc 10 e 0 0/\σ' 3= .loc 63 e3 0 0/\σ' 4= .sl 4 L/\σ' 19= .bp 79 e9 1 0 3/\σ' 20=I 3/\σ' 21=I 0/\B 63=⟨e3,1,5,123,[wD w 0]⟩/\B 79=⟨e9,1,1,185,[.loc 63 e3 0 1,.loc 63 e3 0 2,.loc 63 e3 0 3]⟩/\Hid (∀q,q≠62->q≠63->q≠79->B q=bx q)) ⟨(bx 63).ep+1,(bx 79).ep+1,by simp[go_sem],by simp[go_sem],by simp[go_sem],by simp[go_sem],by simp[go_sem],by simp[go_sem],by simp[aj,wD],by simp[aj],fun q h1 h2 h3=>by simp[aj,h1,h2,h3]⟩ ?_;rintro σ B ⟨e3,e9,s1,s3,s4,s19,s20,s21,b63,b79,kr⟩;have b10:=(kr.out 10 (by decide) (by decide) (by decide)).trans h;subst hL;refine iS [(5,6),(21,35)] [(63,63)] 3 (fun k τ β=>τ 21=I k/\β 63=⟨e3,1,5,123,[wD w k]⟩) ⟨s21,b63⟩ (fun k τ β hk hi=>?_) fun τ β hi=>?_
 ·obtain⟨VU,xR⟩:=hi;have rJ:k=0\/k=1\/k=2:=oM;have z1:((0:Int)+1).toNat=1:=rfl;have z2:((1:Int)+1).toNat=2:=rfl;have z3:((2:Int)+1).toNat=3:=rfl;have y1:(1:Int).toNat=1:=rfl;have y2:(2:Int).toNat=2:=rfl;have x1:((1:Nat):Int)=1:=rfl;have x2:((2:Nat):Int)=2:=rfl;have x3:((3:Nat):Int)=3:=rfl;have v1:(0:Int)+1=1:=rfl;have v2:(1:Int)+1=2:=rfl;have v3:(2:Int)+1=3:=rfl;rcases rJ with rfl|rfl|rfl;all_goals
   simp only[wD]at xR⊢;repeat' first|exact zQ|with_reducible apply zJ<;>intro _|refine zK ?_
 ·obtain⟨VU,xR⟩:=hi;simp only[wD]at xR;have hx:=hX.out;subst hx;have x3:¬((3:Nat):Int)<3:=by decide
  repeat' first|exact zQ|with_reducible apply zJ<;>intro _|refine zK ?_
  refine⟨rfl,fun q h1 h2 h3=>?_⟩;rw[aD h2,aD h2];exact(di.nH q (by simp[dA];omega)).trans (kr.out q h1 h2 h3)
def EW(bx bx':ae)(l:List Word)(d:D):Prop:=aS bx' [140] 123 5 d (l.map Word.d)/\∀q,q<60->bx' q=bx q
def Dh{q t:Nat}(h:dA [(60,1000)] q=false)(h1:60<=t/\t<=1000:=by decide):q≠t:=by simp[dA]at h;omega
def Tz(l:List Word)(hl:l.length<=1099511627776)(E6:∀w∈l,w.alts.length<=1099511627776)(e:Nat)(bx:ae)(h:bx 10=⟨e,1,1,187,[.fn (.func 110) []]⟩):
 bj prog 111 120 [.agg [I 3,I 0,.str [],.sl 4 ((l.map cF).map aU.d)],.fn (.func 112) [.loc 10 e 0 0]] bx (fun d bx'=>EW bx bx' l d) (fun _ _=>False):=by
 refine aK (fn:=f111) (tab:=[]) (base:=120) mixed ?_ rfl ak rfl;refine aL _ [.tmp 4] 23 rfl rfl rfl ak ?_;have hL:Lm l:=by simp[Lm];omega
 have c1:(-1:Int)<0:=by decide
 repeat' first|exact zQ|with_reducible apply zJ<;>intro _|refine zK ?_
 refine fresh (fun σ' B=>σ' 1= .fn (.func 112) [.loc 10 e 0 0]/\σ' 4= .aq/\σ' 9= .sl 4 ((l.map cF).map aU.d)/\σ' 10=I l.length/\σ' 11=I 0/\Hid (∀q,q<60->B q=bx q)) ⟨by simp[go_sem],by simp[go_sem],by simp[go_sem],by simp[go_sem],by simp[go_sem],fun q hq=>aD oM⟩ ?_;rintro σ B ⟨s1,s4,s9,s10,s11,kr⟩;have b10:=(kr.out 10 (by decide)).trans h;refine bW l [(4,4),(6,6),(11,21)] [(60,1000)] (fun j τ β=>τ 11=I j/\aS β [140] 123 5 (τ 4) ((l.take j).map Word.d)) hL ⟨s11,by rw[s4];exact .nil _ _ _ _⟩ (fun j y τ β hx hj hw hi=>?_) fun τ β hn hi=>?_
 ·obtain⟨iU,hv⟩:=hi;generalize v8:τ 4=x at *;have hf:=hv.facts;have fV:(l.take j).map Word.d++[y.d]=(l.take (j+1)).map Word.d:=by rw[List.take_add_one,hx];simp
  have fz:((l.take j).map Word.d).length<=l.length:=by simp;omega
  replace fz:Hid _:=fz;have hy:=E6 y (mG hx);have Fj:bc [(60,1000)] β B 10=⟨e,1,1,187,[.fn (.func 110) []]⟩:=(di.nH 10 rfl).trans b10;repeat' first|exact zQ|with_reducible apply zJ<;>intro _|refine zK ?_
  refine aC (Ug y hy e _ ((aD (by decide)).trans ((aD (by decide)).trans Fj))) rfl fun d bx1 hq=>?_;obtain⟨rfl,q2⟩:=hq;have im:aS bx1 [140] 123 5 x ((l.take j).map Word.d):=hv.of fun t ht=>by
   simp at ht;subst ht;rw[q2 140 (by decide) (by decide) (by decide),aD (by decide),aD (by decide)];rfl
  have kb:di [(60,1000)] bx1 B:=fun q hq=>(q2 q (Dh hq) (Dh hq) (Dh hq)).trans ((aD (Dh hq)).trans ((aD (Dh hq)).trans (di.nH q hq)));clear q2 hv Fj;repeat' first|exact zQ|with_reducible apply zJ<;>intro _|refine zK ?_
  refine app [140] im (fun x' β' aX=>?_) (by have:=fz.out;simp only[List.length_cons,List.length_nil];omega);have kK:=aX.facts;rw[fV]at aX;have kc:di [(60,1000)] (bc (h_ [140]) β' bx1) B:=fun q hq=>(di.nH q (by simp[dA,h_]at *;omega)).trans (kb q hq);clear fV kb;repeat' first|exact zQ|with_reducible apply zJ<;>intro _|refine zK ?_
  exact aX.mix _
 ·obtain⟨iU,hv⟩:=hi;rw[tL]at hv;generalize v8:τ 4=x at *;have hf:=hv.facts;repeat' first|exact zQ|with_reducible apply zJ<;>intro _|refine zK ?_
  exact⟨hv.mix _,fun q hq=>(di.nH q (by simp[dA];omega)).trans (kr.out q hq)⟩
def rp{e e':Nat}(bx:ae):yI prog (cJ prog) [] f107 64 [.loc 2 e 0 0,.loc 3 e' 0 0] bx .ret fun m' bx'=>m'= .ret/\bx'=bx:=by
 refine lV (t:=5) _ _ 17 rfl rfl rfl ak ak (aj (aj (bF 0 [.loc 2 e 0 0,.loc 3 e' 0 0]) 5 (.raw .nilIface)) 2 (.raw .nilIface)) ?_ ?_
 ·repeat' first|exact zQ|with_reducible apply zJ<;>intro _|refine zK ?_
 ·repeat' first|exact zQ|with_reducible apply zJ<;>intro _|refine zK ?_
def hD(h:bn):Nat->D
 |0=> .agg [I 0,I 0,I 0,I 0,I 0,I 0,I 0,.aq]
 |1=> .agg [I h.at_,I 0,I 0,I 0,I 0,I 0,I 0,.aq]
 |2=> .agg [I h.at_,I h.src,I 0,I 0,I 0,I 0,I 0,.aq]
 |3=> .agg [I h.at_,I h.src,I h.seq,I 0,I 0,I 0,I 0,.aq]
 |4=> .agg [I h.at_,I h.src,I h.seq,I h.jX,I 0,I 0,I 0,.aq]
 |5=> .agg [I h.at_,I h.src,I h.seq,I h.jX,I h.kind,I 0,I 0,.aq]
 |6=> .agg [I h.at_,I h.src,I h.seq,I h.jX,I h.kind,I h.lQ,I 0,.aq]
 |_=> .agg [I h.at_,I h.src,I h.seq,I h.jX,I h.kind,I h.lQ,I h.cut,.aq]
def Hk(h:bn):(c_ h).d= .agg [I 3,I 0,.str [],.sl 4 [.agg [I 1,I h.at_,.str [],.sl 4 []],.agg [I 1,I h.src,.str [],.sl 4 []],.agg [I 1,I h.seq,.str [],.sl 4 []],.agg [I 1,I h.jX,.str [],.sl 4 []],.agg [I 1,I h.kind,.str [],.sl 4 []],.agg [I 1,I h.lQ,.str [],.sl 4 []],.agg [I 1,I h.cut,.str [],.sl 4 []],.agg [I 3,I 0,.str [],.sl 4 ((h.words.map cF).map aU.d)]]]:=by simp only[c_,nQ,mC,List.map_nil,Ev,MH]
def zX(h:bn):h.words.length<=(cz h).length/\∀w∈h.words,w.alts.length<=(cz h).length:=by
 have h1:=tM (h.words.map cF);have h2:(cr (.l (h.words.map cF))).length<=(cz h).length:=by
  show _<=(cr (c_ h)).length;unfold c_;have:=qL (x:=.l (h.words.map cF)) (xs:=[.i h.at_,.i h.src,.i h.seq,.i h.jX,.i h.kind,.i h.lQ,.i h.cut,.l (h.words.map cF)]) sI;rw[show cr (.l [.i h.at_,.i h.src,.i h.seq,.i h.jX,.i h.kind,.i h.lQ,.i h.cut,.l (h.words.map cF)])=3::(eA 8++dW [.i h.at_,.i h.src,.i h.seq,.i h.jX,.i h.kind,.i h.lQ,.i h.cut,.l (h.words.map cF)])from rfl];simp only[List.length_cons,List.length_append];omega
 have h3:(dW (h.words.map cF)).length<=(cz h).length:=by simp[cr]at h2;omega
 refine⟨by simp at h1;omega,fun w hw=>?_⟩;have g1:(cr (cF w)).length<=(dW (h.words.map cF)).length:=qL (List.mem_map_of_mem hw);have g2:=tM (w.alts.map aU.t);have g3:(cr (.l (w.alts.map aU.t))).length<=(cr (cF w)).length:=by
  have:=qL (x:=.l (w.alts.map aU.t)) (xs:=[.t w.t,.i w.f,.i w.u,.i w.s,.l (w.alts.map .t)]) sI;rw[show cr (cF w)=3::(eA 5++dW [.t w.t,.i w.f,.i w.u,.i w.s,.l (w.alts.map .t)])from rfl];simp only[List.length_cons,List.length_append];omega
 simp[cr]at g3;simp at g2;omega
def X9(h:bn)(ho:okW (c_ h))(hl:(cz h).length<=1099511620000):ET prog (cJ prog) [(1000038,[])] f62 0 [aT (cz h)] (fun _=> .none) (fun d bx'=>∃r,bD bx' d=some r/\bN r (.aI [h.d,.bool true])) (fun _ _=>False):=by
 refine rG _ [.cell 2 48,.cell 3 4] 64 rfl rfl rfl ak ak ?_;obtain⟨n1,n2⟩:=zX h;have Hg:=yA h;have aeP:e_ (c_ h)<=16:=oM;have kO:(cr (c_ h)).length<=1099511620000:=hl;unfold cz at *;have Oj:=Hk h;generalize hX:D.agg [I 3,I 0,.str [],.sl 4 ((h.words.map cF).map aU.d)]=X at *;replace hX:Hid _:=hX;repeat' first|exact zQ|with_reducible apply zJ<;>intro _|refine zK ?_
 refine iS [(8,9),(41,54)] [(2,2)] 7 (fun k τ β=>τ 41=I k/\β 2=⟨1,1,8,48,[hD h k]⟩) ⟨by simp[go_sem],by simp[go_sem,hD]⟩ (fun k τ β hk hi=>?_) fun τ β hi=>?_
 ·obtain⟨VU,xR⟩:=hi;have rJ:k=0\/k=1\/k=2\/k=3\/k=4\/k=5\/k=6:=oM;have z1:(1:Int).toNat=1:=rfl;have z2:(2:Int).toNat=2:=rfl;have z3:(3:Int).toNat=3:=rfl;have z4:(4:Int).toNat=4:=rfl;have z5:(5:Int).toNat=5:=rfl;have z6:(6:Int).toNat=6:=rfl;have x1:((1:Nat):Int)=1:=rfl;have x2:((2:Nat):Int)=2:=rfl;have x3:((3:Nat):Int)=3:=rfl;have x4:((4:Nat):Int)=4:=rfl;have x5:((5:Nat):Int)=5:=rfl;have x6:((6:Nat):Int)=6:=rfl;have x7:((7:Nat):Int)=7:=rfl;have v1:(0:Int)+1=1:=rfl;have v2:(1:Int)+1=2:=rfl;have v3:(2:Int)+1=3:=rfl;have v4:(3:Int)+1=4:=rfl;have v5:(4:Int)+1=5:=rfl;have v6:(5:Int)+1=6:=rfl;have v7:(6:Int)+1=7:=rfl;clear n1 n2 Hg aeP kO Oj ho;rcases rJ with rfl|rfl|rfl|rfl|rfl|rfl|rfl;all_goals
   simp only[hD]at xR⊢;repeat' first|exact zQ|with_reducible apply zJ<;>intro _|refine zK ?_
   all_goals trace_state
 ·obtain⟨VU,xR⟩:=hi;simp only[hD]at xR;have hx:=hX.out;subst hx;have x3:¬((7:Nat):Int)<((7:Nat):Int):=by decide
  have hwp:D.aF (h.words.map Word.d)=true:=by rw[dB];simp[D.pure,D.aF,dB]
  clear Oj;repeat' first|exact zQ|with_reducible apply zJ<;>intro _|refine zK ?_
  refine wJ (Tz h.words oM (fun w hw=>by have:=n2 w hw;omega) 1 _ (by simp[aj,bc,dA])) rfl (fun d bx1 hp=>?_) fun d bx1 hp=>hp.elim;obtain⟨p1,p2⟩:=hp;obtain⟨rr,o1,o2⟩:=p1.out hwp;refine⟨rr,.sl 5 (h.words.map Word.d),o1,o2,?_⟩;have yT:∀q,q<60->dX bx1 [d] q=bx1 q:=fun q hq=>by
   rw[eL,if_neg];intro hm;have:=aS.names p1 q (by simpa[bM]using hm);simp at this;omega
  have k2:=(yT 2 (by decide)).trans (p2 2 (by decide));have k3:=(yT 3 (by decide)).trans (p2 3 (by decide));simp[aj,bc,dA]at k2 k3;rw[xR]at k2;generalize dX bx1 [d]=B1 at *;clear yT o1 o2 p1 p2 n1 n2;have d1:8<=en:=by decide
  have d2:¬en<=9:=by decide
  have d3:41<=en:=by decide
  have d4:¬en<=54:=by decide
  repeat' first|exact zQ|with_reducible apply zJ<;>intro _|refine zK ?_
  refine jz _ (wU (rp _)) fun m' bK hq=>?_;obtain⟨rfl,rfl⟩:=hq;repeat' first|exact zQ|with_reducible apply zJ<;>intro _|refine zK ?_
  exact⟨_,rfl,.refl _⟩
instance(h:bn):Ct 62 [aT (cz h)] (okW (c_ h)/\(cz h).length<=1099511620000) (.aI [h.d,.bool true]):=⟨fun p=>(GV (X9 h p.1 p.2)).to (fun _ _ h=>h) fun d' bx' h=>h⟩
def Xt(l:List Int)(h:l.length<=1099511627776):ao prog 83 [.sl 1 (l.map I),.fn (.func 84) []] (aU.l (l.map aU.i)).d:=by
 have:Ct 83 [.sl 1 (l.map I),.fn (.func 84) []] (l.length<=1099511627776) (aU.l (l.map aU.i)).d:=inferInstance;exact this.h h
instance(a b c:Int):Ct 83 [.sl 1 [I a,I b,I c],.fn (.func 84) []] True (.agg [I 3,I 0,.str [],.sl 4 [.agg [I 1,I a,.str [],.sl 4 []],.agg [I 1,I b,.str [],.sl 4 []],.agg [I 1,I c,.str [],.sl 4 []]]]):=⟨fun _=>by
 have:=Xt [a,b,c] sI;simpa only[nQ,mC,List.map_nil,Ev]using this⟩
instance(w:Word):Ct 86 [w.d] (w.alts.length<=1099511627776) (cF w).d:=by
 rw[Ey];refine bf f86 [(2,[(11,8),(10,8),(11,6),(10,6),(10,5),(8,5),(10,4),(8,4)])] [.cell 2 158] fun pre=>?_;have q1:D.pure (.agg [I 2,I 0,.str w.t,.sl 4 []])=true:=rfl;have q2:∀n,D.pure (.agg [I 1,I n,.str [],.sl 4 []])=true:=fun _=>rfl;have q3:D.pure (.agg [I 3,I 0,.str [],.sl 4 ((w.alts.map aU.t).map aU.d)])=true:=by simp[D.pure,D.aF,lx]
 repeat' first|exact zQ|with_reducible apply zJ<;>intro _|refine zK ?_
 refine ciT ⟨q1,q2 _,q2 _,q2 _,q3⟩ (by simp[D.aF,D.pure,lx]) ?_;repeat' first|exact zQ|with_reducible apply zJ<;>intro _|refine zK ?_
instance(l:List Word):Ct 85 [.sl 5 (l.map Word.d),.fn (.func 86) []] (l.length<=1099511627776/\∀w∈l,w.alts.length<=1099511627776) (aU.l (l.map cF)).d:=by
 refine bf f85 [(5,[(7,4),(7,3)])] [.cell 4 158] fun pre=>?_;obtain⟨pre,W5⟩:=pre;have hL:Lm l:=by simp[Lm];omega
 repeat' first|exact zQ|with_reducible apply zJ<;>intro _|refine zK ?_
 refine bW l [(6,6),(10,22)] [(4,4),(6,6),(20,20)] (fun j τ β=>τ 10=I j/\∃x,β 4=⟨1,1,4,158,[.agg [I 3,I 0,.str [],x]]⟩/\aS β [20] 158 4 x (((l.take j).map cF).map aU.d)) hL ⟨by simp[go_sem],.aq,by simp[go_sem],.nil _ _ _ _⟩ (fun j y τ β hx hj hw hi=>?_) fun τ β hn hi=>?_
 ·obtain⟨iU,x,h4,hv⟩:=hi;have hf:=hv.facts;have fV:((l.take j).map cF).map aU.d++[(cF y).d]=((l.take (j+1)).map cF).map aU.d:=by rw[List.take_add_one,hx];simp
  have fz:(((l.take j).map cF).map aU.d).length<=l.length:=by simp;omega
  replace fz:Hid _:=fz;have hya:=W5 y (mG hx);repeat' first|exact zQ|with_reducible apply zJ<;>intro _|refine zK ?_
  refine app [20] (hv.of fun t ht=>by simp at ht;subst ht;simp[aj,bc,dA]) (fun x' β' aX=>?_) (by have:=fz.out;simp only[List.length_cons,List.length_nil];omega);have kK:=aX.facts;replace aX:aS β' [20] 158 4 x' (((l.take j).map cF).map aU.d++[(cF y).d]):=aX;rw[fV]at aX;clear fV;repeat' first|exact zQ|with_reducible apply zJ<;>intro _|refine zK ?_
  exact⟨x',rfl,aX.of fun t ht=>by simp at ht;subst ht;simp[aj,bc,dA]⟩
 ·obtain⟨iU,x,h4,hv⟩:=hi;rw[tL]at hv;have hf:=hv.facts;obtain⟨r,o2,o1⟩:=u7 hv (lx _);repeat' first|exact zQ|with_reducible apply zJ<;>intro _|refine zK ?_
  rw[o1 _ fun t ht=>by simp at ht;subst ht;simp[aj,bc,dA]];exact RN o2
end Go.V.Jn
