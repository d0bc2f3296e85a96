/- Lemmas on plain data and programs: part B30. -/
import Derived.Test.YtkgloohlmogakaaGreatDoorB29
set_option linter.all false
set_option maxHeartbeats 8000000
set_option maxRecDepth 100000
namespace Go.V.Jn
open Go.Proofs Go.Proofs.Tryz Go.RowKit Go.V.Lx Go.V.Gr Go.V.Ty Go.V.St
attribute [go_sem] nJ ld Ei
@[go_sem] def Eh(n:Int):(aR.i n).d= .agg [I 1,I n,.str [],.sl 4 []]:=rfl
@[go_sem] def Mf(s:ah):(aR.t s).d= .agg [I 2,I 0,.str s,.sl 4 []]:=rfl
def Rg(n:Int):bN (D.agg [I 1,I n,.str [],.aq]) (.agg [I 1,I n,.str [],.sl 4 []]):=fF (.cons (.refl _) (.cons (.refl _) (.cons (.refl _) (.cons (.nil _) .nil))))
def Ri(s:ah):bN (D.agg [I 2,I 0,.str s,.aq]) (.agg [I 2,I 0,.str s,.sl 4 []]):=fF (.cons (.refl _) (.cons (.refl _) (.cons (.refl _) (.cons (.nil _) .nil))))
@[go_sem] def XZ(v:aR):v.d.cells.length=4:=(Rd v).1
@[go_sem] theorem ajC(v:aR):v.d.cells.all D.one=true:=by
 cases v with
 |i n=>rfl
 |t s=>rfl
 |l xs=>rw[nJ];rfl
@[go_sem] theorem ajB(v:aR):D.agg (List.take 4 v.d.cells)=v.d:=by
 cases v with
 |i n=>rfl
 |t s=>rfl
 |l xs=>rw[nJ];rfl
@[go_sem] theorem Ua(v:aR):D.agg v.d.cells=v.d:=by
 cases v with
 |i n=>rfl
 |t s=>rfl
 |l xs=>rw[nJ];rfl
theorem Ju{n:Nat}:∀ {xs:List aR},(∀x∈xs,eW x<=n)->eZ xs<=n
 |[],_=>by simp[eZ]
 |x::xs,h=>by
  have:=h x (List.mem_cons_self ..);have:=Ju (xs:=xs) fun y hy=>h y (List.mem_cons_of_mem _ hy);simp[eZ];omega
theorem M0(v:aR):eW v<=(cp v).length:=by
 induction v using n7 with
 |hi n=>simp[eW]
 |ht s=>simp[eW]
 |hl xs ih=>
  have:=Ju (n:=(dN xs).length) fun x hx=>Nat.le_trans (ih x hx) (qt hx);simp[eW,cp];omega
instance(n:Int):Ct 93 [I n] True (aR.i n).d:=by
 refine bf f93 [] [.cell 2 158] fun pre=>?_;repeat' first|exact zQ|with_reducible apply zJ<;>intro _|refine zK ?_
 exact Rg n
instance(s:ah):Ct 155 [.str s] True (aR.t s).d:=by
 refine bf f155 [] [.cell 2 158] fun pre=>?_;repeat' first|exact zQ|with_reducible apply zJ<;>intro _|refine zK ?_
 exact Ri s
instance alc(v:aR):Ct 214 [v.d] (na v) (.bool true):=by
 induction v using n7 with
 |hi n=>
  refine bf f214 [] [.tmp 2] fun pre=>?_;repeat' first|exact zQ|with_reducible apply zJ<;>intro _|refine zK ?_
 |ht s=>
  refine bf f214 [] [.tmp 2] fun pre=>?_;repeat' first|exact zQ|with_reducible apply zJ<;>intro _|refine zK ?_
 |hl xs ih=>
  refine bf f214 [] [.tmp 2] fun pre=>?_;obtain⟨h1,h2,h3⟩:=zT pre;repeat' first|exact zQ|with_reducible apply zJ<;>intro _|refine zK ?_
  refine cm xs [(2,3),(30,43)] [] (fun j τ _=>τ 3=I j) (by simp[Lm];omega) sG (fun j x τ β hx hj hw hi=>?_) fun τ β hn hi=>?_
  ·have hm:=mG hx;have hf:=h3 x hm;haveI:=ih x hm;repeat' first|exact zQ|with_reducible apply zJ<;>intro _|refine zK ?_
  ·repeat' first|exact zQ|with_reducible apply zJ<;>intro _|refine zK ?_
instance ala(v:aR):Ct 215 [v.d] (na v) (I (eW v)):=by
 induction v using n7 with
 |hi n=>
  refine bf f215 [] [.tmp 2] fun pre=>?_;rw[show eW (.i n)=0 from rfl];repeat' first|exact zQ|with_reducible apply zJ<;>intro _|refine zK ?_
 |ht s=>
  refine bf f215 [] [.tmp 2] fun pre=>?_;rw[show eW (.t s)=0 from rfl];repeat' first|exact zQ|with_reducible apply zJ<;>intro _|refine zK ?_
 |hl xs ih=>
  refine bf f215 [] [.tmp 2] fun pre=>?_;obtain⟨h1,h2,h3⟩:=zT pre;repeat' first|exact zQ|with_reducible apply zJ<;>intro _|refine zK ?_
  refine cm xs [(3,4),(8,22)] [] (fun j τ _=>τ 4=I j/\τ 3=I (eZ (xs.take j))) (by simp[Lm];omega) (by simp[go_sem,eZ]) (fun j x τ β hx hj hw hi=>?_) fun τ β hn hi=>?_
  ·obtain⟨h7,h8⟩:=hi;have hm:=mG hx;have hf:=h3 x hm;have hd:eZ (xs.take (j+1))=max (eZ (xs.take j)) (eW x):=by rw[List.take_add_one,hx,A9];simp[eZ]
   haveI:=ih x hm;clear ih h3;repeat' first|exact zQ|with_reducible apply zJ<;>intro _|refine zK ?_
   exact congrArg I oM
  ·obtain⟨h7,h8⟩:=hi;rw[tL]at h8;have hd:eW (.l xs)=eZ xs+1:=rfl;rw[hd];have w1:IntKind.i64.wrap ((eZ xs:Int)+1)=((eZ xs+1:Nat):Int):=aD (by have:=M0 (.l xs);have:=pre.2;omega);clear ih h3;repeat' first|exact zQ|with_reducible apply zJ<;>intro _|refine zK ?_
instance(v:aR):Ct 156 [v.d] (na v) (I (if 16<eW v then 2 else 0)):=by
 refine bf f156 [] [.tmp 2] fun pre=>?_;repeat' first|exact zQ|with_reducible apply zJ<;>intro _|refine zK ?_
 ·rw[if_pos oM];exact .refl _
 ·rw[if_neg oM];exact .refl _
@[go_sem] def agm(lo:Nat)(T:TypeId->TI)(dst:Option Tmp)(bx:ae)(x y:D):uV lo T 71 9 dst bx x y=xX lo T (T 71) (T 9) dst bx x y:=by simp only[uV];rw[if_neg (by decide)]
def iX{u:Nat}(h:u<18446744073709551616):(ew u).length<=10:=HC 9 oM
def Mi{c:Nat}:IntKind.u8.wrap (c:Int)=((UInt8.ofNat c).toNat:Int):=by simp[IntKind.wrap,IntKind.signed,IntKind.bits]
instance ald(u:Nat):Ct 216 [.int .u64 u] (u<18446744073709551616) (aU (ew u)):=by
 induction u using Nat.strongRecOn with
 |ind u ih=>
 refine bf f216 [(1000012,[])] [.tmp 2] fun pre=>?_;have w8:=Mi (c:=u);have hl:=iX pre;by_cases hs:u<128
 ·have c:(u:Int)<128:=oM;rw[wN hs];repeat' first|exact zQ|with_reducible apply zJ<;>intro _|refine zK ?_
  exact .refl _
 ·have c:¬(u:Int)<128:=oM;rw[Bm hs]at hl⊢;have hd:u / 128<u:=oM;have Bf:u / 128<18446744073709551616:=oM;have e1:(u:Int).tdiv 128=((u / 128:Nat):Int):=by rw[Int.tdiv_eq_ediv_of_nonneg oM];rfl
  have e2:(u:Int).tmod 128=((u % 128:Nat):Int):=by rw[Int.tmod_eq_emod_of_nonneg oM];rfl
  have e3:IntKind.u64.wrap (((u % 128:Nat):Int)+128)=((u % 128+128:Nat):Int):=by rw[show((u % 128:Nat):Int)+128=((u % 128+128:Nat):Int) by omega,dq rfl (by simp[IntKind.bits];omega)]
  have e4:=Mi (c:=u % 128+128);have e5:IntKind.u64.wrap ((u / 128:Nat):Int)=((u / 128:Nat):Int):=dq rfl (by simp[IntKind.bits];omega);haveI:=ih _ hd;generalize UInt8.ofNat (u % 128+128)=x at *;generalize ew (u / 128)=y at *;clear ih;repeat' first|exact zQ|with_reducible apply zJ<;>intro _|refine zK ?_
  refine app [12,16] (.inr ⟨12,1,by simp,rfl,by simp[ak]⟩:aX _ [12,16] 5 1 (.bE 12 1 1 0 1) [.int .u8 x.toNat]) (fun x' β hv=>?_) (by simp[a_];simp at hl;omega);replace hv:aX β [12,16] 5 1 x' (a_ (x::y)):=hv;have hf:=hv.facts;repeat' first|exact zQ|with_reducible apply zJ<;>intro _|refine zK ?_
  exact xe (hv.mix _) rfl
instance(n:Int):Ct 217 [I n] (-9223372036854775808<=n/\n<=9223372036854775807) (.int .u64 (rO n)):=by
 refine bf f217 [] [.tmp 2] fun pre=>?_;obtain⟨h1,h2⟩:=pre;unfold rO;by_cases h:0<=n
 ·rw[if_pos h];obtain⟨m,rfl⟩:∃m:Nat,n=m:=⟨n.toNat,by omega⟩
  have e1:IntKind.u64.wrap (m:Int)=m:=dq rfl (by simp[IntKind.bits];omega);have e2:IntKind.u64.wrap (2 * (m:Int))=((2 * m:Nat):Int):=by rw[show 2 * (m:Int)=((2 * m:Nat):Int) by omega,dq rfl (by simp[IntKind.bits];omega)]
  rw[Int.toNat_natCast];repeat' first|exact zQ|with_reducible apply zJ<;>intro _|refine zK ?_
 ·rw[if_neg h];obtain⟨m,hm⟩:∃m:Nat,n= -(m:Int) - 1:=⟨(-(n+1)).toNat,by omega⟩
  subst hm;have e0:(-(-(m:Int) - 1+1)).toNat=m:=oM;have e3:IntKind.i64.wrap (-(m:Int) - 1+1)= -(m:Int):=by rw[ik _ oM oM];omega
  have e4:IntKind.i64.wrap (0 - -(m:Int))=m:=by rw[ik _ oM oM];omega
  have e5:0 - (-(m:Int) - 1+1)=m:=oM;have e1:IntKind.u64.wrap (m:Int)=m:=dq rfl (by simp[IntKind.bits];omega);have e2:IntKind.u64.wrap (2 * (m:Int))=((2 * m:Nat):Int):=by rw[show 2 * (m:Int)=((2 * m:Nat):Int) by omega,dq rfl (by simp[IntKind.bits];omega)]
  have e6:IntKind.u64.wrap (((2 * m:Nat):Int)+1)=((2 * m+1:Nat):Int):=by rw[show((2 * m:Nat):Int)+1=((2 * m+1:Nat):Int) by omega,dq rfl (by simp[IntKind.bits];omega)]
  rw[e0];repeat' first|exact zQ|with_reducible apply zJ<;>intro _|refine zK ?_
instance alb(v:aR):Ct 157 [v.d] (na v) (aU (cp v)):=by
 induction v using n7 with
 |hi n=>
  refine bf f157 [(1000009,[]),(1000017,[]),(1000027,[]),(5,[(10,8),(10,5),(10,2),(5,2),(4,2)])] [.tmp 2] fun pre=>?_;have hz:=DA pre.1.1 pre.1.2;have hr: -9223372036854775808<=n/\n<=9223372036854775807:=pre.1;rw[show cp (.i n)=1::ew (rO n)from rfl];have hl:=iX hz;clear pre;repeat' first|exact zQ|with_reducible apply zJ<;>intro _|refine zK ?_
  refine app [9,14] (.inr ⟨9,1,by simp,rfl,by simp[ak]⟩:aX _ [9,14] 5 1 (.bE 9 1 1 0 1) [.int .u8 1]) (fun x' β hv=>?_) (by simp[a_];omega);replace hv:aX β [9,14] 5 1 x' (a_ (1::ew (rO n))):=hv;have hf:=hv.facts;repeat' first|exact zQ|with_reducible apply zJ<;>intro _|refine zK ?_
  exact xe (hv.mix _) rfl
 |ht s=>
  refine bf f157 [(2000005,[]),(1000009,[]),(1000017,[]),(1000027,[]),(5,[(10,8),(10,5),(10,2),(5,2),(4,2)])] [.tmp 2] fun pre=>?_;have hs:s.length<=1099511627776:=by have:=pre.2;simp[cp]at this;omega
  rw[show cp (.t s)=2::(ew s.length++s)from rfl];have hl:=iX (u:=s.length) oM;have hw:IntKind.u64.wrap (s.length:Int)=s.length:=dq rfl (by simp[IntKind.bits];omega);have hu:s.length<18446744073709551616:=oM;clear pre;repeat' first|exact zQ|with_reducible apply zJ<;>intro _|refine zK ?_
  refine iS (.bm 1 (.bm 7 (.load 2 1 (.load 8 1 (.both 0 [1] (.both 3 [1] (.bm 4 (.both 5 [1] (.both 6 [1] (.both 9 [] (.bm 10 .fin) .stop) .stop) .stop)) .stop) (.both 3 [1] (.bm 4 (.both 0 [1] (.both 5 [1] (.both 6 [1] (.both 9 [] (.bm 10 .fin) .stop) .stop) .stop) (.both 5 [1] (.both 0 [1] (.both 6 [1] (.both 9 [] (.bm 10 .fin) .stop) .stop) .stop) .stop))) .stop)))))) aj ?_;repeat' first|exact zQ|with_reducible apply zJ<;>intro _|refine zK ?_
  refine⟨?_,?_,?_⟩;all_goals repeat' first|exact zQ|with_reducible apply zJ<;>intro _|refine zK ?_
  all_goals
   refine app [17,23,26] (.inr ⟨17,1,by simp,rfl,by simp[ak]⟩:aX _ [17,23,26] 5 1 (.bE 17 1 1 0 1) [.int .u8 2]) (fun x' β hv=>?_) (by simp[a_];omega);replace hv:aX β [17,23,26] 5 1 x' (a_ (2::ew s.length)):=hv;have hf:=hv.facts;repeat' first|exact zQ|with_reducible apply zJ<;>intro _|refine zK ?_
   refine app [17,23,26] (hv.mix _) (fun x2 β2 dZ=>?_) (by simp[a_];omega);rw[<-iu]at dZ;have G4:=dZ.facts;repeat' first|exact zQ|with_reducible apply zJ<;>intro _|refine zK ?_
   exact xe (dZ.mix _) rfl
 |hl xs ih=>
  refine bf f157 [(1000009,[]),(1000017,[]),(1000027,[]),(5,[(10,8),(10,5),(10,2),(5,2),(4,2)])] [.tmp 2] fun pre=>?_;obtain⟨h1,h2,h3⟩:=zT pre;rw[show cp (.l xs)=3::(ew xs.length++dN xs)from rfl];have hl:=iX (u:=xs.length) oM;have hw:IntKind.u64.wrap (xs.length:Int)=xs.length:=dq rfl (by simp[IntKind.bits];omega);have hu:xs.length<18446744073709551616:=oM;clear pre;repeat' first|exact zQ|with_reducible apply zJ<;>intro _|refine zK ?_
  refine app [27,33,48] (.inr ⟨27,1,by simp,rfl,by simp[ak]⟩:aX _ [27,33,48] 5 1 (.bE 27 1 1 0 1) [.int .u8 3]) (fun x' β hv=>?_) (by simp[a_];omega);replace hv:aX β [27,33,48] 5 1 x' (a_ (3::ew xs.length)):=hv;have hf:=hv.facts;repeat' first|exact zQ|with_reducible apply zJ<;>intro _|refine zK ?_
  refine cm xs [(3,4),(34,48)] (mj [27,33,48]) (fun j τ β=>τ 4=I j/\aX β [27,33,48] 5 1 (τ 3) (a_ (3::(ew xs.length++dN (xs.take j))))) (by simp[Lm];omega) ⟨by simp[go_sem],by simpa[go_sem,dN]using hv.mix _⟩ (fun j x τ β hx hj hw hi=>?_) fun τ β hn hi=>?_
  ·obtain⟨h7,h8⟩:=hi;generalize NR:τ 3=v3 at *;have V0:=h8.facts;have hm:=mG hx;have V2:=h3 x hm;haveI:=ih x hm;have tG:=Ez hx;have ar:=EA xs (j+1);rw[tG,List.length_append]at ar;clear ih h3;repeat' first|exact zQ|with_reducible apply zJ<;>intro _|refine zK ?_
   refine app [27,33,48] (h8.mix _) (fun x2 β2 dZ=>?_) (by simp[a_];omega);rw[<-iu]at dZ;have G4:=dZ.facts;rw[List.cons_append,List.append_assoc,<-tG]at dZ;repeat' first|exact zQ|with_reducible apply zJ<;>intro _|refine zK ?_
   rw[tG]at dZ;exact dZ.mix _
  ·obtain⟨h7,h8⟩:=hi;rw[tL]at h8;generalize NR:τ 3=v3 at *;have V0:=h8.facts;clear ih h3;repeat' first|exact zQ|with_reducible apply zJ<;>intro _|refine zK ?_
   exact xe (h8.mix _) rfl
instance(v:aR):Ct 91 [v.d] (na v/\eW v<=16) (.aL [aU (cp v),I 0]):=by
 refine bf f91 [] [.tmp 2,.tmp 3] fun pre=>?_;obtain⟨h1,h2⟩:=pre;have h3:¬16<eW v:=oM;have h4:(if 16<eW v then 2 else 0:Int)=0:=if_neg h3;repeat' first|exact zQ|with_reducible apply zJ<;>intro _|refine zK ?_
 all_goals trace_state
def TG{a:Nat}(h:a<18446744073709551616):a ^^^ 18446744073709551615=18446744073709551615 - a:=by
 have h1:(BitVec.ofNat 64 a ^^^ BitVec.allOnes 64).toNat=(~~~ BitVec.ofNat 64 a).toNat:=by rw[BitVec.xor_allOnes]
 rw[BitVec.toNat_xor,BitVec.toNat_not,BitVec.toNat_allOnes,BitVec.toNat_ofNat,Nat.mod_eq_of_lt h]at h1;simpa using h1
def X7{m:Nat}(h:m<9223372036854775808):dj .xor .i64 (m:Int) (-1)= -(m:Int) - 1:=by
 have h1:(BitVec.ofInt 64 (m:Int) ^^^ BitVec.ofInt 64 (-1)).toNat=18446744073709551615 - m:=by rw[show BitVec.ofInt 64 (-1)=BitVec.allOnes 64 by decide,BitVec.xor_allOnes,BitVec.toNat_not,x_,Nat.mod_eq_of_lt oM]
 show IntKind.i64.wrap (((BitVec.ofInt 64 (m:Int) ^^^ BitVec.ofInt 64 (-1)).toNat:Nat):Int)=_;rw[h1];simp[IntKind.wrap,IntKind.signed,IntKind.bits];omega
def aat{m:Nat}(h:m<9223372036854775808):dj .xor .i64 (m:Int) 0=m:=by
 have h1:(BitVec.ofInt 64 (m:Int) ^^^ BitVec.ofInt 64 0).toNat=m:=by rw[show BitVec.ofInt 64 0=0#64 by decide,BitVec.xor_zero,x_,Nat.mod_eq_of_lt oM]
 show IntKind.i64.wrap (((BitVec.ofInt 64 (m:Int) ^^^ BitVec.ofInt 64 0).toNat:Nat):Int)=_;rw[h1,ik _ oM oM]
instance ak_(v:aR):Ct 208 [v.d] (na v) (.aL [I (eW v),.bool true]):=by
 induction v using n7 with
 |hi n=>
  refine bf f208 [] [.tmp 2,.tmp 3] fun pre=>?_;rw[show eW (.i n)=0 from rfl];repeat' first|exact zQ|with_reducible apply zJ<;>intro _|refine zK ?_
  all_goals exact wk
 |ht s=>
  refine bf f208 [] [.tmp 2,.tmp 3] fun pre=>?_;rw[show eW (.t s)=0 from rfl];repeat' first|exact zQ|with_reducible apply zJ<;>intro _|refine zK ?_
  all_goals exact wk
 |hl xs ih=>
  refine bf f208 [] [.tmp 2,.tmp 3] fun pre=>?_;obtain⟨h1,h2,h3⟩:=zT pre;have hd:eW (.l xs)=eZ xs+1:=rfl;have w1:IntKind.i64.wrap ((eZ xs:Int)+1)=((eZ xs+1:Nat):Int):=aD (by have:=M0 (.l xs);have:=pre.2;omega);rw[hd];clear hd pre;repeat' first|exact zQ|with_reducible apply zJ<;>intro _|refine zK ?_
  refine cm xs [(2,3),(6,8),(57,71)] [(6,6)] (fun j τ _=>τ 57=I j/\τ 2=I (eZ (xs.take j))) (by simp[Lm];omega) (by simp[go_sem,eZ]) (fun j x τ β hx hj hw hi=>?_) fun τ β hn hi=>?_
  ·obtain⟨h7,h8⟩:=hi;have hm:=mG hx;have hf:=h3 x hm;have hd:max (eZ (xs.take j):Int) (eW x:Int)=(eZ (xs.take (j+1)):Int):=by rw[List.take_add_one,hx,A9];simp[eZ];omega
   haveI:=ih x hm;clear ih h3;repeat' first|exact zQ|with_reducible apply zJ<;>intro _|refine zK ?_
  ·obtain⟨h7,h8⟩:=hi;rw[tL]at h8;generalize eZ xs=dp at *;clear ih h3;repeat' first|exact zQ|with_reducible apply zJ<;>intro _|refine zK ?_
   all_goals first|exact wk|trace_state
instance(v:aR):Ct 153 [v.d] (na v) (I (if 16<eW v then 2 else 0)):=by
 refine bf f153 [] [.tmp 2] fun pre=>?_;repeat' first|exact zQ|with_reducible apply zJ<;>intro _|refine zK ?_
 ·rw[if_pos oM];exact .refl _
 ·rw[if_neg oM];exact .refl _
instance(n:Int):Ct 211 [I n] (-9223372036854775808<=n/\n<=9223372036854775807) (.int .u64 (rO n)):=by
 refine bf f211 [] [.tmp 2] fun pre=>?_;obtain⟨h1,h2⟩:=pre;have ux:min 1 64=1:=rfl;have oB:min 63 64=63:=rfl;by_cases h:0<=n
 ·have hz:rO n=2 * n.toNat:=if_pos h;obtain⟨m,rfl⟩:∃m:Nat,n=m:=⟨n.toNat,by omega⟩
  have e1:IntKind.u64.wrap (m:Int)=m:=dq rfl (by simp[IntKind.bits];omega);have e2:IntKind.u64.wrap ((m:Int) * 2 ^ min 1 64)=((2 * m:Nat):Int):=by rw[show(m:Int) * 2 ^ min 1 64=((2 * m:Nat):Int) by rw[ux];omega,dq rfl (by simp[IntKind.bits];omega)]
  have e3:(m:Int).fdiv (2 ^ min 63 64)=0:=by rw[Int.fdiv_eq_ediv_of_nonneg _ sI];rw[oB];omega
  have e4:dj .xor .u64 ((2 * m:Nat):Int) 0=((2 * m:Nat):Int):=by
   have:=uU .u64 rfl (a:=2 * m) (b:=0) (by simp[IntKind.bits];omega) (by simp[IntKind.bits]);rw[Nat.xor_zero]at this;exact this
  have e5:IntKind.u64.wrap 0=0:=rfl;rw[hz,Int.toNat_natCast];clear ux oB hz;repeat' first|exact zQ|with_reducible apply zJ<;>intro _|refine zK ?_
 ·have hz:rO n=2 * (-(n+1)).toNat+1:=if_neg h;obtain⟨m,hm⟩:∃m:Nat,n= -(m:Int) - 1:=⟨(-(n+1)).toNat,by omega⟩
  subst hm;have e0:(-(-(m:Int) - 1+1)).toNat=m:=oM;have e1:IntKind.u64.wrap (-(m:Int) - 1)=((18446744073709551615 - m:Nat):Int):=by simp[IntKind.wrap,IntKind.signed,IntKind.bits];omega
  have e2:IntKind.u64.wrap (((18446744073709551615 - m:Nat):Int) * 2 ^ min 1 64)=((18446744073709551614 - 2 * m:Nat):Int):=by rw[ux];simp[IntKind.wrap,IntKind.signed,IntKind.bits];omega
  have e3:(-(m:Int) - 1).fdiv (2 ^ min 63 64)= -1:=by rw[Int.fdiv_eq_ediv_of_nonneg _ sI];rw[oB];omega
  have e5:IntKind.u64.wrap (-1)=18446744073709551615:=rfl;have e4:dj .xor .u64 ((18446744073709551614 - 2 * m:Nat):Int) 18446744073709551615=((2 * m+1:Nat):Int):=by
   have:=uU .u64 rfl (a:=18446744073709551614 - 2 * m) (b:=18446744073709551615) (by simp[IntKind.bits];omega) (by simp[IntKind.bits]);rw[TG oM]at this;rw[show(18446744073709551615:Int)=((18446744073709551615:Nat):Int)from rfl,this];omega
  rw[hz,e0];clear ux oB hz;repeat' first|exact zQ|with_reducible apply zJ<;>intro _|refine zK ?_
instance(n:Int):Ct 220 [.int .u64 (rO n)] (-9223372036854775808<=n/\n<=9223372036854775807) (I n):=by
 refine bf f220 [] [.tmp 2] fun pre=>?_;obtain⟨h1,h2⟩:=pre;have ux:min 1 64=1:=rfl;by_cases h:0<=n
 ·have hz:rO n=2 * n.toNat:=if_pos h;obtain⟨m,rfl⟩:∃m:Nat,n=m:=⟨n.toNat,by omega⟩
  rw[Int.toNat_natCast]at hz;rw[hz];have e1:((2 * m:Nat):Int).fdiv (2 ^ min 1 64)=m:=by rw[Int.fdiv_eq_ediv_of_nonneg _ sI];rw[ux];omega
  have e2:IntKind.i64.wrap (m:Int)=m:=ik _ oM oM;have e3:dj .and .u64 ((2 * m:Nat):Int) 1=0:=by
   have:=vX .u64 rfl (a:=2 * m) (b:=1) (by simp[IntKind.bits];omega);rw[Nat.and_one_is_mod,show 2 * m % 2=0 by omega]at this;exact this
  have e4:IntKind.i64.wrap 0=0:=rfl;have e5:=aat (m:=m) oM;have e6:(0:Int) - 0=0:=rfl;clear ux hz;repeat' first|exact zQ|with_reducible apply zJ<;>intro _|refine zK ?_
 ·have hz:rO n=2 * (-(n+1)).toNat+1:=if_neg h;obtain⟨m,hm⟩:∃m:Nat,n= -(m:Int) - 1:=⟨(-(n+1)).toNat,by omega⟩
  subst hm;rw[show(-(-(m:Int) - 1+1)).toNat=m by omega]at hz;rw[hz];have e1:((2 * m+1:Nat):Int).fdiv (2 ^ min 1 64)=m:=by rw[Int.fdiv_eq_ediv_of_nonneg _ sI];rw[ux];omega
  have e2:IntKind.i64.wrap (m:Int)=m:=ik _ oM oM;have e3:dj .and .u64 ((2 * m+1:Nat):Int) 1=1:=by
   have:=vX .u64 rfl (a:=2 * m+1) (b:=1) (by simp[IntKind.bits];omega);rw[Nat.and_one_is_mod,show(2 * m+1) % 2=1 by omega]at this;exact this
  have e4:IntKind.i64.wrap 1=1:=rfl;have e6:IntKind.i64.wrap (-1)= -1:=rfl;have e7:IntKind.i64.wrap (0 - 1)= -1:=rfl;have e5:=X7 (m:=m) oM;clear ux hz;repeat' first|exact zQ|with_reducible apply zJ<;>intro _|refine zK ?_
abbrev wS:List Nat:=[107,115,130,214,219]
def ZT{u:Nat}:dj .or .u8 ((UInt8.ofNat u).toNat:Int) 128=((UInt8.ofNat (u % 128+128)).toNat:Int):=by
 have:=QB .u8 rfl (a:=(UInt8.ofNat u).toNat) (b:=128) (by simp[IntKind.bits];omega) (by simp[IntKind.bits]);rw[show(128:Int)=((128:Nat):Int)from rfl,this]
 congr 1
 simp only[UInt8.toNat_ofNat',Nat.reducePow];have h:u % 256 % 128|||1 * 2 ^ 7=u % 256 % 128+1 * 2 ^ 7:=HN oM
 have h2:u % 256|||128=u % 256 % 128|||1 * 2 ^ 7:=by
  apply Nat.eq_of_testBit_eq;intro i;rw[Nat.testBit_or,Nat.testBit_or,show(128:Nat)=2 ^ 7 from rfl,Nat.one_mul,Nat.testBit_mod_two_pow];by_cases hi:i<7
  ·simp[hi]
  ·by_cases gx:i=7
   ·subst gx;simp;intro _;decide
   ·have h3:(u % 256).testBit i=false:=Nat.testBit_lt_two_pow (Nat.lt_of_lt_of_le (Nat.mod_lt _ (by decide)) (show 256<=2 ^ i from(show(256:Nat)=2 ^ 8 from rfl)▸Nat.pow_le_pow_right (by decide) oM));simp[h3,hi]
 rw[h2,h];omega
def Jj(bx bx':ae)(d:D)(s:ah):Prop:=aX bx' wS 5 1 d (a_ s)/\∀q,q∉wS->bx' q=bx q
theorem Jj.mk{bx β:ae}{d:D}{s:ah}(h:aX β wS 5 1 d (a_ s)):Jj bx (bn (mj wS) β bx) d s:=by
 refine⟨h.mix _,fun q hq=>?_⟩;have:di (mj wS) q=false:=by
  simp[wS,mj,di]at *;omega
 show(if di (mj wS) q=true then _ else _)=_;rw[this];rfl
def y8(u:Nat)(hu:u<18446744073709551616)(bs:ah)(hb:bs.length<=1099511627776)(x:D)(bx:ae)(hv:aX bx wS 5 1 x (a_ bs)):
 bj prog 210 200 [x,.int .u64 u] bx (fun d bx'=>Jj bx bx' d (bs++ew u)) (fun _ _=>False):=by
 refine aI (fn:=f210) (tab:=[]) (base:=200) mixed ?_ rfl aj rfl;refine aJ _ [.tmp 4] 20 rfl rfl rfl aj ?_;have hf:=hv.facts;have AD:=iX hu;generalize hR:bs++ew u=R;have hRl:R.length<=1099511627776+10:=by rw[<-hR,List.length_append];omega
 repeat' first|exact zQ|with_reducible apply zJ<;>intro _|refine zK ?_
 refine ri (u,bs) (fun g:Nat×ah=>g.1) [(0,1),(5,14)] (mj wS) (fun g τ β=>τ 1= .int .u64 g.1/\aX β wS 5 1 (τ 0) (a_ g.2)/\g.1<18446744073709551616/\Hid (g.2++ew g.1=R)) ⟨by simp[go_sem],by simpa[go_sem]using hv,hu,hR⟩ ?_;clear hR AD hu;rintro⟨v,acc⟩ τ β ⟨h1,hw,ar,he⟩;simp only at h1 hw ar he;generalize vC:τ 0=x0 at *;have xG:=hw.facts;have hl:acc.length<=1099511627786:=by
  have:=congrArg List.length he.out;simp only[List.length_append]at this;omega
 have w8:=Mi (c:=v);clear hRl hb;by_cases hs:v<128
 ·have c:¬(128:Int)<=(v:Int):=oM;have he:=he.out;rw[wN hs]at he;replace he:Hid _:=he;repeat' first|exact zQ|with_reducible apply zJ<;>intro _|refine zK ?_
  refine app wS (hw.mix _) (fun x' β' j_=>?_) (by simp[a_];omega);have iL:aX β' wS 5 1 x' (a_ (acc++[UInt8.ofNat v])):=by rw[iu];exact j_
  rw[he.out]at iL;have kD:=iL.facts;clear he j_;repeat' first|exact zQ|with_reducible apply zJ<;>intro _|refine zK ?_
  exact Jj.mk iL
 ·have c:(128:Int)<=(v:Int):=oM;have he:=he.out;rw[Bm hs]at he;have e1:(v:Int).fdiv (2 ^ min 7 64)=((v / 128:Nat):Int):=by rw[Int.fdiv_eq_ediv_of_nonneg _ sI,show(2:Int) ^ min 7 64=((128:Nat):Int)from rfl];omega
  have e2:=ZT (u:=v);have hd:Hid (v / 128<v):=show v / 128<v by omega
  have qj:v / 128<18446744073709551616:=oM;generalize UInt8.ofNat (v % 128+128)=y at *;replace he:Hid _:=he;repeat' first|exact zQ|with_reducible apply zJ<;>intro _|refine zK ?_
  refine app wS (hw.mix _) (fun x' β' j_=>?_) (by simp[a_];omega);have iL:aX β' wS 5 1 x' (a_ (acc++[y])):=by rw[iu];exact j_
  have kD:=iL.facts;clear j_;repeat' first|exact zQ|with_reducible apply zJ<;>intro _|refine zK ?_
  exact⟨(v / 128,acc++[y]),hd.out,rfl,iL.mix _,qj,by show _=_;rw[List.append_assoc];exact he.out⟩
def Ms(bx:ae)(e e1:Nat):Prop:=bx 21=⟨e1,1,1,231,[.loc 23 e 0 0]⟩/\bx 23=⟨e,1,4,297,[.agg [.raw .nilFunc,.fn (.func 209) [],.fn (.func 212) [],.fn (.func 213) [.loc 21 e1 0 0]]]⟩
def NW(bx bx':ae)(d:D):Prop:=∃e e1,d= .loc 23 e 0 0/\Ms bx' e e1/\∀q,q<20->bx' q=bx q
def I5(bx:ae):bj prog 154 20 [] bx (fun d bx'=>NW bx bx' d) (fun _ _=>False):=by
 refine aI (fn:=f154) (tab:=[]) (base:=20) mixed ?_ rfl aj rfl;refine aJ _ [.tmp 0] 18 rfl rfl rfl aj ?_;repeat' first|exact zQ|with_reducible apply zJ<;>intro _|refine zK ?_
 refine⟨(bx 23).ep+1,(bx 21).ep+1,rfl,⟨by simp[ak],by simp[ak]⟩,fun q hq=>?_⟩;have h1:¬q=21:=oM;have h2:¬q=23:=oM;simp[ak,h1,h2]
def X4:aR->FuncId
 | .i _=>209
 | .t _=>212
 | .l _=>213
def Re(e1:Nat):aR->List D
 | .l _=>[.loc 21 e1 0 0]
 |_=>[]
def Mm(bx bx':ae)(d:D)(s:ah):Prop:=aX bx' wS 5 1 d (a_ s)/\du [(100,1000)] bx' bx
def Sc{q:Nat}(h:di [(100,1000)] q=false):q∉wS:=by
 simp[di]at h;simp[wS];omega
def HO{q t:Nat}(h:di [(100,1000)] q=false)(h1:100<=t/\t<=1000:=by decide):q≠t:=by simp[di]at h;omega
def Lw{β b:ae}{q:Nat}(h:di [(100,1000)] q=false):bn (mj wS) β b q=b q:=by
 have:di (mj wS) q=false:=by
  have:=Sc h;simp[wS,mj,di]at *;omega
 show(if di (mj wS) q=true then _ else _)=_;rw[this];rfl
def OM{bx:ae}{x:D}{xs:List D}{s:Nat}{v:Bx}(h:aX bx wS 5 1 x xs)(hs:s∉wS):aX (ak bx s v) wS 5 1 x xs:=h.of fun t ht=>aB fun e=>hs (e▸ht)
theorem Jj.x{bx b bx':ae}{d:D}{s:ah}(h:Jj b bx' d s)(hb:du [(100,1000)] b bx):Mm bx bx' d s:=⟨h.1,fun q hq=>(h.2 q (Sc hq)).trans (hb q hq)⟩
def Uc(n:Int)(hr: -9223372036854775808<=n/\n<=9223372036854775807)(bs:ah)(x:D)(bx:ae)(hl:bs.length<=1099511627000)(hv:aX bx wS 5 1 x (a_ bs)):
 bj prog 209 100 [x,.agg [I 1,I n,.str [],.sl 4 []]] bx (fun d bx'=>Mm bx bx' d (bs++cp (.i n))) (fun _ _=>False):=by
 refine aI (fn:=f209) (tab:=[(2000001,[]),(1,[(6,3),(5,3)])]) (base:=100) mixed ?_ rfl aj rfl;refine aJ _ [.tmp 4] 12 rfl rfl rfl aj ?_;have hz:=DA hr.1 hr.2;have hf:=hv.facts;generalize hR:bs++cp (.i n)=R;replace hR:Hid (bs++[1]++ew (rO n)=R):=by show _=_;rw[<-hR];simp[cp]
 repeat' first|exact zQ|with_reducible apply zJ<;>intro _|refine zK ?_
 refine iS (.bm 0 (.bm 3 (.load 4 3 (.both 1 [3] (.both 2 [3] (.both 5 [] (.both 6 [] (.bm 7 .fin) .stop) .stop) .stop) .stop)))) aj ?_;repeat' first|exact zQ|with_reducible apply zJ<;>intro _|refine zK ?_
 refine app wS (OM hv (by decide)) (fun x' β j_=>?_) (by simp[a_];omega);have iL:aX β wS 5 1 x' (a_ (bs++[1])):=by rw[iu];exact j_
 have kD:=iL.facts;clear j_;repeat' first|exact zQ|with_reducible apply zJ<;>intro _|refine zK ?_
 refine aC (y8 (rO n) hz (bs++[1]) (by simp;omega) x' _ (iL.mix _)) rfl fun d bx1 hq=>?_;rw[hR.out]at hq;have pP:=hq.1.facts;repeat' first|exact zQ|with_reducible apply zJ<;>intro _|refine zK ?_
 exact hq.x fun q h=>(Lw h).trans (aB (HO h))
def Ue(s:ah)(bs:ah)(x:D)(bx:ae)(hl:bs.length+s.length<=1099511627000)(hv:aX bx wS 5 1 x (a_ bs)):
 bj prog 212 100 [x,.agg [I 2,I 0,.str s,.sl 4 []]] bx (fun d bx'=>Mm bx bx' d (bs++cp (.t s))) (fun _ _=>False):=by
 refine aI (fn:=f212) (tab:=[(2000001,[]),(1,[(10,7),(9,7),(10,2),(9,2),(4,2)])]) (base:=100) mixed ?_ rfl aj rfl;refine aJ _ [.tmp 4] 16 rfl rfl rfl aj ?_;have hf:=hv.facts;have hw:IntKind.u64.wrap (s.length:Int)=s.length:=dq rfl (by simp[IntKind.bits];omega);have mP:s.length<18446744073709551616:=oM;have AD:=iX mP;generalize hR:bs++cp (.t s)=R;replace hR:Hid (bs++[2]++ew s.length++s=R):=by show _=_;rw[<-hR];simp[cp]
 repeat' first|exact zQ|with_reducible apply zJ<;>intro _|refine zK ?_
 refine iS (.bm 0 (.bm 3 (.bm 8 (.load 4 3 (.load 9 3 (.both 1 [3] (.both 2 [3] (.both 5 [3] (.bm 6 (.both 7 [3] (.both 10 [] (.bm 11 .fin) .stop) .stop)) .stop) (.both 5 [3] (.bm 6 (.both 2 [3] (.both 7 [3] (.both 10 [] (.bm 11 .fin) .stop) .stop) .stop)) .stop)) (.both 5 [3] (.bm 6 (.both 1 [3] (.both 2 [3] (.both 7 [3] (.both 10 [] (.bm 11 .fin) .stop) .stop) .stop) .stop)) .stop))))))) aj ?_;repeat' first|exact zQ|with_reducible apply zJ<;>intro _|refine zK ?_
 refine⟨⟨?_,?_⟩,?_⟩;all_goals
  repeat' first|exact zQ|with_reducible apply zJ<;>intro _|refine zK ?_
  refine app wS (OM hv (by decide)) (fun x' β j_=>?_) (by simp[a_];omega);have iL:aX β wS 5 1 x' (a_ (bs++[2])):=by rw[iu];exact j_
  have kD:=iL.facts;clear j_;repeat' first|exact zQ|with_reducible apply zJ<;>intro _|refine zK ?_
  refine aC (y8 s.length mP (bs++[2]) (by simp;omega) x' _ (iL.mix _)) rfl fun d bx1 hq=>?_;have pP:=hq.1.facts;have k3:=hq.2 103 (by decide);have kq:du [(100,1000)] bx1 bx:=fun q h=>(hq.2 q (Sc h)).trans ((Lw h).trans (aB (HO h)));replace kq:Hid _:=kq;have oE:=hq.1;clear hq;repeat' first|exact zQ|with_reducible apply zJ<;>intro _|refine zK ?_
  refine app wS oE (fun x2 β2 R9=>?_) (by simp[a_];omega);have Wq:aX β2 wS 5 1 x2 (a_ (bs++[2]++ew s.length++s)):=by rw[iu];exact R9
  rw[hR.out]at Wq;have G4:=Wq.facts;clear R9;repeat' first|exact zQ|with_reducible apply zJ<;>intro _|refine zK ?_
  exact⟨Wq.mix _,fun q h=>(Lw h).trans (kq.out q h)⟩
def Wr(v:aR):Prop:=∀(bs:ah) (x:D) (bx:ae) (e e1:Nat),bs.length+(cp v).length<=1099511627000->aX bx wS 5 1 x (a_ bs)->Ms bx e e1->
 bj prog (X4 v) 100 ([x,v.d]++Re e1 v) bx (fun d bx'=>Mm bx bx' d (bs++cp v)) (fun _ _=>False)
def Ud(xs:List aR)(ih:∀x∈xs,na x->Wr x)(hx:na (.l xs))(bs:ah)(x:D)(bx:ae)(e e1:Nat)(hl:bs.length+(cp (.l xs)).length<=1099511627000)(hv:aX bx wS 5 1 x (a_ bs))(hw:Ms bx e e1):
 bj prog 213 120 [x,.agg [I 3,I 0,.str [],.sl 4 (xs.map aR.d)],.loc 21 e1 0 0] bx (fun d bx'=>Mm bx bx' d (bs++cp (.l xs))) (fun _ _=>False):=by
 refine aI (fn:=f213) (tab:=[(2000001,[]),(2000005,[]),(1,[(7,4),(6,4)])]) (base:=120) mixed ?_ rfl aj rfl;refine aJ _ [.tmp 5] 35 rfl rfl rfl aj ?_;have hf:=hv.facts;obtain⟨f1,f2,f3⟩:=zT hx;have Ww:IntKind.u64.wrap (xs.length:Int)=xs.length:=dq rfl (by simp[IntKind.bits];omega);have mP:xs.length<18446744073709551616:=oM;have AD:=iX mP;have eF:bs.length+(1+((ew xs.length).length+(dN xs).length))<=1099511627000:=by simp[cp]at hl;omega
 clear hl hx;generalize hR:bs++cp (.l xs)=R;replace hR:Hid (bs++[3]++ew xs.length++dN xs=R):=by show _=_;rw[<-hR];simp[cp]
 have uB:=hw.1;have iL:=hw.2;repeat' first|exact zQ|with_reducible apply zJ<;>intro _|refine zK ?_
 refine iS (.bm 0 (.bm 3 (.load 4 4 (.both 1 [4] (.both 2 [4] (.both 5 [] (.bm 6 (.both 7 [] (.bm 8 .fin) .stop)) .stop) (.both 5 [] (.bm 6 (.both 2 [4] (.both 7 [] (.bm 8 .fin) .stop) .stop)) .stop)) (.both 5 [] (.bm 6 (.both 1 [4] (.both 2 [4] (.both 7 [] (.bm 8 .fin) .stop) .stop) .stop)) .stop))))) aj ?_;repeat' first|exact zQ|with_reducible apply zJ<;>intro _|refine zK ?_
 refine⟨⟨?_,?_⟩,?_⟩;all_goals
  repeat' first|exact zQ|with_reducible apply zJ<;>intro _|refine zK ?_
  refine app wS (OM hv (by decide)) (fun x' β j_=>?_) (by simp[a_];omega);have dZ:aX β wS 5 1 x' (a_ (bs++[3])):=by rw[iu];exact j_
  have kD:=dZ.facts;clear j_;repeat' first|exact zQ|with_reducible apply zJ<;>intro _|refine zK ?_
  refine aC (y8 xs.length mP (bs++[3]) (by simp;omega) x' _ (dZ.mix _)) rfl fun d bx1 hq=>?_;have pP:=hq.1.facts;have k4:=hq.2 124 (by decide);have kq:du [(100,1000)] bx1 bx:=fun q h=>(hq.2 q (Sc h)).trans ((Lw h).trans (aB (HO h)));have oE:=hq.1;have WR:=(kq 21 rfl).trans uB;have WS:=(kq 23 rfl).trans iL;clear hq kD dZ;repeat' first|exact zQ|with_reducible apply zJ<;>intro _|refine zK ?_
  refine fresh (fun σ' B=>σ' 0=d/\σ' 2= .loc 21 e1 0 0/\σ' 17= .sl 4 (xs.map aR.d)/\σ' 18=I xs.length/\σ' 19=I 0/\aX B wS 5 1 d (a_ (bs++[3]++ew xs.length))/\du [(100,1000)] B bx) ⟨by simp[go_sem],by simp[go_sem],by simp[go_sem],by simp[go_sem],by simp[go_sem],oE,kq⟩ ?_;clear k4 kq oE WR WS;rintro σ B ⟨s0,s2,s17,s18,s19,oE,kq⟩;refine cm xs [(0,0),(7,7),(19,33)] [(100,1000)] (fun j τ β=>τ 19=I j/\aX β wS 5 1 (τ 0) (a_ (bs++[3]++ew xs.length++dN (xs.take j)))) (by simp[Lm];omega) ⟨s19,by rw[s0];simpa[dN]using oE⟩ (fun j y τ β hx hj hw hi=>?_) fun τ β hn hi=>?_
  ·obtain⟨Ni,JV⟩:=hi;generalize vC:τ 0=v0 at *;have hm:=mG hx;have hfy:=f3 y hm;have hWy:=ih y hm hfy;have xG:=JV.facts;have kj:du [(100,1000)] (bn [(100,1000)] β B) bx:=fun q h=>(du.nt q h).trans (kq q h);have WR:=(kj 21 rfl).trans uB;have WS:=(kj 23 rfl).trans iL;have tG:=Ez hx;have ar:=EA xs (j+1);rw[tG,List.length_append]at ar;have hl3:(bs++[3]++ew xs.length++dN (xs.take j)).length+(cp y).length<=1099511627000:=by
    have:=eF;simp only[List.length_append,List.length_cons,List.length_nil];omega
   replace tG:Hid _:=tG;clear ih f3;cases y;all_goals
    repeat' first|exact zQ|with_reducible apply zJ<;>intro _|refine zK ?_
    refine iS (.bm 1 (.bm 7 (.load 2 7 (.load 8 7 (.both 0 [7] (.bm 3 (.bm 4 (.bm 5 (.both 6 [7] (.both 9 [] (.bm 10 .fin) .stop) .stop)))) .stop))))) aj ?_;repeat' first|exact zQ|with_reducible apply zJ<;>intro _|refine zK ?_
    have hc:=fun b (h1:aX b wS 5 1 v0 _) (h2:Ms b e e1)=>hWy _ v0 b e e1 hl3 h1 h2;simp only[Eh,Mf,nJ,X4,Re,List.cons_append,List.nil_append]at hc;refine aC (hc _ (OM (OM (JV.mix _) (by decide)) (by decide)) ⟨(aB (by decide)).trans ((aB (by decide)).trans WR),(aB (by decide)).trans ((aB (by decide)).trans WS)⟩) rfl fun d2 bK iK=>?_;have G4:=iK.1.facts;have dZ:=iK.1;rw[List.append_assoc,<-tG.out]at dZ;have kb:du [(100,1000)] bK B:=fun q h=>(iK.2 q h).trans ((aB (HO h)).trans ((aB (HO h)).trans (du.nt q h)));clear hc iK;repeat' first|exact zQ|with_reducible apply zJ<;>intro _|refine zK ?_
    trace_state
  ·obtain⟨Ni,JV⟩:=hi;rw[tL,hR.out]at JV;generalize vC:τ 0=v0 at *;have xG:=JV.facts;repeat' first|exact zQ|with_reducible apply zJ<;>intro _|refine zK ?_
   exact⟨JV.mix _,fun q h=>(du.nt q h).trans (kq q h)⟩
theorem Ub(v:aR)(hf:na v):Wr v:=by
 induction v using n7 with
 |hi n=>exact fun bs x bx e e1 hl hv hw=>Uc n hf.1 bs x bx oM hv
 |ht s=>exact fun bs x bx e e1 hl hv hw=>Ue s bs x bx (by simp[cp]at hl;omega) hv
 |hl xs ih=>
  intro bs x bx e e1 hl hv hw;have:=Ud xs (fun x hx _=>ih x hx ((zT hf).2.2 x hx)) hf bs x bx e e1 hl hv hw;show bj _ _ _ [x,(aR.l xs).d,.loc 21 e1 0 0] _ _ _;rw[nJ];exact this
instance(v:aR):Ct 87 [v.d] (na v/\eW v<=16/\(cp v).length<=1099511627000) (.aL [aU (cp v),I 0]):=by
 refine bf f87 [(2000004,[]),(4,[(10,8),(10,3)])] [.tmp 2,.tmp 3] fun pre=>?_;obtain⟨h1,h2,h3⟩:=pre;have h4:(if 16<eW v then 2 else 0:Int)=0:=if_neg oM;have hW:=Ub v h1;generalize hR:cp v=R at *;replace hR:Hid _:=hR;repeat' first|exact zQ|with_reducible apply zJ<;>intro _|refine zK ?_
 cases v;all_goals
  refine iS (.bm 1 (.load 2 1 (.load 7 1 (.both 0 [1] (.bm 3 (.bm 4 (.bm 5 (.load 6 23 (.both 8 [] (.bm 9 (.bm 10 .fin)) .stop))))) .stop)))) aj ?_;repeat' first|exact zQ|with_reducible apply zJ<;>intro _|refine zK ?_
  refine aC (I5 _) rfl fun d bx1 hq=>?_;obtain⟨e,e1,rfl,hw,hk⟩:=hq;have k1:=hk 1 (by decide);have iL:=hw.2;have hc:=fun b (q1:aX b wS 5 1 .aq (a_ [])) (q2:Ms b e e1)=>hW [] .aq b e e1 (by rw[hR.out];simpa using h3) q1 q2;simp only[Eh,Mf,nJ,X4,Re,List.cons_append,List.nil_append]at hc;clear hk;repeat' first|exact zQ|with_reducible apply zJ<;>intro _|refine zK ?_
  refine aC (hc _ (.nil _ _ _ _) hw) rfl fun d2 bK iK=>?_;have G4:=iK.1.facts;have dZ:=iK.1;rw[hR.out]at dZ;clear hc iK hW;repeat' first|exact zQ|with_reducible apply zJ<;>intro _|refine zK ?_
  exact L2 dZ rfl
def RD(bx:ae)(e:Nat)(s:ah):Prop:=bx 8=⟨e,1,1,244,[.agg [aU s]]⟩
def Wnt(bx bx':ae)(d:D):Prop:=d= .aL []/\bx'=bx
def vQ(e:Nat)(bx:ae):bj prog 169 300 [.loc 8 e 0 0,.bool true] bx (fun d bx'=>Wnt bx bx' d) (fun _ _=>False):=by
 refine aI (fn:=f169) (tab:=[]) (base:=300) mixed ?_ rfl aj rfl;refine aJ _ [] 7 rfl rfl rfl aj ?_;repeat' first|exact zQ|with_reducible apply zJ<;>intro _|refine zK ?_
 exact⟨rfl,rfl⟩
def Us(bx bx':ae)(e:Nat)(d d0:D)(s:ah):Prop:=d=d0/\RD bx' e s/\∀q,q≠8->bx' q=bx q
def vN(e n:Nat)(s:ah)(bx:ae)(h:RD bx e s)(hn:n<=s.length)(hs:s.length<=1099511627776):bj prog 219 310 [.loc 8 e 0 0,I n] bx (fun d bx'=>Us bx bx' e d (.g_ 1 (a_ (s.take n))) (s.drop n)) (fun _ _=>False):=by
 refine aI (fn:=f219) (tab:=[]) (base:=310) mixed ?_ rfl aj rfl;refine aJ _ [.tmp 4] 32 rfl rfl rfl aj ?_;have hb:bx 8=⟨e,1,1,244,[.agg [aU s]]⟩:=h;have c1:(n:Int)<=(s.length:Int):=oM;repeat' first|exact zQ|with_reducible apply zJ<;>intro _|refine zK ?_
 refine aC (vQ e bx) rfl fun d bx1 hq=>?_;obtain⟨rfl,rfl⟩:=hq;repeat' first|exact zQ|with_reducible apply zJ<;>intro _|refine zK ?_
 exact⟨rfl,by simp[RD,ak],fun q hq=>aB hq⟩
def Hx{x i:Nat}(hi:i<=9)(h:x * 128 ^ i<18446744073709551616):IntKind.u64.wrap ((x:Int) * 2 ^ min (7 * i) 64)=((x * 128 ^ i:Nat):Int):=by
 rw[show min (7 * i) 64=7 * i by omega,show(x:Int) * 2 ^ (7 * i)=((x * 128 ^ i:Nat):Int) by rw[Xo];simp];exact dq rfl (by simpa[IntKind.bits]using h)
def N_{a x i:Nat}(ha:a<128 ^ i)(h:a+x * 128 ^ i<18446744073709551616):dj .or .u64 (a:Int) ((x * 128 ^ i:Nat):Int)=((a+x * 128 ^ i:Nat):Int):=by
 rw[QB .u64 rfl (by simp only[IntKind.bits];omega) (by simp only[IntKind.bits];omega)]
 congr 1
 rw[Xo]at *;exact HN ha
def YS(c:UInt8):dj .and .u8 (c.toNat:Int) 127=((c.toNat % 128:Nat):Int):=by
 have:=vX .u8 rfl (a:=c.toNat) (b:=127) (by simpa[IntKind.bits]using c.toNat_lt);rw[SO]at this;exact this
def HF(u:Nat)(hu:u<18446744073709551616)(r:ah)(hr:r.length<=1099511627000)(e:Nat)(bx:ae)(h:RD bx e (ew u++r)):bj prog 221 350 [.loc 8 e 0 0] bx (fun d bx'=>Us bx bx' e d (.int .u64 u) r) (fun _ _=>False):=by
 refine aI (fn:=f221) (tab:=[]) (base:=350) mixed ?_ rfl aj rfl;refine aJ _ [.tmp 2] 38 rfl rfl rfl aj ?_;repeat' first|exact zQ|with_reducible apply zJ<;>intro _|refine zK ?_
 refine ri (u,0,0) (fun g:Nat×Nat×Nat=>g.1) [(2,37)] [(8,8)] (fun g τ β=>τ 3=I g.2.1/\τ 2= .int .u64 g.2.2/\RD β e (ew g.1++r)/\Hid (g.2.2+g.1 * 128 ^ g.2.1=u/\g.2.2<128 ^ g.2.1/\g.2.1<=9/\(g.2.1=0\/g.1≠0))) ⟨by simp[go_sem],by simp[go_sem],h,by show _/\_;simp⟩ ?_;rintro⟨v,i,a⟩ τ β ⟨h3,h2,hb,hg⟩;simp only at h3 h2 hb hg;obtain⟨g1,g2,g3,g4⟩:=hg.out;clear hg;have V5:i=9->v<=1:=fun h=>by subst h;omega
 have hac:=fun c:UInt8=>YS c;have w2:IntKind.i64.wrap (7 * (i:Int))=((7 * i:Nat):Int):=by rw[ik _ oM oM];omega
 have w5:IntKind.i64.wrap ((i:Int)+1)=((i+1:Nat):Int):=aD oM;by_cases hs:v<128
 ·rw[wN hs]at hb;have ht:(UInt8.ofNat v).toNat=v:=by simp;omega
  have hP:v * 128 ^ i<18446744073709551616:=oM;have w3:=Hx g3 hP;have w4:=N_ g2 (x:=v) oM;rw[g1]at w4;have w1:IntKind.u64.wrap (v:Int)=v:=dq rfl (by simp[IntKind.bits];omega);generalize UInt8.ofNat v=c at *;have m1:c.toNat % 128=v:=oM;have eU:((i:Int)=0/\(i:Int)<9)\/(¬(i:Int)=0/\(i:Int)<9/\¬(c.toNat:Int)=0)\/(¬(i:Int)=0/\¬(i:Int)<9/\¬(c.toNat:Int)=0/\(c.toNat:Int)<=1):=oM;have ar:(c.toNat:Int)<128:=oM;have GX:bn [(8,8)] β bx 8=⟨e,1,1,244,[.agg [aU ([c]++r)]]⟩:=hb;have VP:=vN e 1 ([c]++r) (bn [(8,8)] β bx) GX sI (by simp;omega);clear g1 hP ht V5 g4 hb GX g2;have w3z:(i:Int)=0->IntKind.u64.wrap ((v:Int) * 2 ^ min (7 * 0:Int).toNat 64)=((v * 128 ^ i:Nat):Int):=fun h=>by
   have:i=0:=oM;subst this;simpa using w3
  replace w3z:Hid _:=w3z;rcases eU with⟨k1,k2⟩|⟨k1,k2,k3⟩|⟨k1,k2,k3,k4⟩
  all_goals
   try have w3y:=w3z.out k1
   repeat' first|exact zQ|with_reducible apply zJ<;>intro _|refine zK ?_
   refine aC VP rfl fun d bx1 hq=>?_;obtain⟨rfl,q1,q2⟩:=hq;replace q2:Hid _:=q2;repeat' first|exact zQ|with_reducible apply zJ<;>intro _|refine zK ?_
   refine aC (vQ e bx1) rfl fun d bK hq=>?_;obtain⟨rfl,rfl⟩:=hq;repeat' first|exact zQ|with_reducible apply zJ<;>intro _|refine zK ?_
   exact⟨rfl,q1,fun q hq=>(q2.out q hq).trans (by simp[bn,di];intro h1 h2;omega)⟩
 ·rw[Bm hs]at hb;have ht:(UInt8.ofNat (v % 128+128)).toNat=v % 128+128:=by simp;omega
  have hle:128 ^ (i+1) * (v / 128)<=v * 128 ^ i:=by rw[Nat.pow_succ,Nat.mul_assoc,Nat.mul_comm];exact Nat.mul_le_mul_right _ oM
  have GZ:(v % 128) * 128 ^ i+(v / 128) * 128 ^ (i+1)=v * 128 ^ i:=by rw[Nat.pow_succ,Nat.mul_comm (128 ^ i) 128,<-Nat.mul_assoc,<-Nat.add_mul];congr 1;omega
  have hi8:i<9:=by
   rcases Nat.lt_or_ge i 9 with h|h
   ·exact h
   ·have:=V5 oM;omega
  have w3:=Hx (x:=v % 128) g3 oM;have w4:=N_ g2 (x:=v % 128) oM;have w1:IntKind.u64.wrap ((v % 128:Nat):Int)=((v % 128:Nat):Int):=dq rfl (by simp[IntKind.bits];omega);generalize UInt8.ofNat (v % 128+128)=c at *;have m1:c.toNat % 128=v % 128:=oM;have eU:((i:Int)=0/\(i:Int)<9)\/(¬(i:Int)=0/\(i:Int)<9/\¬(c.toNat:Int)=0):=oM;have ar:¬(c.toNat:Int)<128:=oM;have NM:128 ^ (i+1)=128 ^ i * 128:=Nat.pow_succ ..;have n2:a+v % 128 * 128 ^ i<128 ^ (i+1):=by
   have:v % 128 * 128 ^ i<=127 * 128 ^ i:=Nat.mul_le_mul_right _ oM;omega
  have n1:a+v % 128 * 128 ^ i+v / 128 * 128 ^ (i+1)=u:=by rw[Nat.add_assoc,GZ];exact g1
  have n4:v / 128≠0:=oM;have n5:v / 128<v:=oM;have GX:bn [(8,8)] β bx 8=⟨e,1,1,244,[.agg [aU (c::ew (v / 128)++r)]]⟩:=hb;have G8:(c::ew (v / 128)++r).length<=1099511627776:=by
   have iA:v<=v * 128 ^ i:=Nat.le_mul_of_pos_right _ (Nat.pow_pos (by decide));have:=iX (u:=v / 128) oM;simp;omega
  have VP:=vN e 1 (c::ew (v / 128)++r) (bn [(8,8)] β bx) GX sI G8;generalize hX:a+v % 128 * 128 ^ i=X at *;generalize v / 128=v' at *;have hN:Hid (X+v' * 128 ^ (i+1)=u/\X<128 ^ (i+1)/\i+1<=9/\(i+1=0\/v'≠0)):=by show _/\_;exact⟨n1,n2,by omega,.inr n4⟩
  replace n5:Hid _:=n5;clear g1 ht V5 g4 hb GX g2 hle GZ NM n1 n2 n4 G8 hX;have w3z:(i:Int)=0->IntKind.u64.wrap (((v % 128:Nat):Int) * 2 ^ min (7 * 0:Int).toNat 64)=((v % 128 * 128 ^ i:Nat):Int):=fun h=>by
   have:i=0:=oM;subst this;simpa using w3
  replace w3z:Hid _:=w3z;rcases eU with⟨k1,k2⟩|⟨k1,k2,k3⟩
  all_goals
   try have w3y:=w3z.out k1
   repeat' first|exact zQ|with_reducible apply zJ<;>intro _|refine zK ?_
   refine aC VP rfl fun d bx1 hq=>?_;obtain⟨rfl,q1,q2⟩:=hq;have q3:du [(8,8)] bx1 bx:=fun q hq=>by
    have:q≠8:=by simp[di]at hq;omega
    exact(q2 q this).trans (by simp[bn,di];intro h1 h2;omega)
   clear q2;repeat' first|exact zQ|with_reducible apply zJ<;>intro _|refine zK ?_
   refine aC (vQ e bx1) rfl fun d bK hq=>?_;obtain⟨rfl,rfl⟩:=hq;repeat' first|exact zQ|with_reducible apply zJ<;>intro _|refine zK ?_
   refine⟨(v',i+1,X),n5.out,?_,rfl,q1,hN⟩;first|rfl|exact congrArg I (show(0:Int)+1=((i+1:Nat):Int) by omega)
def Hs(n:Nat)(r:ah)(hr:r.length<=1099511627000)(hn:n<=r.length)(e:Nat)(bx:ae)(h:RD bx e (ew n++r)):bj prog 222 390 [.loc 8 e 0 0] bx (fun d bx'=>Us bx bx' e d (I n) r) (fun _ _=>False):=by
 refine aI (fn:=f222) (tab:=[]) (base:=390) mixed ?_ rfl aj rfl;refine aJ _ [.tmp 2] 18 rfl rfl rfl aj ?_;have w1:IntKind.u64.wrap (r.length:Int)=r.length:=dq rfl (by simp[IntKind.bits];omega);have w2:IntKind.i64.wrap (n:Int)=n:=ik _ oM oM;have c1:(n:Int)<=(r.length:Int):=oM;repeat' first|exact zQ|with_reducible apply zJ<;>intro _|refine zK ?_
 refine aC (HF n oM r hr e _ h) rfl fun d bx1 hq=>?_;obtain⟨rfl,q1,q2⟩:=hq;have hb:bx1 8=⟨e,1,1,244,[.agg [aU r]]⟩:=q1;replace q2:Hid _:=q2;repeat' first|exact zQ|with_reducible apply zJ<;>intro _|refine zK ?_
 refine aC (vQ e bx1) rfl fun d bK hq=>?_;obtain⟨rfl,rfl⟩:=hq;repeat' first|exact zQ|with_reducible apply zJ<;>intro _|refine zK ?_
 exact⟨rfl,q1,q2.out⟩
@[go_sem] def aaW(T:TypeId->TI)(e z0 b s s':Nat)(g0 g g':Bool)(z z':List D)(es:List D):qM T ⟨.slice e z0 b g0,s,g,z⟩ ⟨.str,s',g',z'⟩ (.g_ 1 es)=if(T e).k.qB=true then(jd es).map .str else none:=by simp[qM]
def Vl(b:Nat)(bx bx':ae)(e:Nat)(v:aR)(r:ah)(d:D):Prop:=∃x,bz bx' d=some x/\bN x v.d/\RD (dO bx' [d]) e r/\∀q,q<b->q≠8->dO bx' [d] q=bx q
theorem RD.up{bx:ae}{e t:Nat}{s:ah}{v:Bx}(h:RD bx e s)(ht:(8:Nat)≠t):RD (ak bx t v) e s:=(aB ht).trans h
theorem RD.of{bx bx':ae}{e:Nat}{s:ah}(h:RD bx e s)(ht:bx' 8=bx 8):RD bx' e s:=ht.trans h
def T8(n:Int)(hn: -9223372036854775808<=n/\n<=9223372036854775807)(b dp:Nat)(hb:8<b)(r:ah)(hr:r.length<=1099511620000)(e:Nat)(bx:ae)(h:RD bx e (cp (.i n)++r)):
 bj prog 168 b [.loc 8 e 0 0,I dp] bx (fun d bx'=>Vl b bx bx' e (.i n) r d) (fun _ _=>False):=by
 refine aI (fn:=f168) (tab:=[(2000012,[]),(12,[(8,4),(8,3)])]) (base:=b) mixed ?_ rfl aj rfl;refine aJ _ [.cell 4 158] 50 rfl rfl rfl aj ?_;have bq:(8:Nat)≠b+4:=oM;have u7:b+4≠8:=oM;have hz:=DA hn.1 hn.2;rw[show cp (.i n)++r=1::(ew (rO n)++r)from rfl]at h;have hl:=iX hz;have w1:IntKind.i64.wrap ((UInt8.toNat 1:Nat):Int)=1:=rfl;repeat' first|exact zQ|with_reducible apply zJ<;>intro _|refine zK ?_
 refine aC (vN e 1 _ _ (h.up bq) sI (by simp;omega)) rfl fun d bx1 hq=>?_;obtain⟨rfl,q1,q2⟩:=hq;have k4:=q2 (b+4) u7;have kr:∀q,q<b->q≠8->bx1 q=bx q:=fun q h1 h2=>(q2 q h2).trans (aB oM);replace kr:Hid _:=kr;clear q2 h;repeat' first|exact zQ|with_reducible apply zJ<;>intro _|refine zK ?_
 refine aC (HF (rO n) hz r oM e _ (q1.up bq)) rfl fun d bK hq=>?_;obtain⟨rfl,q3,q4⟩:=hq;have k5:=q4 (b+4) u7;have uE:∀q,q<b->q≠8->bK q=bx q:=fun q h1 h2=>((q4 q h2).trans (aB oM)).trans (kr.out q h1 h2);replace uE:Hid _:=uE;clear q4 q1 kr;repeat' first|exact zQ|with_reducible apply zJ<;>intro _|refine zK ?_
 refine⟨.agg [I 1,I n,.str [],.aq],rfl,Rg n,?_,fun q h1 h2=>?_⟩
 ·exact(q3.up bq).up bq
 ·exact((aB oM).trans (aB oM)).trans (uE.out q h1 h2)
def T_(s:ah)(b dp:Nat)(hb:8<b)(r:ah)(hr:s.length+r.length<=1099511620000)(e:Nat)(bx:ae)(h:RD bx e (cp (.t s)++r)):
 bj prog 168 b [.loc 8 e 0 0,I dp] bx (fun d bx'=>Vl b bx bx' e (.t s) r d) (fun _ _=>False):=by
 refine aI (fn:=f168) (tab:=[(2000012,[]),(12,[(8,4),(8,3)])]) (base:=b) mixed ?_ rfl aj rfl;refine aJ _ [.cell 4 158] 50 rfl rfl rfl aj ?_;have bq:(8:Nat)≠b+4:=oM;have u7:b+4≠8:=oM;rw[show cp (.t s)++r=2::(ew s.length++(s++r)) by simp[cp]]at h;have hl:=iX (u:=s.length) oM;have w1:IntKind.i64.wrap ((UInt8.toNat 2:Nat):Int)=2:=rfl;repeat' first|exact zQ|with_reducible apply zJ<;>intro _|refine zK ?_
 refine aC (vN e 1 _ _ (h.up bq) sI (by simp;omega)) rfl fun d bx1 hq=>?_;obtain⟨rfl,q1,q2⟩:=hq;have k4:=q2 (b+4) u7;have kr:∀q,q<b->q≠8->bx1 q=bx q:=fun q h1 h2=>(q2 q h2).trans (aB oM);replace kr:Hid _:=kr;clear q2 h;repeat' first|exact zQ|with_reducible apply zJ<;>intro _|refine zK ?_
 refine aC (Hs s.length (s++r) (by simp;omega) sI e _ (q1.up bq)) rfl fun d bK hq=>?_;obtain⟨rfl,q3,q4⟩:=hq;have k5:=q4 (b+4) u7;have uE:∀q,q<b->q≠8->bK q=bx q:=fun q h1 h2=>((q4 q h2).trans (aB oM)).trans (kr.out q h1 h2);replace uE:Hid _:=uE;clear q4 q1 kr;repeat' first|exact zQ|with_reducible apply zJ<;>intro _|refine zK ?_
 refine aC (vN e s.length _ _ q3 sI (by simp;omega)) rfl fun d Ep hq=>?_;obtain⟨rfl,q5,q6⟩:=hq;have k6:=(q6 (b+4) u7).trans k5;have Hq:∀q,q<b->q≠8->Ep q=bx q:=fun q h1 h2=>(q6 q h2).trans (uE.out q h1 h2);replace Hq:Hid _:=Hq;rw[List.take_left];rw[List.drop_left]at q5;clear q6 q3 uE k5;repeat' first|exact zQ|with_reducible apply zJ<;>intro _|refine zK ?_
 refine⟨.agg [I 2,I 0,.str s,.aq],rfl,Ri s,?_,fun q h1 h2=>?_⟩
 ·exact(q5.up bq).up bq
 ·exact((aB oM).trans (aB oM)).trans (Hq.out q h1 h2)
def Rdv(v:aR):Prop:=∀(b dp:Nat),8<b->dp+eW v<=16->∀(r:ah),(cp v).length+r.length<=1099511620000->∀(e:Nat) (bx:ae),RD bx e (cp v++r)->
 bj prog 168 b [.loc 8 e 0 0,I dp] bx (fun d bx'=>Vl b bx bx' e v r d) (fun _ _=>False)
def T9(xs:List aR)(ih:∀x∈xs,Rdv x)(b dp:Nat)(hb:8<b)(G0:dp+eW (.l xs)<=16)(r:ah)(hr:(cp (.l xs)).length+r.length<=1099511620000)(e:Nat)(bx:ae)(h:RD bx e (cp (.l xs)++r)):
 bj prog 168 b [.loc 8 e 0 0,I dp] bx (fun d bx'=>Vl b bx bx' e (.l xs) r d) (fun _ _=>False):=by
 refine aI (fn:=f168) (tab:=[(2000012,[]),(12,[(8,4),(8,3)])]) (base:=b) mixed ?_ rfl aj rfl;refine aJ _ [.cell 4 158] 50 rfl rfl rfl aj ?_;have bq:(8:Nat)≠b+4:=oM;have u7:b+4≠8:=oM;rw[show cp (.l xs)++r=3::(ew xs.length++(dN xs++r)) by simp[cp]]at h;have tF:(dN xs).length+r.length<=1099511620000:=by simp[cp]at hr;omega
 have lG:=th xs;have hl:=iX (u:=xs.length) oM;have w1:IntKind.i64.wrap ((UInt8.toNat 3:Nat):Int)=3:=rfl;have tu:eW (.l xs)=eZ xs+1:=rfl;have c1:(dp:Int)<16:=oM;clear hr;repeat' first|exact zQ|with_reducible apply zJ<;>intro _|refine zK ?_
 refine aC (vN e 1 _ _ (h.up bq) sI (by simp;omega)) rfl fun d bx1 hq=>?_;obtain⟨rfl,q1,q2⟩:=hq;have k4:=q2 (b+4) u7;have kr:∀q,q<b->q≠8->bx1 q=bx q:=fun q h1 h2=>(q2 q h2).trans (aB oM);replace kr:Hid _:=kr;clear q2 h;repeat' first|exact zQ|with_reducible apply zJ<;>intro _|refine zK ?_
 refine aC (vQ e _) rfl fun d bK hq=>?_;obtain⟨rfl,rfl⟩:=hq;repeat' first|exact zQ|with_reducible apply zJ<;>intro _|refine zK ?_
 refine aC (Hs xs.length (dN xs++r) (by simp;omega) (by simp;omega) e _ (q1.up bq)) rfl fun d bK hq=>?_;obtain⟨rfl,q3,q4⟩:=hq;have k5:=q4 (b+4) u7;have uE:∀q,q<b->q≠8->bK q=bx q:=fun q h1 h2=>((q4 q h2).trans (aB oM)).trans (kr.out q h1 h2);replace uE:Hid _:=uE;clear q4 q1 kr;repeat' first|exact zQ|with_reducible apply zJ<;>intro _|refine zK ?_
 generalize(bx (b+4)).ep+1=e4 at *;refine bo xs.length (fun k σ B=>σ 0= .loc 8 e 0 0/\σ 1=I dp/\σ 4= .loc (b+4) e4 0 0/\σ 36=I xs.length/\σ 37=I k/\RD B e (dN (xs.drop k)++r)/\(∃x,B (b+4)=⟨e4,1,4,158,[.agg [I 3,I 0,.str [],x]]⟩/\aX B [b+46] 158 4 x ((xs.take k).map aR.d))/\Hid (∀q,q<b->q≠8->B q=bx q))
  ⟨by simp[go_sem],by simp[go_sem],by simp[go_sem],by simp[go_sem],by simp[go_sem],q3,⟨.aq,by rw[k5];simp[ak],.nil _ _ _ _⟩,uE⟩ ?_ ?_
 ·clear k4 k5 q3 uE;rintro k σ B hk ⟨s0,s1,s4,s36,s37,hR,⟨x,hB,hv⟩,kr⟩;obtain⟨y,hy⟩:∃y,xs[k]? =some y:=⟨_,gE hk⟩
  have hm:=mG hy;have hI:=ih y hm;have hdy:=Pt hm;have CB:dN (xs.drop k)=cp y++dN (xs.drop (k+1)):=by rw[List.drop_eq_getElem_cons hk,show xs[k]=y by simpa[gE hk]using hy];rfl
  have G8:(cp y).length+(dN (xs.drop (k+1))++r).length<=1099511620000:=by
   have:=congrArg (fun l=>(dN l).length) (List.take_append_drop k xs);simp only[wu,CB,List.length_append]at this;simp only[List.length_append];omega
  rw[CB,List.append_assoc]at hR;have c2:(k:Int)<(xs.length:Int):=oM;have w2:IntKind.i64.wrap ((dp:Int)+1)=((dp+1:Nat):Int):=aD oM;have w3:IntKind.i64.wrap ((k:Int)+1)=((k+1:Nat):Int):=aD oM;have hf:=hv.facts;have hc:=hI (b+50) (dp+1) oM oM _ G8 e B hR;clear hI ih CB G8 G0;repeat' first|exact zQ|with_reducible apply zJ<;>intro _|refine zK ?_
  refine iS (.bm 0 (.bm 2 (.bm 3 (.bm 4 (.load 1 4 (.both 5 [4] (.both 6 [4] (.both 7 [] (.bm 8 (.both 9 [] .fin .stop)) .stop) .stop) .stop)))))) aj ?_;repeat' first|exact zQ|with_reducible apply zJ<;>intro _|refine zK ?_
  refine wb hc rfl (fun d bx1 hp=>?_) fun d bx1 hp=>hp.elim;obtain⟨z,z1,z2,z3,z4⟩:=hp;refine⟨z,_,z1,z2,?_⟩;generalize dO bx1 [d]=B1 at *;have EJ:=(z4 (b+4) oM u7).trans hB;have iA:aX B1 [b+46] 158 4 x ((xs.take k).map aR.d):=hv.of fun t ht=>by simp at ht;subst ht;exact z4 _ oM oM
  have Sg:∀q,q<b->q≠8->B1 q=bx q:=fun q h1 h2=>(z4 q oM h2).trans (kr.out q h1 h2);replace Sg:Hid _:=Sg;clear hc z1 z2 z4 hv kr hR;repeat' first|exact zQ|with_reducible apply zJ<;>intro _|refine zK ?_
  have tz:((xs.take k).map aR.d).length<=1099511627776:=by simp;omega
  refine vY iA sG (by simp only[List.length_cons,List.length_nil];omega) oM oM oM fun x' Ep g1 g2=>?_;have hB3:=(g2 (b+4) oM).trans EJ;have hR3:=z3.of (g2 8 oM);have Hq:∀q,q<b->q≠8->Ep q=bx q:=fun q h1 h2=>(g2 q oM).trans (Sg.out q h1 h2);replace Hq:Hid _:=Hq;have V0:=g1.facts;have fP:(xs.take k).map aR.d++[y.d]=(xs.take (k+1)).map aR.d:=by rw[List.take_add_one,hy];simp
  rw[fP]at g1;clear g2 EJ z3 Sg iA hf;repeat' first|exact zQ|with_reducible apply zJ<;>intro _|refine zK ?_
  exact⟨hR3.up bq,⟨x',rfl,g1.of fun t ht=>by simp at ht;subst ht;exact aB oM⟩,fun q h1 h2=>by rw[if_neg oM];exact Hq.out q h1 h2⟩
 ·clear k4 k5 q3 uE ih;rintro σ B ⟨s0,s1,s4,s36,s37,hR,⟨x,hB,hv⟩,kr⟩;have c2:¬(xs.length:Int)<(xs.length:Int):=oM;rw[tL]at hv;rw[List.drop_length,show dN []=[]from rfl,List.nil_append]at hR;have hf:=hv.facts;repeat' first|exact zQ|with_reducible apply zJ<;>intro _|refine zK ?_
  have aT:aX (ak B (b+4) ⟨e4,1,4,158,[.agg [I 3,I 0,.str [],x]]⟩) [b+46] 158 4 x (xs.map aR.d):=hv.of fun t ht=>by simp at ht;subst ht;exact aB oM
  obtain⟨rr,o1,o2⟩:=aT.out (ld xs);have vz:∀q,q≠b+46->q∉bH [D.agg [I 3,I 0,.str [],x]]:=fun q h1 h2=>by
   simp[bH,Go.V.names]at h2;have:=aX.names aT q h2;simp at this;omega
  refine⟨.agg [I 3,I 0,.str [],rr],by simp[go_sem,o1],?_,?_,fun q h1 h2=>?_⟩
  ·rw[nJ];exact fF (.cons (.refl _) (.cons (.refl _) (.cons (.refl _) (.cons o2 .nil))))
  ·refine RD.of hR ?_;rw[fe,if_neg (vz 8 oM)];exact aB bq
  ·rw[fe,if_neg (vz q oM)];exact(aB oM).trans (kr.out q h1 h2)
theorem XC(v:aR)(h:okW v):Rdv v:=by
 induction v using n7 with
 |hi n=>exact fun b dp hb hd r hr e bx hR=>T8 n h b dp hb r oM e bx hR
 |ht s=>exact fun b dp hb hd r hr e bx hR=>T_ s b dp hb r (by simp[cp]at hr;omega) e bx hR
 |hl xs ih=>
  rw[C1]at h;exact fun b dp hb hd r hr e bx hR=>T9 xs (fun x hx=>ih x hx (h x hx)) b dp hb hd r hr e bx hR
@[go_sem] def ajD(v w:aR):fi v.d 0 w.d.cells=some w.d:=by
 have h2:=XZ w;have hv:∃ds,v.d= .agg ds/\ds.length=4:=by
  cases v with
  |i n=>exact⟨_,rfl,rfl⟩
  |t s=>exact⟨_,rfl,rfl⟩
  |l xs=>rw[nJ];exact⟨_,rfl,rfl⟩
 obtain⟨ds,h1,h3⟩:=hv;rw[h1];unfold fi;rw[if_pos (by rw[h2];show 0+4<=ds.length;omega)];show some (D.agg (ds.take 0++w.d.cells++ds.drop (0+w.d.cells.length)))=_;rw[h2,List.drop_of_length_le oM];simp[Ua]
def IV{e e':Nat}(bx:ae):yk prog (cJ prog) [] f167 20 [.loc 2 e 0 0,.loc 3 e' 0 0] bx .ret fun m' bx'=>m'= .ret/\bx'=bx:=by
 refine lO (t:=3) _ _ 9 rfl rfl rfl aj aj (ak (ak (bB 0 [.loc 2 e 0 0,.loc 3 e' 0 0]) 3 (.raw .nilIface)) 2 (.raw .nilIface)) ?_ ?_
 ·repeat' first|exact zQ|with_reducible apply zJ<;>intro _|refine zK ?_
 ·repeat' first|exact zQ|with_reducible apply zJ<;>intro _|refine zK ?_
def Ps(v:aR)(h:okW v)(hd:eW v<=16)(hl:(cp v).length<=1099511620000):EF prog (cJ prog) [] f108 0 [aU (cp v)] (fun _=> .none) (fun d bx'=>∃r,bz bx' d=some r/\bN r (.aL [v.d,I 0])) (fun _ _=>False):=by
 refine rk _ [.cell 2 158,.cell 3 53] 20 rfl rfl rfl aj aj ?_;have hR:=XC v h 40 0 oM oM [] (by simpa using hl);rw[List.append_nil]at hR;repeat' first|exact zQ|with_reducible apply zJ<;>intro _|refine zK ?_
 refine wb (hR 1 _ (by simp[RD,ak,Bx.none])) rfl (fun d bx1 hp=>?_) fun d bx1 hp=>hp.elim;obtain⟨z,z1,z2,z3,z4⟩:=hp;refine⟨z,_,z1,z2,?_⟩;generalize dO bx1 [d]=B1 at *;have k2:=z4 2 oM oM;have k3:=z4 3 oM oM;have k8:B1 8=⟨1,1,1,244,[.agg [aU []]]⟩:=z3;simp only[ak,Bx.none,reduceIte,Nat.reduceEqDiff]at k2 k3;clear z1 z2 z3 z4 hR;repeat' first|exact zQ|with_reducible apply zJ<;>intro _|refine zK ?_
 refine aC (vQ 1 _) rfl fun d bK hq=>?_;obtain⟨rfl,rfl⟩:=hq;repeat' first|exact zQ|with_reducible apply zJ<;>intro _|refine zK ?_
 refine jw _ (wz (IV _)) fun m' bK hq=>?_;obtain⟨rfl,rfl⟩:=hq;repeat' first|exact zQ|with_reducible apply zJ<;>intro _|refine zK ?_
 exact⟨_,by rw[(ze _ _ (Ei v)).1];rfl,.refl _⟩
instance(v:aR):Ct 108 [aU (cp v)] (okW v/\eW v<=16/\(cp v).length<=1099511620000) (.aL [v.d,I 0]):=⟨fun h=>(GF (Ps v h.1 h.2.1 h.2.2)).to (fun _ _ h=>h) fun d' bx' h=>h⟩
instance(n:Int):Ct 84 [I n] True (aR.i n).d:=by
 refine bf f84 [] [.cell 2 158] fun pre=>?_;repeat' first|exact zQ|with_reducible apply zJ<;>intro _|refine zK ?_
 exact Rg n
instance(s:ah):Ct 151 [.str s] True (aR.t s).d:=by
 refine bf f151 [] [.cell 2 158] fun pre=>?_;repeat' first|exact zQ|with_reducible apply zJ<;>intro _|refine zK ?_
 exact Ri s
def Rh{r:D}{xs:List aR}(h:bN r (.sl 4 (xs.map aR.d))):bN (D.agg [I 3,I 0,.str [],r]) (aR.l xs).d:=by rw[nJ];exact fF (.cons (.refl _) (.cons (.refl _) (.cons (.refl _) (.cons h .nil))))
instance(l:List Int):Ct 83 [.sl 1 (l.map I),.fn (.func 84) []] (l.length<=1099511627776) (aR.l (l.map aR.i)).d:=by
 refine bf f83 [(5,[(7,4),(7,3)])] [.cell 4 158] fun pre=>?_;have hL:Lm l:=by simp[Lm];omega
 repeat' first|exact zQ|with_reducible apply zJ<;>intro _|refine zK ?_
 refine cm l [(6,6),(10,22)] [(4,4),(6,6),(20,20)] (fun j τ β=>τ 10=I j/\∃x,β 4=⟨1,1,4,158,[.agg [I 3,I 0,.str [],x]]⟩/\aX β [20] 158 4 x (((l.take j).map aR.i).map aR.d)) hL ⟨by simp[go_sem],.aq,by simp[go_sem],.nil _ _ _ _⟩ (fun j y τ β hx hj hw hi=>?_) fun τ β hn hi=>?_
 ·obtain⟨lE,x,h4,hv⟩:=hi;have hf:=hv.facts;have fP:((l.take j).map aR.i).map aR.d++[(aR.i y).d]=((l.take (j+1)).map aR.i).map aR.d:=by rw[List.take_add_one,hx];simp
  have fw:(((l.take j).map aR.i).map aR.d).length<=l.length:=by simp;omega
  replace fw:Hid _:=fw;repeat' first|exact zQ|with_reducible apply zJ<;>intro _|refine zK ?_
  refine app [20] (hv.mix _) (fun x' β' aT=>?_) (by have:=fw.out;simp only[List.length_cons,List.length_nil];omega);have kD:=aT.facts;replace aT:aX β' [20] 158 4 x' (((l.take j).map aR.i).map aR.d++[(aR.i y).d]):=aT;rw[fP]at aT;clear fP;repeat' first|exact zQ|with_reducible apply zJ<;>intro _|refine zK ?_
  exact⟨x',rfl,aT.of fun t ht=>by simp at ht;subst ht;simp[ak,bn,di]⟩
 ·obtain⟨lE,x,h4,hv⟩:=hi;rw[tL]at hv;have hf:=hv.facts;obtain⟨r,o2,o1⟩:=rG hv (ld _);repeat' first|exact zQ|with_reducible apply zJ<;>intro _|refine zK ?_
  rw[o1 _ fun t ht=>by simp at ht;subst ht;simp[ak,bn,di]];exact Rh o2
instance(l:List ah):Ct 152 [strs l,.fn (.func 151) []] (l.length<=1099511627776) (aR.l (l.map aR.t)).d:=by
 refine bf f152 [(5,[(7,4),(7,3)])] [.cell 4 158] fun pre=>?_;have hL:Lm l:=by simp[Lm];omega
 repeat' first|exact zQ|with_reducible apply zJ<;>intro _|refine zK ?_
 refine cm l [(6,6),(10,22)] [(4,4),(6,6),(20,20)] (fun j τ β=>τ 10=I j/\∃x,β 4=⟨1,1,4,158,[.agg [I 3,I 0,.str [],x]]⟩/\aX β [20] 158 4 x (((l.take j).map aR.t).map aR.d)) hL ⟨by simp[go_sem],.aq,by simp[go_sem],.nil _ _ _ _⟩ (fun j y τ β hx hj hw hi=>?_) fun τ β hn hi=>?_
 ·obtain⟨lE,x,h4,hv⟩:=hi;have hf:=hv.facts;have fP:((l.take j).map aR.t).map aR.d++[(aR.t y).d]=((l.take (j+1)).map aR.t).map aR.d:=by rw[List.take_add_one,hx];simp
  have fw:(((l.take j).map aR.t).map aR.d).length<=l.length:=by simp;omega
  replace fw:Hid _:=fw;repeat' first|exact zQ|with_reducible apply zJ<;>intro _|refine zK ?_
  refine app [20] (hv.mix _) (fun x' β' aT=>?_) (by have:=fw.out;simp only[List.length_cons,List.length_nil];omega);have kD:=aT.facts;replace aT:aX β' [20] 158 4 x' (((l.take j).map aR.t).map aR.d++[(aR.t y).d]):=aT;rw[fP]at aT;clear fP;repeat' first|exact zQ|with_reducible apply zJ<;>intro _|refine zK ?_
  exact⟨x',rfl,aT.of fun t ht=>by simp at ht;subst ht;simp[ak,bn,di]⟩
 ·obtain⟨lE,x,h4,hv⟩:=hi;rw[tL]at hv;have hf:=hv.facts;obtain⟨r,o2,o1⟩:=rG hv (ld _);repeat' first|exact zQ|with_reducible apply zJ<;>intro _|refine zK ?_
  rw[o1 _ fun t ht=>by simp at ht;subst ht;simp[ak,bn,di]];exact Rh o2
end Go.V.Jn
