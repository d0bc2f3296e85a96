/- Values: the reference's codec. -/
import Derived.Test.YtkgloohlmogakaaGreatDoorB33
import Derived.Test.YtkgloohlmogakaaGreatDoorB32
set_option linter.unusedSimpArgs false
set_option linter.unusedVariables false
set_option maxRecDepth 100000
namespace Go.V.Jn
open Go.Proofs Go.RowKit Go.V.Lx Go.V.Gr Go.V.Ty Go.V.St
attribute [go_sem] jD jE xi
@[go_sem] theorem xh(n:Int):(aQ.i n).d= .agg [I 1,I n,.str [],.sl 4 []]:=rfl
@[go_sem] theorem Eo(s:ah):(aQ.t s).d= .agg [I 2,I 0,.str s,.sl 4 []]:=rfl
theorem Nf(n:Int):bk (D.agg [I 1,I n,.str [],.nilsl]) (.agg [I 1,I n,.str [],.sl 4 []]):=fj (.cons (.refl _) (.cons (.refl _) (.cons (.refl _) (.cons (.nil _) .nil))))
theorem Ng(s:ah):bk (D.agg [I 2,I 0,.str s,.nilsl]) (.agg [I 2,I 0,.str s,.sl 4 []]):=fj (.cons (.refl _) (.cons (.refl _) (.cons (.refl _) (.cons (.nil _) .nil))))
@[go_sem] theorem Na(v:aQ):v.d.cells.length=4:=(IA v).1
@[go_sem] theorem Vx(v:aQ):v.d.cells.all D.one=true:=by
 cases v with
 |i n=>rfl
 |t s=>rfl
 |l xs=>rw[jD];rfl
@[go_sem] theorem Vw(v:aQ):D.agg (List.take 4 v.d.cells)=v.d:=by
 cases v with
 |i n=>rfl
 |t s=>rfl
 |l xs=>rw[jD];rfl
@[go_sem] theorem KB(v:aQ):D.agg v.d.cells=v.d:=by
 cases v with
 |i n=>rfl
 |t s=>rfl
 |l xs=>rw[jD];rfl
theorem Ce{n:Nat}:∀ {xs:List aQ},(∀x∈xs,eM x<=n)->eC xs<=n
 |[],_=>by simp[eC]
 |x::xs,h=>by
  have:=h x (List.mem_cons_self ..);have:=Ce (xs:=xs) fun y hy=>h y (List.mem_cons_of_mem _ hy);simp[eC];omega
theorem Lu(v:aQ):eM v<=(bH v).length:=by
 induction v using nR with
 |hi n=>simp[eM]
 |ht s=>simp[eM]
 |hl xs ih=>
  have:=Ce (n:=(cI xs).length) fun x hx=>Nat.le_trans (ih x hx) (lL hx);simp[eM,bH];omega
@[go_sem] theorem T4(lo:Nat)(T:TypeId->TI)(dst:Option Tmp)(bx:ae)(x y:D):pw lo T 71 9 dst bx x y=rI lo T (T 71) (T 9) dst bx x y:=by simp only[pw];rw[if_neg (by decide)]
theorem iR{u:Nat}(h:u<18446744073709551616):(dS u).length<=10:=As 9 oM
theorem Pw{c:Nat}:IntKind.u8.wrap (c:Int)=((UInt8.ofNat c).toNat:Int):=by simp[IntKind.wrap,IntKind.signed,IntKind.bits]
theorem J7{a:Nat}(h:a<18446744073709551616):a ^^^ 18446744073709551615=18446744073709551615 - a:=by
 have h1:(BitVec.ofNat 64 a ^^^ BitVec.allOnes 64).toNat=(~~~ BitVec.ofNat 64 a).toNat:=by rw[BitVec.xor_allOnes]
 rw[BitVec.toNat_xor,BitVec.toNat_not,BitVec.toNat_allOnes,BitVec.toNat_ofNat,Nat.mod_eq_of_lt h]at h1;simpa using h1
theorem Nj{m:Nat}(h:m<9223372036854775808):ca .xor .i64 (m:Int) (-1)= -(m:Int) - 1:=by
 have h1:(BitVec.ofInt 64 (m:Int) ^^^ BitVec.ofInt 64 (-1)).toNat=18446744073709551615 - m:=by rw[show BitVec.ofInt 64 (-1)=BitVec.allOnes 64 by decide,BitVec.xor_allOnes,BitVec.toNat_not,rL,Nat.mod_eq_of_lt oM]
 show IntKind.i64.wrap (((BitVec.ofInt 64 (m:Int) ^^^ BitVec.ofInt 64 (-1)).toNat:Nat):Int)=_;rw[h1];simp[IntKind.wrap,IntKind.signed,IntKind.bits];omega
theorem Px{m:Nat}(h:m<9223372036854775808):ca .xor .i64 (m:Int) 0=m:=by
 have h1:(BitVec.ofInt 64 (m:Int) ^^^ BitVec.ofInt 64 0).toNat=m:=by rw[show BitVec.ofInt 64 0=0#64 by decide,BitVec.xor_zero,rL,Nat.mod_eq_of_lt oM]
 show IntKind.i64.wrap (((BitVec.ofInt 64 (m:Int) ^^^ BitVec.ofInt 64 0).toNat:Nat):Int)=_;rw[h1,iL _ oM oM]
set_option maxHeartbeats 1000000 in
instance WX(v:aQ):Ct Tryz.prog 208 [v.d] (pA v) (.tup [I (eM v),.bool true]):=by
 induction v using nR with
 |hi n=>
  refine bm (fn:=Tryz.f208) [] [.tmp 2,.tmp 3] fun pre=>?_;rw[show eM (.i n)=0 from rfl];repeat' first|exact zQ|with_reducible refine zJ (fun _=>?_) fun _=>?_|refine zK ?_|fail
  all_goals exact wk
 |ht s=>
  refine bm (fn:=Tryz.f208) [] [.tmp 2,.tmp 3] fun pre=>?_;rw[show eM (.t s)=0 from rfl];repeat' first|exact zQ|with_reducible refine zJ (fun _=>?_) fun _=>?_|refine zK ?_|fail
  all_goals exact wk
 |hl xs ih=>
  refine bm (fn:=Tryz.f208) [] [.tmp 2,.tmp 3] fun pre=>?_;obtain⟨h1,h2,h3⟩:=Dm pre;have hd:eM (.l xs)=eC xs+1:=rfl;have w1:IntKind.i64.wrap ((eC xs:Int)+1)=((eC xs+1:Nat):Int):=aK (by have:=Lu (.l xs);have:=pre.2;omega);rw[hd];clear hd pre;repeat' first|exact zQ|with_reducible refine zJ (fun _=>?_) fun _=>?_|refine zK ?_|fail
  refine bO xs [(2,3),(6,8),(57,71)] [(6,6)] (fun j τ _=>τ 57=I j/\τ 2=I (eC (xs.take j))) (by simp[Lm];omega) (by simp[go_sem,eC]) (fun j x τ β hx hj hw hi=>?_) fun τ β hn hi=>?_
  ·obtain⟨h7,h8⟩:=hi;have hm:=List.mem_of_getElem? hx;have hf:=h3 x hm;have hd:max (eC (xs.take j):Int) (eM x:Int)=(eC (xs.take (j+1)):Int):=by rw[List.take_add_one,hx,zD];simp[eC];omega
   haveI:=ih x hm;clear ih h3;repeat' first|exact zQ|with_reducible refine zJ (fun _=>?_) fun _=>?_|refine zK ?_|fail
  ·obtain⟨h7,h8⟩:=hi;rw[List.take_length]at h8;generalize eC xs=dp at *;clear ih h3;repeat' first|exact zQ|with_reducible refine zJ (fun _=>?_) fun _=>?_|refine zK ?_|fail
   all_goals first|exact wk|trace_state
instance(v:aQ):Ct Tryz.prog 153 [v.d] (pA v) (I (if 16<eM v then 2 else 0)):=by
 refine bm (fn:=Tryz.f153) [] [.tmp 2] fun pre=>?_;repeat' first|exact zQ|with_reducible refine zJ (fun _=>?_) fun _=>?_|refine zK ?_|fail
 ·rw[if_pos oM];exact .refl _
 ·rw[if_neg oM];exact .refl _
instance(n:Int):Ct Tryz.prog 211 [I n] (-9223372036854775808<=n/\n<=9223372036854775807) (.int .u64 (p_ n)):=by
 refine bm (fn:=Tryz.f211) [] [.tmp 2] fun pre=>?_;obtain⟨h1,h2⟩:=pre;have hm1:min 1 64=1:=rfl;have hm2:min 63 64=63:=rfl;by_cases h:0<=n
 ·have hz:p_ n=2 * n.toNat:=if_pos h;obtain⟨m,rfl⟩:∃m:Nat,n=m:=⟨n.toNat,by omega⟩
  have e1:IntKind.u64.wrap (m:Int)=m:=dZ rfl (by simp[IntKind.bits];omega);have e2:IntKind.u64.wrap ((m:Int) * 2 ^ min 1 64)=((2 * m:Nat):Int):=by rw[show(m:Int) * 2 ^ min 1 64=((2 * m:Nat):Int) by rw[hm1];omega,dZ rfl (by simp[IntKind.bits];omega)]
  have e3:(m:Int).fdiv (2 ^ min 63 64)=0:=by rw[Int.fdiv_eq_ediv_of_nonneg _ sI];rw[hm2];omega
  have e4:ca .xor .u64 ((2 * m:Nat):Int) 0=((2 * m:Nat):Int):=by
   have:=tz .u64 rfl (a:=2 * m) (b:=0) (by simp[IntKind.bits];omega) (by simp[IntKind.bits]);rw[Nat.xor_zero]at this;exact this
  have e5:IntKind.u64.wrap 0=0:=rfl;rw[hz,Int.toNat_natCast];clear hm1 hm2 hz;repeat' first|exact zQ|with_reducible refine zJ (fun _=>?_) fun _=>?_|refine zK ?_|fail
 ·have hz:p_ n=2 * (-(n+1)).toNat+1:=if_neg h;obtain⟨m,hm⟩:∃m:Nat,n= -(m:Int) - 1:=⟨(-(n+1)).toNat,by omega⟩
  subst hm;have e0:(-(-(m:Int) - 1+1)).toNat=m:=oM;have e1:IntKind.u64.wrap (-(m:Int) - 1)=((18446744073709551615 - m:Nat):Int):=by simp[IntKind.wrap,IntKind.signed,IntKind.bits];omega
  have e2:IntKind.u64.wrap (((18446744073709551615 - m:Nat):Int) * 2 ^ min 1 64)=((18446744073709551614 - 2 * m:Nat):Int):=by rw[hm1];simp[IntKind.wrap,IntKind.signed,IntKind.bits];omega
  have e3:(-(m:Int) - 1).fdiv (2 ^ min 63 64)= -1:=by rw[Int.fdiv_eq_ediv_of_nonneg _ sI];rw[hm2];omega
  have e5:IntKind.u64.wrap (-1)=18446744073709551615:=rfl;have e4:ca .xor .u64 ((18446744073709551614 - 2 * m:Nat):Int) 18446744073709551615=((2 * m+1:Nat):Int):=by
   have:=tz .u64 rfl (a:=18446744073709551614 - 2 * m) (b:=18446744073709551615) (by simp[IntKind.bits];omega) (by simp[IntKind.bits]);rw[J7 oM]at this;rw[show(18446744073709551615:Int)=((18446744073709551615:Nat):Int)from rfl,this];omega
  rw[hz,e0];clear hm1 hm2 hz;repeat' first|exact zQ|with_reducible refine zJ (fun _=>?_) fun _=>?_|refine zK ?_|fail
instance(n:Int):Ct Tryz.prog 220 [.int .u64 (p_ n)] (-9223372036854775808<=n/\n<=9223372036854775807) (I n):=by
 refine bm (fn:=Tryz.f220) [] [.tmp 2] fun pre=>?_;obtain⟨h1,h2⟩:=pre;have hm1:min 1 64=1:=rfl;by_cases h:0<=n
 ·have hz:p_ n=2 * n.toNat:=if_pos h;obtain⟨m,rfl⟩:∃m:Nat,n=m:=⟨n.toNat,by omega⟩
  rw[Int.toNat_natCast]at hz;rw[hz];have e1:((2 * m:Nat):Int).fdiv (2 ^ min 1 64)=m:=by rw[Int.fdiv_eq_ediv_of_nonneg _ sI];rw[hm1];omega
  have e2:IntKind.i64.wrap (m:Int)=m:=iL _ oM oM;have e3:ca .and .u64 ((2 * m:Nat):Int) 1=0:=by
   have:=oP .u64 rfl (a:=2 * m) (b:=1) (by simp[IntKind.bits];omega);rw[Nat.and_one_is_mod,show 2 * m % 2=0 by omega]at this;exact this
  have e4:IntKind.i64.wrap 0=0:=rfl;have e5:=Px (m:=m) oM;have e6:(0:Int) - 0=0:=rfl;clear hm1 hz;repeat' first|exact zQ|with_reducible refine zJ (fun _=>?_) fun _=>?_|refine zK ?_|fail
 ·have hz:p_ n=2 * (-(n+1)).toNat+1:=if_neg h;obtain⟨m,hm⟩:∃m:Nat,n= -(m:Int) - 1:=⟨(-(n+1)).toNat,by omega⟩
  subst hm;rw[show(-(-(m:Int) - 1+1)).toNat=m by omega]at hz;rw[hz];have e1:((2 * m+1:Nat):Int).fdiv (2 ^ min 1 64)=m:=by rw[Int.fdiv_eq_ediv_of_nonneg _ sI];rw[hm1];omega
  have e2:IntKind.i64.wrap (m:Int)=m:=iL _ oM oM;have e3:ca .and .u64 ((2 * m+1:Nat):Int) 1=1:=by
   have:=oP .u64 rfl (a:=2 * m+1) (b:=1) (by simp[IntKind.bits];omega);rw[Nat.and_one_is_mod,show(2 * m+1) % 2=1 by omega]at this;exact this
  have e4:IntKind.i64.wrap 1=1:=rfl;have e6:IntKind.i64.wrap (-1)= -1:=rfl;have e7:IntKind.i64.wrap (0 - 1)= -1:=rfl;have e5:=Nj (m:=m) oM;clear hm1 hz;repeat' first|exact zQ|with_reducible refine zJ (fun _=>?_) fun _=>?_|refine zK ?_|fail
abbrev wS:List Nat:=[107,115,130,214,219]
theorem OS{u:Nat}:ca .or .u8 ((UInt8.ofNat u).toNat:Int) 128=((UInt8.ofNat (u % 128+128)).toNat:Int):=by
 have:=HQ .u8 rfl (a:=(UInt8.ofNat u).toNat) (b:=128) (by simp[IntKind.bits];omega) (by simp[IntKind.bits]);rw[show(128:Int)=((128:Nat):Int)from rfl,this]
 congr 1
 simp only[UInt8.toNat_ofNat',Nat.reducePow];have h:u % 256 % 128|||1 * 2 ^ 7=u % 256 % 128+1 * 2 ^ 7:=AE oM
 have h2:u % 256|||128=u % 256 % 128|||1 * 2 ^ 7:=by
  apply Nat.eq_of_testBit_eq;intro i;rw[Nat.testBit_or,Nat.testBit_or,show(128:Nat)=2 ^ 7 from rfl,Nat.one_mul,Nat.testBit_mod_two_pow];by_cases hi:i<7
  ·simp[hi]
  ·by_cases hi2:i=7
   ·subst hi2;simp;intro _;decide
   ·have h3:(u % 256).testBit i=false:=Nat.testBit_lt_two_pow (Nat.lt_of_lt_of_le (Nat.mod_lt _ (by decide)) (show 256<=2 ^ i from(show(256:Nat)=2 ^ 8 from rfl)▸Nat.pow_le_pow_right (by decide) oM));simp[h3,hi]
 rw[h2,h];omega
def BX(bx bx':ae)(d:D)(s:ah):Prop:=aW bx' wS 5 1 d (aV s)/\∀q,q∉wS->bx' q=bx q
theorem BX.mk{bx β:ae}{d:D}{s:ah}(h:aW β wS 5 1 d (aV s)):BX bx (aY (kU wS) β bx) d s:=by
 refine⟨h.mix _,fun q hq=>?_⟩;have:cm (kU wS) q=false:=by
  simp[wS,kU,cm]at *;omega
 show(if cm (kU wS) q=true then _ else _)=_;rw[this];rfl
theorem sj(u:Nat)(hu:u<18446744073709551616)(bs:ah)(hb:bs.length<=1099511627776)(x:D)(bx:ae)(hv:aW bx wS 5 1 x (aV bs)):
 aU Tryz.prog 210 200 [x,.int .u64 u] bx (fun d bx'=>BX bx bx' d (bs++dS u)) (fun _ _=>False):=by
 refine aG (fn:=Tryz.f210) (tab:=[]) (base:=200) mixed ?_ rfl aj rfl;refine aH _ [.tmp 4] 20 rfl rfl rfl aj ?_;have hf:=hv.facts;have hnl:=iR hu;generalize hR:bs++dS u=R;have hRl:R.length<=1099511627776+10:=by rw[<-hR,List.length_append];omega
 repeat' first|exact zQ|with_reducible refine zJ (fun _=>?_) fun _=>?_|refine zK ?_|fail
 refine uU (u,bs) (fun g:Nat×ah=>g.1) [(0,1),(5,14)] (kU wS) (fun g τ β=>τ 1= .int .u64 g.1/\aW β wS 5 1 (τ 0) (aV g.2)/\g.1<18446744073709551616/\Hid (g.2++dS g.1=R)) ⟨by simp[go_sem],by simpa[go_sem]using hv,hu,hR⟩ ?_;clear hR hnl hu;rintro⟨v,acc⟩ τ β ⟨h1,hw,hlt,he⟩;simp only at h1 hw hlt he;generalize hv0:τ 0=x0 at *;have hf0:=hw.facts;have hl:acc.length<=1099511627786:=by
  have:=congrArg List.length he.out;simp only[List.length_append]at this;omega
 have w8:=Pw (c:=v);clear hRl hb;by_cases hs:v<128
 ·have c:¬(128:Int)<=(v:Int):=oM;have he:=he.out;rw[vG hs]at he;replace he:Hid _:=he;repeat' first|exact zQ|with_reducible refine zJ (fun _=>?_) fun _=>?_|refine zK ?_|fail
  refine app wS (hw.mix _) (fun x' β' hw'=>?_) (by simp[aV];omega);have hw2:aW β' wS 5 1 x' (aV (acc++[UInt8.ofNat v])):=by rw[iE];exact hw'
  rw[he.out]at hw2;have hf':=hw2.facts;clear he hw';repeat' first|exact zQ|with_reducible refine zJ (fun _=>?_) fun _=>?_|refine zK ?_|fail
  exact BX.mk hw2
 ·have c:(128:Int)<=(v:Int):=oM;have he:=he.out;rw[Ar hs]at he;have e1:(v:Int).fdiv (2 ^ min 7 64)=((v / 128:Nat):Int):=by rw[Int.fdiv_eq_ediv_of_nonneg _ sI,show(2:Int) ^ min 7 64=((128:Nat):Int)from rfl];omega
  have e2:=OS (u:=v);have hd:Hid (v / 128<v):=show v / 128<v by omega
  have hd2:v / 128<18446744073709551616:=oM;generalize UInt8.ofNat (v % 128+128)=y at *;replace he:Hid _:=he;repeat' first|exact zQ|with_reducible refine zJ (fun _=>?_) fun _=>?_|refine zK ?_|fail
  refine app wS (hw.mix _) (fun x' β' hw'=>?_) (by simp[aV];omega);have hw2:aW β' wS 5 1 x' (aV (acc++[y])):=by rw[iE];exact hw'
  have hf':=hw2.facts;clear hw';repeat' first|exact zQ|with_reducible refine zJ (fun _=>?_) fun _=>?_|refine zK ?_|fail
  exact⟨(v / 128,acc++[y]),hd.out,rfl,hw2.mix _,hd2,by show _=_;rw[List.append_assoc];exact he.out⟩
def Ey(bx:ae)(e e1:Nat):Prop:=bx 21=⟨e1,1,1,231,[.loc 23 e 0 0]⟩/\bx 23=⟨e,1,4,297,[.agg [.raw .nilFunc,.fn (.func 209) [],.fn (.func 212) [],.fn (.func 213) [.loc 21 e1 0 0]]]⟩
def NW(bx bx':ae)(d:D):Prop:=∃e e1,d= .loc 23 e 0 0/\Ey bx' e e1/\∀q,q<20->bx' q=bx q
theorem BH(bx:ae):aU Tryz.prog 154 20 [] bx (fun d bx'=>NW bx bx' d) (fun _ _=>False):=by
 refine aG (fn:=Tryz.f154) (tab:=[]) (base:=20) mixed ?_ rfl aj rfl;refine aH _ [.tmp 0] 18 rfl rfl rfl aj ?_;repeat' first|exact zQ|with_reducible refine zJ (fun _=>?_) fun _=>?_|refine zK ?_|fail
 refine⟨(bx 23).ep+1,(bx 21).ep+1,rfl,⟨by simp[ao],by simp[ao]⟩,fun q hq=>?_⟩;have h1:¬q=21:=oM;have h2:¬q=23:=oM;simp[ao,h1,h2]
def Nc:aQ->FuncId
 | .i _=>209
 | .t _=>212
 | .l _=>213
def IB(e1:Nat):aQ->List D
 | .l _=>[.loc 21 e1 0 0]
 |_=>[]
def Eu(bx bx':ae)(d:D)(s:ah):Prop:=aW bx' wS 5 1 d (aV s)/\cd [(100,1000)] bx' bx
theorem I1{q:Nat}(h:cm [(100,1000)] q=false):q∉wS:=by
 simp[cm]at h;simp[wS];omega
theorem AF{q t:Nat}(h:cm [(100,1000)] q=false)(h1:100<=t/\t<=1000:=by decide):q≠t:=by simp[cm]at h;omega
theorem DM{β b:ae}{q:Nat}(h:cm [(100,1000)] q=false):aY (kU wS) β b q=b q:=by
 have:cm (kU wS) q=false:=by
  have:=I1 h;simp[wS,kU,cm]at *;omega
 show(if cm (kU wS) q=true then _ else _)=_;rw[this];rfl
theorem Gm{bx:ae}{x:D}{xs:List D}{s:Nat}{v:Bx}(h:aW bx wS 5 1 x xs)(hs:s∉wS):aW (ao bx s v) wS 5 1 x xs:=h.of fun t ht=>aA fun e=>hs (e▸ht)
theorem BX.x{bx b bx':ae}{d:D}{s:ah}(h:BX b bx' d s)(hb:cd [(100,1000)] b bx):Eu bx bx' d s:=⟨h.1,fun q hq=>(h.2 q (I1 hq)).trans (hb q hq)⟩
theorem KD(n:Int)(hr: -9223372036854775808<=n/\n<=9223372036854775807)(bs:ah)(x:D)(bx:ae)(hl:bs.length<=1099511627000)(hv:aW bx wS 5 1 x (aV bs)):
 aU Tryz.prog 209 100 [x,.agg [I 1,I n,.str [],.sl 4 []]] bx (fun d bx'=>Eu bx bx' d (bs++bH (.i n))) (fun _ _=>False):=by
 refine aG (fn:=Tryz.f209) (tab:=[(2000001,[]),(1,[(6,3),(5,3)])]) (base:=100) mixed ?_ rfl aj rfl;refine aH _ [.tmp 4] 12 rfl rfl rfl aj ?_;have hz:=Bo hr.1 hr.2;have hf:=hv.facts;generalize hR:bs++bH (.i n)=R;replace hR:Hid (bs++[1]++dS (p_ n)=R):=by show _=_;rw[<-hR];simp[bH]
 repeat' first|exact zQ|with_reducible refine zJ (fun _=>?_) fun _=>?_|refine zK ?_|fail
 refine fQ (.light 0 (.light 3 (.load 4 3 (.both 1 [3] (.both 2 [3] (.both 5 [] (.both 6 [] (.light 7 .fin) .stop) .stop) .stop) .stop)))) aj ?_;repeat' first|exact zQ|with_reducible refine zJ (fun _=>?_) fun _=>?_|refine zK ?_|fail
 refine app wS (Gm hv (by decide)) (fun x' β hw'=>?_) (by simp[aV];omega);have hw2:aW β wS 5 1 x' (aV (bs++[1])):=by rw[iE];exact hw'
 have hf':=hw2.facts;clear hw';repeat' first|exact zQ|with_reducible refine zJ (fun _=>?_) fun _=>?_|refine zK ?_|fail
 refine aB (sj (p_ n) hz (bs++[1]) (by simp;omega) x' _ (hw2.mix _)) rfl fun d bx1 hq=>?_;rw[hR.out]at hq;have hf1:=hq.1.facts;repeat' first|exact zQ|with_reducible refine zJ (fun _=>?_) fun _=>?_|refine zK ?_|fail
 exact hq.x fun q h=>(DM h).trans (aA (AF h))
theorem KF(s:ah)(bs:ah)(x:D)(bx:ae)(hl:bs.length+s.length<=1099511627000)(hv:aW bx wS 5 1 x (aV bs)):
 aU Tryz.prog 212 100 [x,.agg [I 2,I 0,.str s,.sl 4 []]] bx (fun d bx'=>Eu bx bx' d (bs++bH (.t s))) (fun _ _=>False):=by
 refine aG (fn:=Tryz.f212) (tab:=[(2000001,[]),(1,[(10,7),(9,7),(10,2),(9,2),(4,2)])]) (base:=100) mixed ?_ rfl aj rfl;refine aH _ [.tmp 4] 16 rfl rfl rfl aj ?_;have hf:=hv.facts;have hw:IntKind.u64.wrap (s.length:Int)=s.length:=dZ rfl (by simp[IntKind.bits];omega);have hsl:s.length<18446744073709551616:=oM;have hnl:=iR hsl;generalize hR:bs++bH (.t s)=R;replace hR:Hid (bs++[2]++dS s.length++s=R):=by show _=_;rw[<-hR];simp[bH]
 repeat' first|exact zQ|with_reducible refine zJ (fun _=>?_) fun _=>?_|refine zK ?_|fail
 refine fQ (.light 0 (.light 3 (.light 8 (.load 4 3 (.load 9 3 (.both 1 [3] (.both 2 [3] (.both 5 [3] (.light 6 (.both 7 [3] (.both 10 [] (.light 11 .fin) .stop) .stop)) .stop) (.both 5 [3] (.light 6 (.both 2 [3] (.both 7 [3] (.both 10 [] (.light 11 .fin) .stop) .stop) .stop)) .stop)) (.both 5 [3] (.light 6 (.both 1 [3] (.both 2 [3] (.both 7 [3] (.both 10 [] (.light 11 .fin) .stop) .stop) .stop) .stop)) .stop))))))) aj ?_;repeat' first|exact zQ|with_reducible refine zJ (fun _=>?_) fun _=>?_|refine zK ?_|fail
 refine⟨⟨?_,?_⟩,?_⟩;all_goals
  repeat' first|exact zQ|with_reducible refine zJ (fun _=>?_) fun _=>?_|refine zK ?_|fail
  refine app wS (Gm hv (by decide)) (fun x' β hw'=>?_) (by simp[aV];omega);have hw2:aW β wS 5 1 x' (aV (bs++[2])):=by rw[iE];exact hw'
  have hf':=hw2.facts;clear hw';repeat' first|exact zQ|with_reducible refine zJ (fun _=>?_) fun _=>?_|refine zK ?_|fail
  refine aB (sj s.length hsl (bs++[2]) (by simp;omega) x' _ (hw2.mix _)) rfl fun d bx1 hq=>?_;have hf1:=hq.1.facts;have k3:=hq.2 103 (by decide);have kq:cd [(100,1000)] bx1 bx:=fun q h=>(hq.2 q (I1 h)).trans ((DM h).trans (aA (AF h)));replace kq:Hid _:=kq;have hq1:=hq.1;clear hq;repeat' first|exact zQ|with_reducible refine zJ (fun _=>?_) fun _=>?_|refine zK ?_|fail
  refine app wS hq1 (fun x2 β2 hw3=>?_) (by simp[aV];omega);have hw4:aW β2 wS 5 1 x2 (aV (bs++[2]++dS s.length++s)):=by rw[iE];exact hw3
  rw[hR.out]at hw4;have hf2:=hw4.facts;clear hw3;repeat' first|exact zQ|with_reducible refine zJ (fun _=>?_) fun _=>?_|refine zK ?_|fail
  exact⟨hw4.mix _,fun q h=>(DM h).trans (kq.out q h)⟩
def Wr(v:aQ):Prop:=∀(bs:ah) (x:D) (bx:ae) (e e1:Nat),bs.length+(bH v).length<=1099511627000->aW bx wS 5 1 x (aV bs)->Ey bx e e1->
 aU Tryz.prog (Nc v) 100 ([x,v.d]++IB e1 v) bx (fun d bx'=>Eu bx bx' d (bs++bH v)) (fun _ _=>False)
set_option maxHeartbeats 8000000 in
theorem KE(xs:List aQ)(ih:∀x∈xs,pA x->Wr x)(hx:pA (.l xs))(bs:ah)(x:D)(bx:ae)(e e1:Nat)(hl:bs.length+(bH (.l xs)).length<=1099511627000)(hv:aW bx wS 5 1 x (aV bs))(hw:Ey bx e e1):
 aU Tryz.prog 213 120 [x,.agg [I 3,I 0,.str [],.sl 4 (xs.map aQ.d)],.loc 21 e1 0 0] bx (fun d bx'=>Eu bx bx' d (bs++bH (.l xs))) (fun _ _=>False):=by
 refine aG (fn:=Tryz.f213) (tab:=[(2000001,[]),(2000005,[]),(1,[(7,4),(6,4)])]) (base:=120) mixed ?_ rfl aj rfl;refine aH _ [.tmp 5] 35 rfl rfl rfl aj ?_;have hf:=hv.facts;obtain⟨f1,f2,f3⟩:=Dm hx;have hwr:IntKind.u64.wrap (xs.length:Int)=xs.length:=dZ rfl (by simp[IntKind.bits];omega);have hsl:xs.length<18446744073709551616:=oM;have hnl:=iR hsl;have hel:bs.length+(1+((dS xs.length).length+(cI xs).length))<=1099511627000:=by simp[bH]at hl;omega
 clear hl hx;generalize hR:bs++bH (.l xs)=R;replace hR:Hid (bs++[3]++dS xs.length++cI xs=R):=by show _=_;rw[<-hR];simp[bH]
 have hw1:=hw.1;have hw2:=hw.2;repeat' first|exact zQ|with_reducible refine zJ (fun _=>?_) fun _=>?_|refine zK ?_|fail
 refine fQ (.light 0 (.light 3 (.load 4 4 (.both 1 [4] (.both 2 [4] (.both 5 [] (.light 6 (.both 7 [] (.light 8 .fin) .stop)) .stop) (.both 5 [] (.light 6 (.both 2 [4] (.both 7 [] (.light 8 .fin) .stop) .stop)) .stop)) (.both 5 [] (.light 6 (.both 1 [4] (.both 2 [4] (.both 7 [] (.light 8 .fin) .stop) .stop) .stop)) .stop))))) aj ?_;repeat' first|exact zQ|with_reducible refine zJ (fun _=>?_) fun _=>?_|refine zK ?_|fail
 refine⟨⟨?_,?_⟩,?_⟩;all_goals
  repeat' first|exact zQ|with_reducible refine zJ (fun _=>?_) fun _=>?_|refine zK ?_|fail
  refine app wS (Gm hv (by decide)) (fun x' β hw'=>?_) (by simp[aV];omega);have hv2:aW β wS 5 1 x' (aV (bs++[3])):=by rw[iE];exact hw'
  have hf':=hv2.facts;clear hw';repeat' first|exact zQ|with_reducible refine zJ (fun _=>?_) fun _=>?_|refine zK ?_|fail
  refine aB (sj xs.length hsl (bs++[3]) (by simp;omega) x' _ (hv2.mix _)) rfl fun d bx1 hq=>?_;have hf1:=hq.1.facts;have k4:=hq.2 124 (by decide);have kq:cd [(100,1000)] bx1 bx:=fun q h=>(hq.2 q (I1 h)).trans ((DM h).trans (aA (AF h)));have hq1:=hq.1;have k21:=(kq 21 rfl).trans hw1;have k23:=(kq 23 rfl).trans hw2;clear hq hf' hv2;repeat' first|exact zQ|with_reducible refine zJ (fun _=>?_) fun _=>?_|refine zK ?_|fail
  refine fresh (fun σ' B=>σ' 0=d/\σ' 2= .loc 21 e1 0 0/\σ' 17= .sl 4 (xs.map aQ.d)/\σ' 18=I xs.length/\σ' 19=I 0/\aW B wS 5 1 d (aV (bs++[3]++dS xs.length))/\cd [(100,1000)] B bx) ⟨by simp[go_sem],by simp[go_sem],by simp[go_sem],by simp[go_sem],by simp[go_sem],hq1,kq⟩ ?_;clear k4 kq hq1 k21 k23;rintro σ B ⟨s0,s2,s17,s18,s19,hq1,kq⟩;refine bO xs [(0,0),(7,7),(19,33)] [(100,1000)] (fun j τ β=>τ 19=I j/\aW β wS 5 1 (τ 0) (aV (bs++[3]++dS xs.length++cI (xs.take j)))) (by simp[Lm];omega) ⟨s19,by rw[s0];simpa[cI]using hq1⟩ (fun j y τ β hx hj hw hi=>?_) fun τ β hn hi=>?_
  ·obtain⟨h19,hvj⟩:=hi;generalize hv0:τ 0=v0 at *;have hm:=List.mem_of_getElem? hx;have hfy:=f3 y hm;have hWy:=ih y hm hfy;have hf0:=hvj.facts;have kj:cd [(100,1000)] (aY [(100,1000)] β B) bx:=fun q h=>(cd.jt q h).trans (kq q h);have k21:=(kj 21 rfl).trans hw1;have k23:=(kj 23 rfl).trans hw2;have hsn:=E3 hx;have hlt:=E4 xs (j+1);rw[hsn,List.length_append]at hlt;have hl3:(bs++[3]++dS xs.length++cI (xs.take j)).length+(bH y).length<=1099511627000:=by
    have:=hel;simp only[List.length_append,List.length_cons,List.length_nil];omega
   replace hsn:Hid _:=hsn;clear ih f3;cases y;all_goals
    repeat' first|exact zQ|with_reducible refine zJ (fun _=>?_) fun _=>?_|refine zK ?_|fail
    refine fQ (.light 1 (.light 7 (.load 2 7 (.load 8 7 (.both 0 [7] (.light 3 (.light 4 (.light 5 (.both 6 [7] (.both 9 [] (.light 10 .fin) .stop) .stop)))) .stop))))) aj ?_;repeat' first|exact zQ|with_reducible refine zJ (fun _=>?_) fun _=>?_|refine zK ?_|fail
    have hc:=fun b (h1:aW b wS 5 1 v0 _) (h2:Ey b e e1)=>hWy _ v0 b e e1 hl3 h1 h2;simp only[xh,Eo,jD,Nc,IB,List.cons_append,List.nil_append]at hc;refine aB (hc _ (Gm (Gm (hvj.mix _) (by decide)) (by decide)) ⟨(aA (by decide)).trans ((aA (by decide)).trans k21),(aA (by decide)).trans ((aA (by decide)).trans k23)⟩) rfl fun d2 bx2 hq2=>?_;have hf2:=hq2.1.facts;have hv2:=hq2.1;rw[List.append_assoc,<-hsn.out]at hv2;have kb:cd [(100,1000)] bx2 B:=fun q h=>(hq2.2 q h).trans ((aA (AF h)).trans ((aA (AF h)).trans (cd.jt q h)));clear hc hq2;repeat' first|exact zQ|with_reducible refine zJ (fun _=>?_) fun _=>?_|refine zK ?_|fail
    trace_state
  ·obtain⟨h19,hvj⟩:=hi;rw[List.take_length,hR.out]at hvj;generalize hv0:τ 0=v0 at *;have hf0:=hvj.facts;repeat' first|exact zQ|with_reducible refine zJ (fun _=>?_) fun _=>?_|refine zK ?_|fail
   exact⟨hvj.mix _,fun q h=>(cd.jt q h).trans (kq q h)⟩
theorem KC(v:aQ)(hf:pA v):Wr v:=by
 induction v using nR with
 |hi n=>exact fun bs x bx e e1 hl hv hw=>KD n hf.1 bs x bx oM hv
 |ht s=>exact fun bs x bx e e1 hl hv hw=>KF s bs x bx (by simp[bH]at hl;omega) hv
 |hl xs ih=>
  intro bs x bx e e1 hl hv hw;have:=KE xs (fun x hx _=>ih x hx ((Dm hf).2.2 x hx)) hf bs x bx e e1 hl hv hw;show aU _ _ _ [x,(aQ.l xs).d,.loc 21 e1 0 0] _ _ _;rw[jD];exact this
set_option maxHeartbeats 2000000 in
instance(v:aQ):Ct Tryz.prog 87 [v.d] (pA v/\eM v<=16/\(bH v).length<=1099511627000) (.tup [bj (bH v),I 0]):=by
 refine bm (fn:=Tryz.f87) [(2000004,[]),(4,[(10,8),(10,3)])] [.tmp 2,.tmp 3] fun pre=>?_;obtain⟨h1,h2,h3⟩:=pre;have h4:(if 16<eM v then 2 else 0:Int)=0:=if_neg oM;have hW:=KC v h1;generalize hR:bH v=R at *;replace hR:Hid _:=hR;repeat' first|exact zQ|with_reducible refine zJ (fun _=>?_) fun _=>?_|refine zK ?_|fail
 cases v;all_goals
  refine fQ (.light 1 (.load 2 1 (.load 7 1 (.both 0 [1] (.light 3 (.light 4 (.light 5 (.load 6 23 (.both 8 [] (.light 9 (.light 10 .fin)) .stop))))) .stop)))) aj ?_;repeat' first|exact zQ|with_reducible refine zJ (fun _=>?_) fun _=>?_|refine zK ?_|fail
  refine aB (BH _) rfl fun d bx1 hq=>?_;obtain⟨e,e1,rfl,hw,hk⟩:=hq;have k1:=hk 1 (by decide);have hw2:=hw.2;have hc:=fun b (q1:aW b wS 5 1 .nilsl (aV [])) (q2:Ey b e e1)=>hW [] .nilsl b e e1 (by rw[hR.out];simpa using h3) q1 q2;simp only[xh,Eo,jD,Nc,IB,List.cons_append,List.nil_append]at hc;clear hk;repeat' first|exact zQ|with_reducible refine zJ (fun _=>?_) fun _=>?_|refine zK ?_|fail
  refine aB (hc _ (.nil _ _ _ _) hw) rfl fun d2 bx2 hq2=>?_;have hf2:=hq2.1.facts;have hv2:=hq2.1;rw[hR.out]at hv2;clear hc hq2 hW;repeat' first|exact zQ|with_reducible refine zJ (fun _=>?_) fun _=>?_|refine zK ?_|fail
  exact MS hv2 rfl
def RD(bx:ae)(e:Nat)(s:ah):Prop:=bx 8=⟨e,1,1,244,[.agg [bj s]]⟩
def U4(bx bx':ae)(d:D):Prop:=d= .tup []/\bx'=bx
theorem pZ(e:Nat)(bx:ae):aU Tryz.prog 169 300 [.loc 8 e 0 0,.bool true] bx (fun d bx'=>U4 bx bx' d) (fun _ _=>False):=by
 refine aG (fn:=Tryz.f169) (tab:=[]) (base:=300) mixed ?_ rfl aj rfl;refine aH _ [] 7 rfl rfl rfl aj ?_;repeat' first|exact zQ|with_reducible refine zJ (fun _=>?_) fun _=>?_|refine zK ?_|fail
 exact⟨rfl,rfl⟩
def KU(bx bx':ae)(e:Nat)(d d0:D)(s:ah):Prop:=d=d0/\RD bx' e s/\∀q,q≠8->bx' q=bx q
theorem pW(e n:Nat)(s:ah)(bx:ae)(h:RD bx e s)(hn:n<=s.length)(hs:s.length<=1099511627776):aU Tryz.prog 219 310 [.loc 8 e 0 0,I n] bx (fun d bx'=>KU bx bx' e d (.clp 1 (aV (s.take n))) (s.drop n)) (fun _ _=>False):=by
 refine aG (fn:=Tryz.f219) (tab:=[]) (base:=310) mixed ?_ rfl aj rfl;refine aH _ [.tmp 4] 32 rfl rfl rfl aj ?_;have hb:bx 8=⟨e,1,1,244,[.agg [bj s]]⟩:=h;have c1:(n:Int)<=(s.length:Int):=oM;repeat' first|exact zQ|with_reducible refine zJ (fun _=>?_) fun _=>?_|refine zK ?_|fail
 refine aB (pZ e bx) rfl fun d bx1 hq=>?_;obtain⟨rfl,rfl⟩:=hq;repeat' first|exact zQ|with_reducible refine zJ (fun _=>?_) fun _=>?_|refine zK ?_|fail
 exact⟨rfl,by simp[RD,ao],fun q hq=>aA hq⟩
theorem Am{x i:Nat}(hi:i<=9)(h:x * 128 ^ i<18446744073709551616):IntKind.u64.wrap ((x:Int) * 2 ^ min (7 * i) 64)=((x * 128 ^ i:Nat):Int):=by
 rw[show min (7 * i) 64=7 * i by omega,show(x:Int) * 2 ^ (7 * i)=((x * 128 ^ i:Nat):Int) by rw[MK];simp];exact dZ rfl (by simpa[IntKind.bits]using h)
theorem FR{a x i:Nat}(ha:a<128 ^ i)(h:a+x * 128 ^ i<18446744073709551616):ca .or .u64 (a:Int) ((x * 128 ^ i:Nat):Int)=((a+x * 128 ^ i:Nat):Int):=by
 rw[HQ .u64 rfl (by simp only[IntKind.bits];omega) (by simp only[IntKind.bits];omega)]
 congr 1
 rw[MK]at *;exact AE ha
theorem N8(c:UInt8):ca .and .u8 (c.toNat:Int) 127=((c.toNat % 128:Nat):Int):=by
 have:=oP .u8 rfl (a:=c.toNat) (b:=127) (by simpa[IntKind.bits]using c.toNat_lt);rw[Jj]at this;exact this
set_option maxHeartbeats 2000000 in
theorem Av(u:Nat)(hu:u<18446744073709551616)(r:ah)(hr:r.length<=1099511627000)(e:Nat)(bx:ae)(h:RD bx e (dS u++r)):aU Tryz.prog 221 350 [.loc 8 e 0 0] bx (fun d bx'=>KU bx bx' e d (.int .u64 u) r) (fun _ _=>False):=by
 refine aG (fn:=Tryz.f221) (tab:=[]) (base:=350) mixed ?_ rfl aj rfl;refine aH _ [.tmp 2] 38 rfl rfl rfl aj ?_;repeat' first|exact zQ|with_reducible refine zJ (fun _=>?_) fun _=>?_|refine zK ?_|fail
 refine uU (u,0,0) (fun g:Nat×Nat×Nat=>g.1) [(2,37)] [(8,8)] (fun g τ β=>τ 3=I g.2.1/\τ 2= .int .u64 g.2.2/\RD β e (dS g.1++r)/\Hid (g.2.2+g.1 * 128 ^ g.2.1=u/\g.2.2<128 ^ g.2.1/\g.2.1<=9/\(g.2.1=0\/g.1≠0))) ⟨by simp[go_sem],by simp[go_sem],h,by show _/\_;simp⟩ ?_;rintro⟨v,i,a⟩ τ β ⟨h3,h2,hb,hg⟩;simp only at h3 h2 hb hg;obtain⟨g1,g2,g3,g4⟩:=hg.out;clear hg;have hi9:i=9->v<=1:=fun h=>by subst h;omega
 have hac:=fun c:UInt8=>N8 c;have w2:IntKind.i64.wrap (7 * (i:Int))=((7 * i:Nat):Int):=by rw[iL _ oM oM];omega
 have w5:IntKind.i64.wrap ((i:Int)+1)=((i+1:Nat):Int):=aK oM;by_cases hs:v<128
 ·rw[vG hs]at hb;have ht:(UInt8.ofNat v).toNat=v:=by simp;omega
  have hP:v * 128 ^ i<18446744073709551616:=oM;have w3:=Am g3 hP;have w4:=FR g2 (x:=v) oM;rw[g1]at w4;have w1:IntKind.u64.wrap (v:Int)=v:=dZ rfl (by simp[IntKind.bits];omega);generalize UInt8.ofNat v=c at *;have m1:c.toNat % 128=v:=oM;have hcs:((i:Int)=0/\(i:Int)<9)\/(¬(i:Int)=0/\(i:Int)<9/\¬(c.toNat:Int)=0)\/(¬(i:Int)=0/\¬(i:Int)<9/\¬(c.toNat:Int)=0/\(c.toNat:Int)<=1):=oM;have hlt:(c.toNat:Int)<128:=oM;have hb8:aY [(8,8)] β bx 8=⟨e,1,1,244,[.agg [bj ([c]++r)]]⟩:=hb;have hbL:=pW e 1 ([c]++r) (aY [(8,8)] β bx) hb8 sI (by simp;omega);clear g1 hP ht hi9 g4 hb hb8 g2;have w3z:(i:Int)=0->IntKind.u64.wrap ((v:Int) * 2 ^ min (7 * 0:Int).toNat 64)=((v * 128 ^ i:Nat):Int):=fun h=>by
   have:i=0:=oM;subst this;simpa using w3
  replace w3z:Hid _:=w3z;rcases hcs with⟨k1,k2⟩|⟨k1,k2,k3⟩|⟨k1,k2,k3,k4⟩
  all_goals
   try have w3y:=w3z.out k1
   repeat' first|exact zQ|with_reducible refine zJ (fun _=>?_) fun _=>?_|refine zK ?_|fail
   refine aB hbL rfl fun d bx1 hq=>?_;obtain⟨rfl,q1,q2⟩:=hq;replace q2:Hid _:=q2;repeat' first|exact zQ|with_reducible refine zJ (fun _=>?_) fun _=>?_|refine zK ?_|fail
   refine aB (pZ e bx1) rfl fun d bx2 hq=>?_;obtain⟨rfl,rfl⟩:=hq;repeat' first|exact zQ|with_reducible refine zJ (fun _=>?_) fun _=>?_|refine zK ?_|fail
   exact⟨rfl,q1,fun q hq=>(q2.out q hq).trans (by simp[aY,cm];intro h1 h2;omega)⟩
 ·rw[Ar hs]at hb;have ht:(UInt8.ofNat (v % 128+128)).toNat=v % 128+128:=by simp;omega
  have hle:128 ^ (i+1) * (v / 128)<=v * 128 ^ i:=by rw[Nat.pow_succ,Nat.mul_assoc,Nat.mul_comm];exact Nat.mul_le_mul_right _ oM
  have hdm:(v % 128) * 128 ^ i+(v / 128) * 128 ^ (i+1)=v * 128 ^ i:=by rw[Nat.pow_succ,Nat.mul_comm (128 ^ i) 128,<-Nat.mul_assoc,<-Nat.add_mul];congr 1;omega
  have hi8:i<9:=by
   rcases Nat.lt_or_ge i 9 with h|h
   ·exact h
   ·have:=hi9 oM;omega
  have w3:=Am (x:=v % 128) g3 oM;have w4:=FR g2 (x:=v % 128) oM;have w1:IntKind.u64.wrap ((v % 128:Nat):Int)=((v % 128:Nat):Int):=dZ rfl (by simp[IntKind.bits];omega);generalize UInt8.ofNat (v % 128+128)=c at *;have m1:c.toNat % 128=v % 128:=oM;have hcs:((i:Int)=0/\(i:Int)<9)\/(¬(i:Int)=0/\(i:Int)<9/\¬(c.toNat:Int)=0):=oM;have hlt:¬(c.toNat:Int)<128:=oM;have hpp:128 ^ (i+1)=128 ^ i * 128:=Nat.pow_succ ..;have n2:a+v % 128 * 128 ^ i<128 ^ (i+1):=by
   have:v % 128 * 128 ^ i<=127 * 128 ^ i:=Nat.mul_le_mul_right _ oM;omega
  have n1:a+v % 128 * 128 ^ i+v / 128 * 128 ^ (i+1)=u:=by rw[Nat.add_assoc,hdm];exact g1
  have n4:v / 128≠0:=oM;have n5:v / 128<v:=oM;have hb8:aY [(8,8)] β bx 8=⟨e,1,1,244,[.agg [bj (c::dS (v / 128)++r)]]⟩:=hb;have hln:(c::dS (v / 128)++r).length<=1099511627776:=by
   have hv1:v<=v * 128 ^ i:=Nat.le_mul_of_pos_right _ (Nat.pow_pos (by decide));have:=iR (u:=v / 128) oM;simp;omega
  have hbL:=pW e 1 (c::dS (v / 128)++r) (aY [(8,8)] β bx) hb8 sI hln;generalize hX:a+v % 128 * 128 ^ i=X at *;generalize v / 128=v' at *;have hN:Hid (X+v' * 128 ^ (i+1)=u/\X<128 ^ (i+1)/\i+1<=9/\(i+1=0\/v'≠0)):=by show _/\_;exact⟨n1,n2,by omega,.inr n4⟩
  replace n5:Hid _:=n5;clear g1 ht hi9 g4 hb hb8 g2 hle hdm hpp n1 n2 n4 hln hX;have w3z:(i:Int)=0->IntKind.u64.wrap (((v % 128:Nat):Int) * 2 ^ min (7 * 0:Int).toNat 64)=((v % 128 * 128 ^ i:Nat):Int):=fun h=>by
   have:i=0:=oM;subst this;simpa using w3
  replace w3z:Hid _:=w3z;rcases hcs with⟨k1,k2⟩|⟨k1,k2,k3⟩
  all_goals
   try have w3y:=w3z.out k1
   repeat' first|exact zQ|with_reducible refine zJ (fun _=>?_) fun _=>?_|refine zK ?_|fail
   refine aB hbL rfl fun d bx1 hq=>?_;obtain⟨rfl,q1,q2⟩:=hq;have q3:cd [(8,8)] bx1 bx:=fun q hq=>by
    have:q≠8:=by simp[cm]at hq;omega
    exact(q2 q this).trans (by simp[aY,cm];intro h1 h2;omega)
   clear q2;repeat' first|exact zQ|with_reducible refine zJ (fun _=>?_) fun _=>?_|refine zK ?_|fail
   refine aB (pZ e bx1) rfl fun d bx2 hq=>?_;obtain⟨rfl,rfl⟩:=hq;repeat' first|exact zQ|with_reducible refine zJ (fun _=>?_) fun _=>?_|refine zK ?_|fail
   refine⟨(v',i+1,X),n5.out,?_,rfl,q1,hN⟩;first|rfl|exact congrArg I (show(0:Int)+1=((i+1:Nat):Int) by omega)
set_option maxHeartbeats 1000000 in
theorem Ah(n:Nat)(r:ah)(hr:r.length<=1099511627000)(hn:n<=r.length)(e:Nat)(bx:ae)(h:RD bx e (dS n++r)):aU Tryz.prog 222 390 [.loc 8 e 0 0] bx (fun d bx'=>KU bx bx' e d (I n) r) (fun _ _=>False):=by
 refine aG (fn:=Tryz.f222) (tab:=[]) (base:=390) mixed ?_ rfl aj rfl;refine aH _ [.tmp 2] 18 rfl rfl rfl aj ?_;have w1:IntKind.u64.wrap (r.length:Int)=r.length:=dZ rfl (by simp[IntKind.bits];omega);have w2:IntKind.i64.wrap (n:Int)=n:=iL _ oM oM;have c1:(n:Int)<=(r.length:Int):=oM;repeat' first|exact zQ|with_reducible refine zJ (fun _=>?_) fun _=>?_|refine zK ?_|fail
 refine aB (Av n oM r hr e _ h) rfl fun d bx1 hq=>?_;obtain⟨rfl,q1,q2⟩:=hq;have hb:bx1 8=⟨e,1,1,244,[.agg [bj r]]⟩:=q1;replace q2:Hid _:=q2;repeat' first|exact zQ|with_reducible refine zJ (fun _=>?_) fun _=>?_|refine zK ?_|fail
 refine aB (pZ e bx1) rfl fun d bx2 hq=>?_;obtain⟨rfl,rfl⟩:=hq;repeat' first|exact zQ|with_reducible refine zJ (fun _=>?_) fun _=>?_|refine zK ?_|fail
 exact⟨rfl,q1,q2.out⟩
end Go.V.Jn
