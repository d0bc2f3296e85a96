/- Values, their encoding, sectors and the records on them: plain. -/
import Derived.Test.YtkgloohlmogakaaGreatDoorB27
set_option linter.unusedSimpArgs false
set_option linter.unusedVariables false
set_option maxRecDepth 100000
namespace Go.V.Jn
open Go.V.Lx Go.V.Gr
def be:Nat->Nat->ah
 |0,_=>[]
 |k+1,n=>UInt8.ofNat (n / 256 ^ k)::be k n
def num(l:ah):Nat:=l.foldl (fun n c=>256 * n+c.toNat) 0
theorem eu:∀(k n:Nat),(be k n).length=k
 |0,_=>rfl
 |k+1,n=>by simp[be,eu k n]
theorem Au:∀(l:ah) (a:Nat),l.foldl (fun n c=>256 * n+c.toNat) a=a * 256 ^ l.length+num l
 |[],a=>by simp[num]
 |c::l,a=>by
  unfold num;rw[List.foldl_cons,List.foldl_cons,Au l,Au l (256 * 0+c.toNat),List.length_cons,Nat.pow_succ,Nat.add_mul];have:256 * a * 256 ^ l.length=a * (256 ^ l.length * 256):=by rw[Nat.mul_comm 256 a,Nat.mul_assoc,Nat.mul_comm 256]
  rw[this];simp[Nat.add_assoc]
theorem At(c:UInt8)(l:ah):num (c::l)=c.toNat * 256 ^ l.length+num l:=by
 show List.foldl _ _ _=_;rw[List.foldl_cons,Au];simp
theorem oe:∀l:ah,num l<256 ^ l.length
 |[]=>by simp[num]
 |c::l=>by
  rw[At,List.length_cons,Nat.pow_succ];have:=oe l;have h2:c.toNat<256:=c.toNat_lt;have h3:c.toNat * 256 ^ l.length<=255 * 256 ^ l.length:=Nat.mul_le_mul_right _ oM;omega
theorem vH:∀(k n:Nat),num (be k n)=n % 256 ^ k
 |0,n=>by simp[be,num,Nat.mod_one]
 |k+1,n=>by
  rw[be,At,eu,vH k n];simp only[UInt8.toNat_ofNat',Nat.reducePow];rw[Nat.pow_succ,Nat.mod_mul,Nat.mul_comm,Nat.add_comm]
def jJ(n:Nat):Nat:=if n % 2=1 then(n / 2) ^^^ 3988292384 else n / 2
def iO(n:Nat)(c:UInt8):Nat:=Nat.repeat jJ 8 (n ^^^ c.toNat)
def zA(l:ah):Nat:=(l.foldl iO 4294967295) ^^^ 4294967295
def body(k:Nat)(kind:UInt8)(b:ah):ah:=be 2 k++(kind::UInt8.ofNat b.length::(b++List.replicate (112 - b.length) 0))
def dj(g k:Nat)(kind:UInt8)(b:ah):ah:=be 4 g++(be 4 (zA (body k kind b))++(body k kind b++be 4 g))
theorem t_{k:Nat}{kind:UInt8}{b:ah}(h:b.length<=112):(body k kind b).length=116:=by simp[body,eu];omega
theorem qY{g k:Nat}{kind:UInt8}{b:ah}(h:b.length<=112):(dj g k kind b).length=128:=by simp[dj,eu,t_ h]
def pP(s:ah):Nat:=(s.getD 10 0).toNat
def bM(s:ah):Nat:=(s.getD 11 0).toNat
def gen(s:ah):Nat:=num (s.take 4)
def piece(s:ah):ah:=(s.drop 12).take (bM s)
def yQ(s:ah):Bool:=decide (bM s<=112)&&decide (pP s<=3)&&(decide (2<=pP s)||decide (bM s=112))&&(decide (pP s % 2=1)||decide (bM s≠0))&&decide (0<gen s)
def fH(s:ah)(k:Nat):Bool:=yQ s&&(s==dj (gen s) k (s.getD 10 0) (piece s))
theorem u7{n:Nat}(h:n<4294967296):jJ n<4294967296:=by
 unfold jJ;split
 ·exact Nat.xor_lt_two_pow (n:=32) oM (by decide)
 ·omega
theorem u6{n:Nat}{c:UInt8}(h:n<4294967296):iO n c<4294967296:=by
 unfold iO;have:n ^^^ c.toNat<4294967296:=Nat.xor_lt_two_pow (n:=32) h (by have:=c.toNat_lt;omega);generalize n ^^^ c.toNat=m at this;have:∀k m,m<4294967296->Nat.repeat jJ k m<4294967296:=by
  intro k;induction k with
  |zero=>intro m h;exact h
  |succ k ih=>intro m h;exact u7 (ih m h)
 exact this 8 m ‹_›
theorem Ls(l:ah):zA l<4294967296:=by
 have:∀(l:ah) n,n<4294967296->l.foldl iO n<4294967296:=by
  intro l;induction l with
  |nil=>intro n h;exact h
  |cons c l ih=>intro n h;exact ih _ (u6 h)
 exact Nat.xor_lt_two_pow (n:=32) (this l _ (by decide)) (by decide)
def dS(u:Nat):ah:=if u<128 then[UInt8.ofNat u]else UInt8.ofNat (u % 128+128)::dS (u / 128)
termination_by u
decreasing_by omega
theorem vG{u:Nat}(h:u<128):dS u=[UInt8.ofNat u]:=by rw[dS,if_pos h]
theorem Ar{u:Nat}(h:¬u<128):dS u=UInt8.ofNat (u % 128+128)::dS (u / 128):=by rw[dS,if_neg h]
theorem As:∀(k:Nat) {u:Nat},u<128 ^ (k+1)->(dS u).length<=k+1
 |0,u,h=>by rw[dS,if_pos (by simpa using h)];simp
 |k+1,u,h=>by
  rw[dS];split
  ·simp
  ·have:=As k (u:=u / 128) (by rw[Nat.div_lt_iff_lt_mul oM];rw[Nat.pow_succ]at h;exact h);simp;omega
def p_(n:Int):Nat:=if 0<=n then 2 * n.toNat else 2 * (-(n+1)).toNat+1
inductive aQ where
 |i (n:Int)
 |t (s:ah)
 |l (xs:List aQ)
mutual
def bH:aQ->ah
 | .i n=>1::dS (p_ n)
 | .t s=>2::(dS s.length++s)
 | .l xs=>3::(dS xs.length++cI xs)
def cI:List aQ->ah
 |[]=>[]
 |x::xs=>bH x++cI xs
end
mutual
def eM:aQ->Nat
 | .l xs=>eC xs+1
 |_=>0
def eC:List aQ->Nat
 |[]=>0
 |x::xs=>max (eM x) (eC xs)
end
theorem qs:∀xs ys:List aQ,cI (xs++ys)=cI xs++cI ys
 |[],ys=>rfl
 |x::xs,ys=>by simp[cI,qs xs ys]
theorem zD:∀xs ys:List aQ,eC (xs++ys)=max (eC xs) (eC ys)
 |[],ys=>by simp[eC]
 |x::xs,ys=>by simp[eC,zD xs ys]
theorem G2{xs:List aQ}{x:aQ}(h:x∈xs):eM x<=eC xs:=by
 induction xs with
 |nil=>cases h
 |cons y xs ih=>
  rcases List.mem_cons.1 h with rfl|h
  ·simp[eC];omega
  ·have:=ih h;simp[eC];omega
theorem AE{a b i:Nat}(h:a<2 ^ i):a|||b * 2 ^ i=a+b * 2 ^ i:=by rw[Nat.or_comm,<-Nat.shiftLeft_eq,<-Nat.shiftLeft_add_eq_or_of_lt h,Nat.add_comm]
theorem MK(i:Nat):128 ^ i=2 ^ (7 * i):=by rw[Nat.pow_mul]
theorem Bo{n:Int}(h1: -9223372036854775808<=n)(h2:n<=9223372036854775807):p_ n<18446744073709551616:=by unfold p_;split<;>omega
def cP(l:List ah)(at_ last:Nat):Nat->Nat->ah->Option (ah×Nat)
 |0,_,_=>none
 |f+1,n,acc=>match l[n]? with
  |none=>none
  |some s=>if(fH s n&&(decide (pP s % 2=1)==decide (n=at_))&&decide (gen s=gen (l.getD at_ []))&&decide (last<=gen s))=true then
   (if 2<=pP s then some (acc++piece s,n+1)else cP l at_ last f (n+1) (acc++piece s))else none
theorem ky{l:List ah}{at_ last:Nat}:∀ {f n:Nat} {acc:ah} {r:ah×Nat},cP l at_ last f n acc=some r->n<r.2/\r.2<=l.length
 |0,n,acc,r,h=>by simp[cP]at h
 |f+1,n,acc,r,h=>by
  unfold cP at h;cases hs:l[n]? with
  |none=>rw[hs]at h;cases h
  |some s=>
   have hn:=(List.getElem?_eq_some_iff.1 hs).1;rw[hs]at h;simp only at h;split at h
   ·split at h
    ·injection h with h;subst h;simp;omega
    ·have:=ky h;omega
   ·cases h
def jy(l:List ah):Nat->Nat->Nat->List (ah×Nat)
 |0,_,_=>[]
 |f+1,at_,last=>match cP l at_ last (l.length - at_) at_ []with
  |none=>[]
  |some (b,n)=>(b,n)::jy l f n (gen (l.getD at_ []))
def gk(l:List ah):List (ah×Nat):=jy l l.length 0 0
end Go.V.Jn
namespace Go.V.Jn
open Go.Proofs Go.RowKit Go.V.Lx Go.V.Gr Go.V.St
theorem rL(w a:Nat):(BitVec.ofInt w (a:Int)).toNat=a % 2 ^ w:=by simp
theorem dZ{k:IntKind}(hk:k.signed=false){a:Nat}(ha:a<2 ^ k.bits):k.wrap (a:Int)=a:=by cases k<;>simp[IntKind.signed]at hk<;>simp[IntKind.wrap,IntKind.signed,IntKind.bits]at ha⊢ <;>omega
theorem oP(k:IntKind)(hk:k.signed=false){a b:Nat}(ha:a<2 ^ k.bits):ca .and k a b=((a&&& b:Nat):Int):=by
 have h:a&&& b<2 ^ k.bits:=Nat.lt_of_le_of_lt Nat.and_le_left ha;simp only[ca,BitVec.toNat_and,rL,Nat.mod_eq_of_lt ha];have e:a&&& b % 2 ^ k.bits=a&&& b:=by rw[<-Nat.mod_eq_of_lt h,Nat.and_mod_two_pow,Nat.mod_eq_of_lt ha]
 rw[e];exact dZ hk h
theorem HQ(k:IntKind)(hk:k.signed=false){a b:Nat}(ha:a<2 ^ k.bits)(hb:b<2 ^ k.bits):ca .or k a b=((a|||b:Nat):Int):=by
 simp only[ca,BitVec.toNat_or,rL,Nat.mod_eq_of_lt ha,Nat.mod_eq_of_lt hb];exact dZ hk (Nat.or_lt_two_pow ha hb)
theorem tz(k:IntKind)(hk:k.signed=false){a b:Nat}(ha:a<2 ^ k.bits)(hb:b<2 ^ k.bits):ca .xor k a b=((a ^^^ b:Nat):Int):=by
 simp only[ca,BitVec.toNat_xor,rL,Nat.mod_eq_of_lt ha,Nat.mod_eq_of_lt hb];exact dZ hk (Nat.xor_lt_two_pow ha hb)
theorem Jj(a:Nat):a&&& 127=a % 128:=by have:=Nat.and_two_pow_sub_one_eq_mod a 7;simpa using this
@[reducible] def bj(s:ah):D:=.sl 1 (aV s)
@[go_sem] theorem uE(s:ah):(aV s).length=s.length:=by simp[aV]
@[go_sem] theorem mL(s:ah):D.aF (aV s)=true:=AM (fun _=>rfl) s
@[go_sem] theorem Bd(s:ah):(aV s).all D.one=true:=by simp[aV,D.one]
theorem iE(a b:ah):aV (a++b)=aV a++aV b:=by simp[aV]
theorem sQ(n:Nat)(s:ah):(aV s).take n=aV (s.take n):=by simp[aV]
theorem sP(n:Nat)(s:ah):(aV s).drop n=aV (s.drop n):=by simp[aV]
structure bA where
 at_:Int
 data:ah
 deriving DecidableEq
@[reducible] def bA.d(x:bA):D:=.agg [I x.at_,bj x.data]
structure bT where
 secs:List ah
 pend:List bA
 left:Int
 stop:Bool
 deriving DecidableEq
@[reducible] def bT.l(x:bT):List D:=[.sl 1 (x.secs.map bj),.sl 2 (x.pend.map bA.d),I x.left,.bool x.stop]
@[reducible] def bT.d(x:bT):D:=.agg x.l
structure fO where
 recs:List ah
 many:Int
 sync:Int
 deriving DecidableEq
@[reducible] def fO.l(x:fO):List D:=[.sl 1 (x.recs.map bj),I x.many,I x.sync]
@[reducible] def fO.d(x:fO):D:=.agg x.l
@[go_sem] theorem Rf(s:ah)(j:Nat):(aV s)[j]? =(s[j]?).map fun b=> .int .u8 (b.toNat:Int):=by simp[aV]
@[go_sem] theorem Bt:∀s:ah,fA (aV s)=some s
 |[]=>rfl
 |c::s=>by
  show fA (.int .u8 (c.toNat:Int)::aV s)=_;rw[fA,Bt s];simp
instance(a b:ah):Ct Tryz.prog 52 [bj a,bj b] True (.bool (a==b)):=by
 refine bm (fn:=Tryz.f52) [] [.tmp 4] fun pre=>?_;repeat' first|exact zQ|with_reducible refine zJ (fun _=>?_) fun _=>?_|refine zK ?_|fail
 exact ab (by rw[Bool.beq_eq_decide_eq])
theorem Gv{k:IntKind}(hk:k.signed=false)(c:UInt8):k.wrap (c.toNat:Int)=c.toNat:=dZ hk (by have:=c.toNat_lt;cases k<;>simp[IntKind.signed]at hk<;>simp[IntKind.bits]<;>omega)
theorem HN{s:ah}{j:Nat}{x:UInt8}(h:s[j]? =some x):num (s.take (j+1))=256 * num (s.take j)+x.toNat:=by rw[List.take_add_one,h];simp[num,List.foldl_append]
theorem Hm{n:Nat}(c:UInt8)(h:n<2 ^ 56):ca .or .u64 (IntKind.u64.wrap ((n:Int) * 2 ^ min 8 64)) (IntKind.u64.wrap (c.toNat:Int))=((256 * n+c.toNat:Nat):Int):=by
 have hc:=c.toNat_lt;have e:IntKind.u64.wrap ((n:Int) * 2 ^ min 8 64)=((n * 2 ^ 8:Nat):Int):=by
  rw[show((n:Int) * 2 ^ min 8 64)=((n * 2 ^ 8:Nat):Int) by simp];exact dZ rfl (by simp[IntKind.bits];omega)
 rw[e,Gv rfl,HQ .u64 rfl (by simp[IntKind.bits];omega) (by simp[IntKind.bits];omega),Nat.or_comm,AE oM]
 congr 1;omega
instance(s:ah):Ct Tryz.prog 98 [bj s] (s.length<=8) (.int .u64 (num s)):=by
 refine bm (fn:=Tryz.f98) [] [.tmp 2] fun pre=>?_;repeat' first|exact zQ|with_reducible refine zJ (fun _=>?_) fun _=>?_|refine zK ?_|fail
 refine bO s [(2,2),(4,4),(7,16)] [] (fun j τ _=>τ 7=I j/\τ 2= .int .u64 (num (s.take j))) (by simp[Lm];omega) (by simp[go_sem,num]) (fun j x τ β hx hj hw hi=>?_) fun τ β hn hi=>?_
 ·obtain⟨hi,h2⟩:=hi;have hb:=oe (s.take j);have hb2:(256:Nat) ^ (s.take j).length<=256 ^ 7:=Nat.pow_le_pow_right oM (by simp;omega);have hs:=Hm x (n:=num (s.take j)) oM;have hsn:=HN hx;repeat' first|exact zQ|with_reducible refine zJ (fun _=>?_) fun _=>?_|refine zK ?_|fail
 ·obtain⟨hi,h2⟩:=hi;repeat' first|exact zQ|with_reducible refine zJ (fun _=>?_) fun _=>?_|refine zK ?_|fail
  rw[List.take_length];exact .refl _
theorem GY{m:Nat}(h:m<4294967296):ca .xor .u32 ((m:Int).fdiv (2 ^ min 1 32)) (IntKind.u32.wrap (3988292384 * ca .and .u32 (m:Int) 1))=(jJ m:Int):=by
 have e1:(m:Int).fdiv (2 ^ min 1 32)=((m / 2:Nat):Int):=by rw[show(2:Int) ^ min 1 32=((2:Nat):Int) by rfl,Int.fdiv_eq_ediv_of_nonneg _ oM];rfl
 have e2:ca .and .u32 (m:Int) 1=((m % 2:Nat):Int):=by rw[show(1:Int)=((1:Nat):Int)from rfl,oP .u32 rfl (by simpa[IntKind.bits]using h),Nat.and_one_is_mod]
 rw[e1,e2];unfold jJ;split
 ·rename_i h1;rw[h1,show(3988292384:Int) * ((1:Nat):Int)=((3988292384:Nat):Int) by rfl,dZ rfl (by simp[IntKind.bits]),tz .u32 rfl (by simp[IntKind.bits];omega) (by simp[IntKind.bits])]
 ·have h1:m % 2=0:=oM;rw[h1,show(3988292384:Int) * ((0:Nat):Int)=((0:Nat):Int) by rfl,dZ rfl (by simp[IntKind.bits]),tz .u32 rfl (by simp[IntKind.bits];omega) (by simp[IntKind.bits])];simp
theorem F7{m:Nat}(h:m<4294967296):∀k,Nat.repeat jJ k m<4294967296
 |0=>h
 |k+1=>u7 (F7 h k)
theorem Lr{n:Nat}(c:UInt8)(h:n<4294967296):ca .xor .u32 (n:Int) (IntKind.u32.wrap (c.toNat:Int))=((n ^^^ c.toNat:Nat):Int):=by
 have hc:=c.toNat_lt;rw[Gv rfl,tz .u32 rfl (by simpa[IntKind.bits]using h) (by simp[IntKind.bits];omega)]
theorem Ni{n:Nat}(c:UInt8)(h:n<4294967296):n ^^^ c.toNat<4294967296:=Nat.xor_lt_two_pow (n:=32) h (by have:=c.toNat_lt;omega)
theorem wM:∀(l:ah) {n:Nat},n<4294967296->l.foldl iO n<4294967296
 |[],n,h=>h
 |c::l,n,h=>wM l (u6 h)
theorem Fk{s:ah}{j:Nat}{x:UInt8}{n:Nat}(h:s[j]? =some x):(s.take (j+1)).foldl iO n=Nat.repeat jJ 8 ((s.take j).foldl iO n ^^^ x.toNat):=by rw[List.take_add_one,h];simp[List.foldl_append,iO]
theorem Jw{n:Nat}(h:n<4294967296):ca .xor .u32 (IntKind.u32.max) (n:Int)=((n ^^^ 4294967295:Nat):Int):=by rw[show IntKind.u32.max=((4294967295:Nat):Int)from rfl,tz .u32 rfl (by simp[IntKind.bits]) (by simpa[IntKind.bits]using h),Nat.xor_comm]
instance(s:ah):Ct Tryz.prog 163 [bj s] (Lm s) (.int .u32 (zA s)):=by
 refine bm (fn:=Tryz.f163) [] [.tmp 2] fun pre=>?_;repeat' first|exact zQ|with_reducible refine zJ (fun _=>?_) fun _=>?_|refine zK ?_|fail
 refine bO s [(3,3),(5,5),(8,25)] [] (fun j τ _=>τ 8=I j/\τ 3= .int .u32 ((s.take j).foldl iO 4294967295:Nat)) pre sG (fun j x τ β hx hj hw hi=>?_) fun τ β hn hi=>?_
 ·obtain⟨hi,h2⟩:=hi;have hl:=wM (s.take j) (n:=4294967295) oM;have hs:=Lr x hl;have hsn:=Fk (n:=4294967295) hx;have hxl:=Ni x hl;generalize(s.take j).foldl iO 4294967295=m at *;repeat' first|exact zQ|with_reducible refine zJ (fun _=>?_) fun _=>?_|refine zK ?_|fail
  refine iN [(3,3),(16,24)] [] 8 (fun k τ _=>τ 16=I k/\τ 3= .int .u32 (Nat.repeat jJ k (m ^^^ x.toNat):Nat)) (by simp[go_sem,hs,Nat.repeat]) (fun k τ' β' hk hi2=>?_) fun τ' β' hi2=>?_
  ·obtain⟨hi2,h3⟩:=hi2;have hst:=GY (F7 hxl k);have hk2:(k:Int)<8:=oM;have hw2:IntKind.i64.wrap ((k:Int)+1)=((k+1:Nat):Int):=aK oM;repeat' first|exact zQ|with_reducible refine zJ (fun _=>?_) fun _=>?_|refine zK ?_|fail
   rfl
  ·obtain⟨hi2,h3⟩:=hi2;have hi2:τ' 16=I 8:=hi2;have h8:¬((8:Nat):Int)<8:=by decide
   repeat' first|exact zQ|with_reducible refine zJ (fun _=>?_) fun _=>?_|refine zK ?_|fail
 ·obtain⟨hi,h2⟩:=hi;have ho:=Jw (wM s (n:=4294967295) oM);rw[List.take_length]at h2;repeat' first|exact zQ|with_reducible refine zJ (fun _=>?_) fun _=>?_|refine zK ?_|fail
  simp only[IntKind.signed,Bool.false_eq_true,if_false,ho];exact .refl _
end Go.V.Jn
namespace Go.V.Jn
open Go.Proofs Go.RowKit Go.V.Lx Go.V.Gr Go.V.Ty Go.V.St
section
variable {f:Nat} {caps:List D}
instance{p:bA->Bool}{q:bA->Prop}[h:∀x,Ct Tryz.prog f (bA.d x::caps) (q x) (.bool (p x))](l:List bA):Ct Tryz.prog 198 [.sl 2 (l.map bA.d),.fn (.func f) caps] (D.aF caps=true/\Lm l/\∀x∈l,q x) (I (dw p l)):=by
 refine bm (fn:=Tryz.f198) [] [.tmp 4] fun pre=>?_;obtain⟨hp,hl,hq⟩:=pre;generalize hA:List.findIdx? p l=A;unfold dw;rw[hA];repeat' first|exact zQ|with_reducible refine zJ (fun _=>?_) fun _=>?_|refine zK ?_|fail
 refine pJ l hA 8 [(4,5),(8,18)] [] hl sG ?_ ?_
 ·intro j x τ β hx hj hw h8 hno;have hq:=hq x (List.mem_of_getElem? hx);repeat' first|exact zQ|with_reducible refine zJ (fun _=>?_) fun _=>?_|refine zK ?_|fail
  rw[hno.out (by assumption)];exact .refl _
 ·intro τ β hn h8 ha;subst ha;repeat' first|exact zQ|with_reducible refine zJ (fun _=>?_) fun _=>?_|refine zK ?_|fail
instance{p:bA->Bool}{q:bA->Prop}[h:∀x,Ct Tryz.prog f (bA.d x::caps) (q x) (.bool (p x))](l:List bA):Ct Tryz.prog 135 [.sl 2 (l.map bA.d),.fn (.func f) caps] (D.aF caps=true/\Lm l/\∀x∈l,q x) (.bool (l.any p)):=by
 refine bm (fn:=Tryz.f135) [] [.tmp 4] fun pre=>?_;obtain⟨hp,hl,hq⟩:=pre;rw[<-fR];repeat' first|exact zQ|with_reducible refine zJ (fun _=>?_) fun _=>?_|refine zK ?_|fail
instance{p:ah->Bool}{q:ah->Prop}[h:∀x,Ct Tryz.prog f (bj x::caps) (q x) (.bool (p x))](l:List ah):Ct Tryz.prog 199 [.sl 1 (l.map bj),.fn (.func f) caps] (D.aF caps=true/\Lm l/\∀x∈l,q x) (I (dw p l)):=by
 refine bm (fn:=Tryz.f199) [] [.tmp 4] fun pre=>?_;obtain⟨hp,hl,hq⟩:=pre;generalize hA:List.findIdx? p l=A;unfold dw;rw[hA];repeat' first|exact zQ|with_reducible refine zJ (fun _=>?_) fun _=>?_|refine zK ?_|fail
 refine pJ l hA 8 [(4,5),(8,18)] [] hl sG ?_ ?_
 ·intro j x τ β hx hj hw h8 hno;have hq:=hq x (List.mem_of_getElem? hx);repeat' first|exact zQ|with_reducible refine zJ (fun _=>?_) fun _=>?_|refine zK ?_|fail
  rw[hno.out (by assumption)];exact .refl _
 ·intro τ β hn h8 ha;subst ha;repeat' first|exact zQ|with_reducible refine zJ (fun _=>?_) fun _=>?_|refine zK ?_|fail
instance{p:ah->Bool}{q:ah->Prop}[h:∀x,Ct Tryz.prog f (bj x::caps) (q x) (.bool (p x))](l:List ah):Ct Tryz.prog 136 [.sl 1 (l.map bj),.fn (.func f) caps] (D.aF caps=true/\Lm l/\∀x∈l,q x) (.bool (l.any p)):=by
 refine bm (fn:=Tryz.f136) [] [.tmp 4] fun pre=>?_;obtain⟨hp,hl,hq⟩:=pre;rw[<-fR];repeat' first|exact zQ|with_reducible refine zJ (fun _=>?_) fun _=>?_|refine zK ?_|fail
end
instance(es:List D):Ct Tryz.prog 40 [.sl 8 es] True (.clp 8 es):=by
 refine bm (fn:=Tryz.f40) [] [.tmp 2] fun pre=>?_;repeat' first|exact zQ|with_reducible refine zJ (fun _=>?_) fun _=>?_|refine zK ?_|fail
 rw[List.take_length];exact .refl _
instance(es:List D):Ct Tryz.prog 81 [.sl 1 es] True (.clp 1 es):=by
 refine bm (fn:=Tryz.f81) [] [.tmp 2] fun pre=>?_;repeat' first|exact zQ|with_reducible refine zJ (fun _=>?_) fun _=>?_|refine zK ?_|fail
 rw[List.take_length];exact .refl _
instance(es:List D):Ct Tryz.prog 160 [.sl 2 es] True (.clp 2 es):=by
 refine bm (fn:=Tryz.f160) [] [.tmp 2] fun pre=>?_;repeat' first|exact zQ|with_reducible refine zJ (fun _=>?_) fun _=>?_|refine zK ?_|fail
 rw[List.take_length];exact .refl _
theorem c_.out{B sz el:Nat}{l:List D}{bx bx':ae}{d:D}(h:c_ B sz el l bx d bx')(hp:D.aF l=true):∃r,bf bx' d=some r/\bk r (.sl sz l):=by
 by_cases hl:l=[]
 ·subst hl;exact h.none.out rfl
 ·obtain⟨e,rfl,h2⟩:=h.own hl;exact(aW.mk (ts:=[B+7]) sI h2).out hp
theorem zu(B:Nat)(l:List D)(hl:l.length<=1048576)(bx:ae):aU Tryz.prog 82 0 [.sl 1 l] bx (c_ B 1 5 l bx) (fun _ _=>False):=by
 refine aG (fn:=Tryz.f82) (tab:=[(1000005,[])]) (base:=B) mixed ?_ rfl aj rfl;refine aH _ [.tmp 2] 8 rfl rfl rfl aj ?_;cases l with
 |nil=>
  simp(disch:=omega) only[go_sem,List.isEmpty_nil];refine⟨⟨.inl ⟨rfl,.nil _ _ _ _⟩,fun _ _=>rfl⟩,?_⟩;refine eY (ts:=[B+5]) (xs:=[]) (.inr ⟨B+5,(bx (B+5)).ep+1,by simp,rfl,by simp[ao]⟩) ?_;simp(disch:=omega) only[go_sem];exact⟨.inl ⟨rfl,.inr ⟨B+5,(bx (B+5)).ep+1,by simp,rfl,by simp[ao]⟩⟩,fun s hs=>by simp(disch:=omega) only[aA,if_neg]⟩
 |cons x l=>
  simp only[List.length_cons]at hl;simp(disch:=omega) only[go_sem,List.isEmpty_cons];refine eG (ts:=[B+5]) (xs:=[]) (.inr ⟨B+5,(bx (B+5)).ep+1,by simp,rfl,by simp[ao]⟩) sI sG (by simp;omega) oM oM sI fun e' bx' h1 h2=>?_;simp(disch:=omega) only[go_sem];refine⟨.inr ⟨by simp,e',by simp,by simpa using h1⟩,fun s hs=>?_⟩;rw[h2 s oM (by simp;omega)];simp(disch:=omega) only[aA,if_neg]
instance(es:List D):Ct Tryz.prog 82 [.sl 1 es] (es.length<=1048576/\D.aF es=true) (.sl 1 es):=⟨fun h=>(zu 0 es h.1 _).to (fun _ _ h=>h) fun d' bx' hc=>c_.out hc h.2⟩
theorem GR(B:Nat)(l:List D)(hl:l.length<=1048576)(bx:ae):aU Tryz.prog 218 0 [.sl 1 l] bx (c_ B 1 71 l bx) (fun _ _=>False):=by
 refine aG (fn:=Tryz.f218) (tab:=[(1000005,[])]) (base:=B) mixed ?_ rfl aj rfl;refine aH _ [.tmp 2] 8 rfl rfl rfl aj ?_;cases l with
 |nil=>
  simp(disch:=omega) only[go_sem,List.isEmpty_nil];refine⟨⟨.inl ⟨rfl,.nil _ _ _ _⟩,fun _ _=>rfl⟩,?_⟩;refine eY (ts:=[B+5]) (xs:=[]) (.inr ⟨B+5,(bx (B+5)).ep+1,by simp,rfl,by simp[ao]⟩) ?_;simp(disch:=omega) only[go_sem];exact⟨.inl ⟨rfl,.inr ⟨B+5,(bx (B+5)).ep+1,by simp,rfl,by simp[ao]⟩⟩,fun s hs=>by simp(disch:=omega) only[aA,if_neg]⟩
 |cons x l=>
  simp only[List.length_cons]at hl;simp(disch:=omega) only[go_sem,List.isEmpty_cons];refine eG (ts:=[B+5]) (xs:=[]) (.inr ⟨B+5,(bx (B+5)).ep+1,by simp,rfl,by simp[ao]⟩) sI sG (by simp;omega) oM oM sI fun e' bx' h1 h2=>?_;simp(disch:=omega) only[go_sem];refine⟨.inr ⟨by simp,e',by simp,by simpa using h1⟩,fun s hs=>?_⟩;rw[h2 s oM (by simp;omega)];simp(disch:=omega) only[aA,if_neg]
theorem GS(B:Nat)(l:List D)(hl:l.length<=1048576)(bx:ae):aU Tryz.prog 161 0 [.sl 2 l] bx (c_ B 2 144 l bx) (fun _ _=>False):=by
 refine aG (fn:=Tryz.f161) (tab:=[(1000005,[])]) (base:=B) mixed ?_ rfl aj rfl;refine aH _ [.tmp 2] 8 rfl rfl rfl aj ?_;cases l with
 |nil=>
  simp(disch:=omega) only[go_sem,List.isEmpty_nil];refine⟨⟨.inl ⟨rfl,.nil _ _ _ _⟩,fun _ _=>rfl⟩,?_⟩;refine eY (ts:=[B+5]) (xs:=[]) (.inr ⟨B+5,(bx (B+5)).ep+1,by simp,rfl,by simp[ao]⟩) ?_;simp(disch:=omega) only[go_sem];exact⟨.inl ⟨rfl,.inr ⟨B+5,(bx (B+5)).ep+1,by simp,rfl,by simp[ao]⟩⟩,fun s hs=>by simp(disch:=omega) only[aA,if_neg]⟩
 |cons x l=>
  simp only[List.length_cons]at hl;simp(disch:=omega) only[go_sem,List.isEmpty_cons];refine eG (ts:=[B+5]) (xs:=[]) (.inr ⟨B+5,(bx (B+5)).ep+1,by simp,rfl,by simp[ao]⟩) sI sG (by simp;omega) oM oM sI fun e' bx' h1 h2=>?_;simp(disch:=omega) only[go_sem];refine⟨.inr ⟨by simp,e',by simp,by simpa using h1⟩,fun s hs=>?_⟩;rw[h2 s oM (by simp;omega)];simp(disch:=omega) only[aA,if_neg]
instance(es:List D):Ct Tryz.prog 161 [.sl 2 es] (es.length<=1048576/\D.aF es=true) (.sl 2 es):=⟨fun h=>(GS 0 es h.1 _).to (fun _ _ h=>h) fun d' bx' hc=>c_.out hc h.2⟩
end Go.V.Jn
namespace Go.V.Jn
open Go.Proofs Go.RowKit Go.V.Lx Go.V.Gr Go.V.Ty Go.V.St
def er(s:ah)(j k n:Nat):ah:=s.take j++(be k n++s.drop (j+k))
@[go_sem] theorem qP{s:ah}{j k n:Nat}(h:j+k<=s.length):(er s j k n).length=s.length:=by simp[er,eu];omega
attribute [go_sem] sQ sP
def iJ(s:ah)(j:Nat)(b:ah):ah:=s.take j++(b++s.drop (j+b.length))
@[go_sem] theorem wU{s b:ah}{j:Nat}(h:j+b.length<=s.length):(iJ s j b).length=s.length:=by simp[iJ];omega
@[go_sem high] theorem Q3{X:ah}{i:Nat}(c:UInt8)(h:i+1<=X.length):dz (.agg (aV X)) i [.int .u8 (c.toNat:Int)]=some (.agg (aV (iJ X i [c]))):=by
 unfold dz;rw[if_pos (by simp[D.cells,aV];omega)];simp[iJ,aV]
@[go_sem] theorem TU(n:Nat)(b:ah)(h:b.length<=n):aV (b.take n)=aV b:=by rw[List.take_of_length_le h]
@[go_sem] theorem RR(s b:ah)(i:Nat):aV (List.take i s)++aV b++aV (List.drop (i+b.length) s)=aV (iJ s i b):=by simp[iJ,aV]
theorem A6{X:ah}{i:Nat}(c:UInt8)(h:i<X.length):dz (.agg (aV X)) i [.int .u8 (c.toNat:Int)]=some (.agg (aV (X.take i++c::X.drop (i+1)))):=by
 unfold dz;rw[if_pos (by simp[D.cells,aV];omega)];simp[aV]
theorem FZ{s:ah}{j k n i:Nat}(h:j+k<=s.length)(hi:i<k):let X:=er s (j+(k - i)) i n
 X.take (j+(k - 1 - i))++UInt8.ofNat (n / 256 ^ i)::X.drop (j+(k - 1 - i)+1)=er s (j+(k - (i+1))) (i+1) n:=by
 have e1:j+(k - 1 - i)+1=j+(k - i):=oM;have e2:j+(k - 1 - i)=j+(k - (i+1)):=oM;simp only[er,be];rw[e1,e2,List.take_append_of_le_length (by simp;omega),List.take_take,List.drop_append,List.drop_of_length_le (by simp;omega),List.nil_append,show min (j+(k - (i+1))) (j+(k - i))=j+(k - (i+1)) by omega]
 congr 1
 simp only[List.cons_append,List.length_take,List.cons.injEq,true_and];rw[show min (j+(k - i)) s.length=j+(k - i) by omega,Nat.sub_self,List.drop_zero]
 congr 2<;>omega
theorem Ik(n i:Nat)(h:i<8):IntKind.u8.wrap ((n:Int).fdiv (2 ^ min (8 * (i:Int)).toNat 64))=((UInt8.ofNat (n / 256 ^ i)).toNat:Int):=by
 have e:min (8 * (i:Int)).toNat 64=8 * i:=oM;rw[e,show(2:Int) ^ (8 * i)=((2 ^ (8 * i):Nat):Int) by simp,Int.fdiv_eq_ediv_of_nonneg _ (Int.natCast_nonneg _),Nat.pow_mul];rw[show((n:Int) / ((2 ^ 8) ^ i:Nat))=((n / 256 ^ i:Nat):Int) by simp];simp[IntKind.wrap,IntKind.signed,IntKind.bits]
theorem J5{α:Type}{t:Nat}{β σ:Nat->α}{v:α}(h:β t=v):aY [(t,t)] β σ=ao σ t v:=by
 funext q;rw[FJ,HJ];by_cases hq:q=t
 ·subst hq;simp[ao,h]
 ·simp only[ao,if_neg hq];split<;>first|rfl|(rw[if_neg oM])
theorem OY(e j k sz ty n:Nat)(s:ah)(bx:ae)(hb:bx 9=⟨e,1,sz,ty,[.agg (aV s)]⟩)(hj:j+k<=s.length)(hk:k<=8):
 aU Tryz.prog 162 35 [.csl 9 e 0 j k,.int .u64 n] bx (fun d bx'=>d= .tup []/\bx'=ao bx 9 ⟨e,1,sz,ty,[.agg (aV (er s j k n))]⟩) (fun _ _=>False):=by
 refine aG (fn:=Tryz.f162) (tab:=[]) (base:=35) mixed ?_ rfl aj rfl;refine aH _ [] 23 rfl rfl rfl aj ?_;repeat' first|exact zQ|with_reducible refine zJ (fun _=>?_) fun _=>?_|refine zK ?_|fail
 refine iN [(4,4),(7,22)] [(9,9)] k (fun i τ β=>τ 7=I i/\β 9=⟨e,1,sz,ty,[.agg (aV (er s (j+(k - i)) i n))]⟩) (by simp[go_sem,er,be,hb]) (fun i τ β hi hv=>?_) fun τ β hv=>?_
 ·obtain⟨h7,hT⟩:=hv;have h1:=A6 (UInt8.ofNat (n / 256 ^ i)) (X:=er s (j+(k - i)) i n) (i:=j+(k - 1 - i)) (by rw[qP oM];omega);rw[FZ hj hi]at h1;have h2:=Ik n i oM;have h3:((k:Int) - 1 - (i:Int)).toNat=k - 1 - i:=oM;have h4:(i:Int)<(k:Int):=oM;have h6:IntKind.i64.wrap ((i:Int)+1)=((i+1:Nat):Int):=aK oM;repeat' first|exact zQ|with_reducible refine zJ (fun _=>?_) fun _=>?_|refine zK ?_|fail
 ·obtain⟨h7,hT⟩:=hv;have h4:¬(k:Int)<(k:Int):=oM;rw[Nat.sub_self,Nat.add_zero]at hT;repeat' first|exact zQ|with_reducible refine zJ (fun _=>?_) fun _=>?_|refine zK ?_|fail
  exact J5 hT
def cb:ah:=List.replicate 128 0
@[go_sem] theorem mM:cb.length=128:=by simp[cb]
@[go_sem ↓] theorem T3:fw (ak Tryz.prog 236)=some (.agg (aV cb)):=by
 simp only[go_sem];rfl
theorem AO(s:ah)(j k n:Nat):er s j k n=iJ s j (be k n):=by simp[er,iJ,eu]
theorem lS{x y z y':ah}{j:Nat}(h:x.length=j)(h2:y.length=y'.length):iJ (x++(y++z)) j y'=x++(y'++z):=by
 subst h;simp[iJ,<-h2]
abbrev rep(n:Nat):ah:=List.replicate n 0
theorem IG{n:Nat}(h:n<=112):cb=[]++(rep 4++(rep 4++(rep 2++(rep 1++(rep 1++(rep n++(rep (112 - n)++rep 4))))))):=by
 unfold cb;simp only[List.nil_append,rep,List.replicate_append_replicate]
 congr 1
 omega
theorem Kk{g k:Nat}{kind:UInt8}{b S:ah}(hb:b.length<=112)(h:er (iJ (iJ (iJ (er (er cb 0 4 g) 8 2 k) 10 [kind]) 11 [UInt8.ofNat b.length]) 12 b) 124 4 g=S):
 er S 4 4 (zA ((S.drop 8).take 116))=dj g k kind b:=by
 have hS:S=be 4 g++(rep 4++(body k kind b++be 4 g)):=by
  subst h;simp only[AO];rw[IG hb,lS (x:=[]) (j:=0) rfl (by simp[eu]),List.nil_append];rw[show be 4 g++(rep 4++(rep 2++(rep 1++(rep 1++(rep b.length++(rep (112 - b.length)++rep 4))))))=(be 4 g++rep 4)++(rep 2++(rep 1++(rep 1++(rep b.length++(rep (112 - b.length)++rep 4))))) by simp only[List.append_assoc],lS (by simp[eu]) (by simp[eu])];rw[show(be 4 g++rep 4)++(be 2 k++(rep 1++(rep 1++(rep b.length++(rep (112 - b.length)++rep 4)))))=(be 4 g++rep 4++be 2 k)++(rep 1++(rep 1++(rep b.length++(rep (112 - b.length)++rep 4)))) by simp only[List.append_assoc],lS (by simp[eu]) sI];rw[show(be 4 g++rep 4++be 2 k)++([kind]++(rep 1++(rep b.length++(rep (112 - b.length)++rep 4))))=(be 4 g++rep 4++be 2 k++[kind])++(rep 1++(rep b.length++(rep (112 - b.length)++rep 4))) by simp only[List.append_assoc],lS (by simp[eu]) sI];rw[show(be 4 g++rep 4++be 2 k++[kind])++([UInt8.ofNat b.length]++(rep b.length++(rep (112 - b.length)++rep 4)))=(be 4 g++rep 4++be 2 k++[kind]++[UInt8.ofNat b.length])++(rep b.length++(rep (112 - b.length)++rep 4)) by simp only[List.append_assoc],lS (by simp[eu]) sI];rw[show(be 4 g++rep 4++be 2 k++[kind]++[UInt8.ofNat b.length])++(b++(rep (112 - b.length)++rep 4))=(be 4 g++rep 4++be 2 k++[kind]++[UInt8.ofNat b.length]++b++rep (112 - b.length))++(rep 4++[]) by simp only[List.append_assoc,List.append_nil],lS (by simp[eu];omega) (by simp[eu])];simp[body]
 have hB:=t_ (k:=k) (kind:=kind) hb;have h8:(S.drop 8).take 116=body k kind b:=by rw[hS,show be 4 g++(rep 4++(body k kind b++be 4 g))=(be 4 g++rep 4)++(body k kind b++be 4 g) by simp only[List.append_assoc],List.drop_left' (by simp[eu]),List.take_left' hB]
 rw[h8,hS,AO,lS (by simp[eu]) (by simp[eu])];rfl
theorem qm{e j k sz ty n:Nat}{s:ah}{bx:ae}{K:Cl->D->ae->Prop}{tab:List (Nat×List (Nat×Nat))}{yl:Option (List (List D)×Nat×Nat)}{pn df:Bool}{base:Nat}(hb:bx 9=⟨e,1,sz,ty,[.agg (aV s)]⟩)(hj:j+k<=s.length)(hk:k<=8)
 (h:K .wa (.tup []) (ao bx 9 ⟨e,1,sz,ty,[.agg (aV (er s j k n))]⟩)):dV ⟨bK Tryz.prog,tab,base,35,0,yl,pn,df⟩ 162 [.csl 9 e 0 j k,.int .u64 n] bx K:=
 aB (OY e j k sz ty n s bx hb hj hk) rfl fun d bx' hq=>by obtain⟨rfl,rfl⟩:=hq;exact h
instance(g k:Nat)(kind:UInt8)(b:ah):Ct Tryz.prog 100 [.int .u64 g,I k,.int .u8 kind.toNat,bj b] (b.length<=112/\k<65536) (bj (dj g k kind b)):=by
 refine bm (fn:=Tryz.f100) [(2000007,[])] [.tmp 8] fun pre=>?_;obtain⟨hb,hk⟩:=pre;have hkw:IntKind.u64.wrap (k:Int)=k:=dZ rfl (by simp[IntKind.bits];omega);have hlw:IntKind.u8.wrap (b.length:Int)=((UInt8.ofNat b.length).toNat:Int):=by rw[dZ rfl (by simp[IntKind.bits];omega)];simp;omega
 have l0:=mM;have hb2:12+b.length<=128:=oM;generalize hcc:UInt8.ofNat b.length=c at *;repeat' first|exact zQ|with_reducible refine zJ (fun _=>?_) fun _=>?_|refine zK ?_|fail
 have l1:(er cb 0 4 g).length=128:=by rw[qP oM];exact l0
 refine qm (s:=cb) rfl oM oM ?_;have l2:(er (er cb 0 4 g) 8 2 k).length=128:=by rw[qP oM];exact l1
 have l3:(iJ (er (er cb 0 4 g) 8 2 k) 10 [kind]).length=128:=by rw[wU (by simp;omega)];exact l2
 have l4:(iJ (iJ (er (er cb 0 4 g) 8 2 k) 10 [kind]) 11 [c]).length=128:=by rw[wU (by simp;omega)];exact l3
 repeat' first|exact zQ|with_reducible refine zJ (fun _=>?_) fun _=>?_|refine zK ?_|fail
 have l5:(iJ (iJ (iJ (er (er cb 0 4 g) 8 2 k) 10 [kind]) 11 [c]) 12 b).length=128:=by rw[wU oM];exact l4
 have l6:(er (iJ (iJ (iJ (er (er cb 0 4 g) 8 2 k) 10 [kind]) 11 [c]) 12 b) 124 4 g).length=128:=by rw[qP oM];exact l5
 refine qm rfl oM oM ?_;repeat' first|exact zQ|with_reducible refine zJ (fun _=>?_) fun _=>?_|refine zK ?_|fail
 refine qm rfl oM oM ?_;repeat' first|exact zQ|with_reducible refine zJ (fun _=>?_) fun _=>?_|refine zK ?_|fail
 generalize hS:er (iJ (iJ (iJ (er (er cb 0 4 g) 8 2 k) 10 [kind]) 11 [c]) 12 b) 124 4 g=S at *;have hc:=Ls ((S.drop 8).take 116);have hcw:IntKind.u64.wrap (zA ((S.drop 8).take 116):Int)=zA ((S.drop 8).take 116):=dZ rfl (by simp[IntKind.bits];omega);refine fQ (.light 0 (.light 1 (.both 2 [] (.light 3 (.both 4 [] .fin .stop)) .stop))) aj ?_;repeat' first|exact zQ|with_reducible refine zJ (fun _=>?_) fun _=>?_|refine zK ?_|fail
 refine Lq (ds':=[bj ((S.drop 8).take 116)]) (by simp[cg,bf,ao,lv,iB,D.cells,sP,sQ,mL,Bd,uE,l6]) ?_;repeat' first|exact zQ|with_reducible refine zJ (fun _=>?_) fun _=>?_|refine zK ?_|fail
 refine qm rfl oM oM ?_;repeat' first|exact zQ|with_reducible refine zJ (fun _=>?_) fun _=>?_|refine zK ?_|fail
 rw[Kk hb (by rw[hcc];exact hS)];have hl:=qY (g:=g) (k:=k) (kind:=kind) hb;generalize dj g k kind b=R at *;have ho:qF ⟨1,1,128,236,[.agg (aV R)]⟩ 1 0 0 128=some (bj R):=by simp[qF,lv,D.cells,sP,sQ,mL,Bd,uE,hl,List.take_of_length_le]
 rw[ho];exact .refl _
theorem Le(c:UInt8):ca .and .u8 (c.toNat:Int) 1=((c.toNat % 2:Nat):Int):=by rw[show(1:Int)=((1:Nat):Int)from rfl,oP .u8 rfl (by simpa[IntKind.bits]using c.toNat_lt),Nat.and_one_is_mod]
theorem Lf(c:UInt8):ca .and .u8 (c.toNat:Int) 2=((c.toNat / 2 % 2 * 2:Nat):Int):=by
 rw[show(2:Int)=((2:Nat):Int)from rfl,oP .u8 rfl (by simpa[IntKind.bits]using c.toNat_lt)];have:∀n<256,n&&& 2=n / 2 % 2 * 2:=by decide
 rw[this _ (by simpa using c.toNat_lt)]
theorem getD_some{s:ah}{j:Nat}(h:j<s.length):s[j]? =some (s.getD j 0):=by rw[List.getD_eq_getElem?_getD,List.getElem?_eq_getElem h];rfl
theorem Cn(s:ah)(k:Nat):fH s k=(decide ((s.getD 11 0).toNat<=112)&&decide ((s.getD 10 0).toNat<=3)&&(decide (2<=(s.getD 10 0).toNat)||decide ((s.getD 11 0).toNat=112))&&(decide ((s.getD 10 0).toNat % 2=1)||decide ((s.getD 11 0).toNat≠0))&&decide (0<gen s)&&(s==dj (gen s) k (s.getD 10 0) (piece s))):=rfl
set_option maxHeartbeats 2000000 in
instance(s:ah)(k:Nat):Ct Tryz.prog 139 [bj s,I k] (s.length=128/\k<65536) (.bool (fH s k)):=by
 refine bm (fn:=Tryz.f139) [] [.tmp 4] fun pre=>?_;obtain⟨hs,hk⟩:=pre;have h10:=getD_some (s:=s) (j:=10) oM;have h11:=getD_some (s:=s) (j:=11) oM;have e:=Cn s k;have hq:piece s=(s.drop 12).take (s.getD 11 0).toNat:=rfl;have hg:gen s=num (s.take 4):=rfl;have a1:=Le (s.getD 10 0);have a2:=Lf (s.getD 10 0);have hx:=(s.getD 11 0).toNat_lt;have hw:IntKind.i64.wrap ((s.getD 11 0).toNat:Int)=((s.getD 11 0).toNat:Int):=iL _ oM oM;generalize s.getD 10 0=a at *;generalize s.getD 11 0=b at *;replace e:Hid _:=e;have l4:(s.take 4).length<=8:=by simp;omega
 by_cases hb:b.toNat<=112
 ·have hp:(List.take b.toNat (s.drop 12)).length<=112:=by simp;omega
  have h5:(12:Int)+b.toNat<=128:=oM;have e2:(12+(b.toNat:Int)).toNat - 12=b.toNat:=oM;repeat' first|exact zQ|with_reducible refine zJ (fun _=>?_) fun _=>?_|refine zK ?_|fail
  all_goals first|(rw[e.out,hg,hq];refine ab (congrArg D.bool ?_);rw[Bool.eq_iff_iff];simp[*];try omega)|trace_state
 ·have hb':(112:Int)<b.toNat:=oM;repeat' first|exact zQ|with_reducible refine zJ (fun _=>?_) fun _=>?_|refine zK ?_|fail
  rw[e.out];simp[hb,ab]
instance(b:ah):Ct Tryz.prog 79 [bj b] (Lm b) (I ((max 1 ((b.length+111) / 112):Nat):Int)):=by
 refine bm (fn:=Tryz.f79) [] [.tmp 2] fun pre=>?_;have h:((b.length:Int)+112 - 1).tdiv 112=(((b.length+111) / 112:Nat):Int):=by rw[Int.tdiv_eq_ediv_of_nonneg oM];omega
 repeat' first|exact zQ|with_reducible refine zJ (fun _=>?_) fun _=>?_|refine zK ?_|fail
 exact ab (congrArg I oM)
end Go.V.Jn
