/- Plain laws: B20. -/
import Derived.Test.YtkgloohlmogakaaGreatDoorB19
set_option linter.all false
set_option maxHeartbeats 8000000
set_option maxRecDepth 100000
namespace Go.V.Jn
open Go.V.Lx Go.V.Gr
def be:Nat->Nat->ah
 |0,_=>[]
 |k+1,n=>UInt8.ofNat (n / 256 ^ k)::be k n
def num(l:ah):Nat:=l.foldl (fun n c=>256 * n+c.toNat) 0
theorem dz:∀(k n:Nat),(be k n).length=k
 |0,_=>rfl
 |k+1,n=>by simp[be,dz k n]
theorem HW:∀(l:ah) (a:Nat),l.foldl (fun n c=>256 * n+c.toNat) a=a * 256 ^ l.length+num l
 |[],a=>by simp[num]
 |c::l,a=>by
  unfold num;rw[List.foldl_cons,List.foldl_cons,HW l,HW l (256 * 0+c.toNat),List.length_cons,Nat.pow_succ,Nat.add_mul];have:256 * a * 256 ^ l.length=a * (256 ^ l.length * 256):=by rw[Nat.mul_comm 256 a,Nat.mul_assoc,Nat.mul_comm 256]
  rw[this];simp[Nat.add_assoc]
def BF(c:UInt8)(l:ah):num (c::l)=c.toNat * 256 ^ l.length+num l:=by
 show List.foldl _ _ _=_;rw[List.foldl_cons,HW];simp
theorem my:∀l:ah,num l<256 ^ l.length
 |[]=>by simp[num]
 |c::l=>by
  rw[BF,List.length_cons,Nat.pow_succ];have:=my l;have h2:c.toNat<256:=c.toNat_lt;have h3:c.toNat * 256 ^ l.length<=255 * 256 ^ l.length:=Nat.mul_le_mul_right _ oM;omega
theorem M0:∀(k n:Nat) {m:Nat},k<=m->be k (n % 256 ^ m)=be k n
 |0,n,m,h=>rfl
 |k+1,n,m,h=>by
  unfold be;rw[M0 k n oM]
  congr 1
  apply UInt8.toNat_inj.1;have e:256 ^ m=256 ^ k * 256 ^ (m - k):=by rw[<-Nat.pow_add];congr 1;omega
  rw[e,Nat.mod_mul_right_div_self];simp only[UInt8.toNat_ofNat',Nat.reducePow];have:256 ^ (m - k)=256 * 256 ^ (m - k - 1):=by rw[<-Nat.pow_succ'];congr 1;omega
  rw[this,Nat.mod_mul_right_mod]
theorem ud:∀(k n:Nat),num (be k n)=n % 256 ^ k
 |0,n=>by simp[be,num,Nat.mod_one]
 |k+1,n=>by
  rw[be,BF,dz,ud k n];simp only[UInt8.toNat_ofNat',Nat.reducePow];rw[Nat.pow_succ,Nat.mod_mul,Nat.mul_comm,Nat.add_comm]
theorem ym:∀(l:ah) {k:Nat},l.length=k->be k (num l)=l
 |[],k,h=>by subst h;rfl
 |c::l,k,h=>by
  subst h;rw[List.length_cons,be,BF]
  congr 1
  ·have:=my l;apply UInt8.toNat_inj.1;rw[Nat.mul_comm,Nat.mul_add_div oM,Nat.div_eq_of_lt this,Nat.add_zero];simp
  ·rw[<-M0 l.length _ (Nat.le_refl _),Nat.mul_comm,Nat.mul_add_mod,Nat.mod_eq_of_lt (my l)];exact ym l rfl
def gz(n:Nat):Nat:=if n % 2=1 then(n / 2) ^^^ 3988292384 else n / 2
def iT(n:Nat)(c:UInt8):Nat:=Nat.repeat gz 8 (n ^^^ c.toNat)
def pU(l:ah):Nat:=(l.foldl iT 4294967295) ^^^ 4294967295
def body(k:Nat)(kind:UInt8)(b:ah):ah:=be 2 k++(kind::UInt8.ofNat b.length::(b++List.replicate (112 - b.length) 0))
def dw(g k:Nat)(kind:UInt8)(b:ah):ah:=be 4 g++(be 4 (pU (body k kind b))++(body k kind b++be 4 g))
def tF{k:Nat}{kind:UInt8}{b:ah}(h:b.length<=112):(body k kind b).length=116:=by simp[body,dz];omega
def xD{g k:Nat}{kind:UInt8}{b:ah}(h:b.length<=112):(dw g k kind b).length=128:=by simp[dw,dz,tF h]
def sF(s:ah):Nat:=(s.getD 10 0).toNat
def bT(s:ah):Nat:=(s.getD 11 0).toNat
def gen(s:ah):Nat:=num (s.take 4)
def piece(s:ah):ah:=(s.drop 12).take (bT s)
def sP(s:ah):Bool:=decide (bT s<=112)&&decide (sF s<=3)&&(decide (2<=sF s)||decide (bT s=112))&&(decide (sF s % 2=1)||decide (bT s≠0))&&decide (0<gen s)
def gH(s:ah)(k:Nat):Bool:=sP s&&(s==dw (gen s) k (s.getD 10 0) (piece s))
def Cw{n:Nat}(h:n<4294967296):gz n<4294967296:=by
 unfold gz;split
 ·exact Nat.xor_lt_two_pow (n:=32) oM (by decide)
 ·omega
def Cv{n:Nat}{c:UInt8}(h:n<4294967296):iT n c<4294967296:=by
 unfold iT;have:n ^^^ c.toNat<4294967296:=Nat.xor_lt_two_pow (n:=32) h (by have:=c.toNat_lt;omega);generalize n ^^^ c.toNat=m at this;have:∀k m,m<4294967296->Nat.repeat gz k m<4294967296:=by
  intro k;induction k with
  |zero=>intro m h;exact h
  |succ k ih=>intro m h;exact Cw (ih m h)
 exact this 8 m ‹_›
def GI(l:ah):pU l<4294967296:=by
 have:∀(l:ah) n,n<4294967296->l.foldl iT n<4294967296:=by
  intro l;induction l with
  |nil=>intro n h;exact h
  |cons c l ih=>intro n h;exact ih _ (Cv h)
 exact Nat.xor_lt_two_pow (n:=32) (this l _ (by decide)) (by decide)
def Qn{s:ah}{k:Nat}(hs:s.length=128)(hf:sP s=true)(hk:k<65536):
 (s==dw (gen s) k (s.getD 10 0) (piece s))=(decide (gen s=num (s.drop 124))&&decide (num ((s.drop 4).take 4)=pU ((s.drop 8).take 116))&&decide (num ((s.drop 8).take 2)=k)&&(s.drop (12+bT s)).take (112 - bT s)==List.replicate (112 - bT s) 0):=by
 have hc:bT s<=112:=by simp[sP]at hf;omega
 have hp:(piece s).length=bT s:=by simp[piece];omega
 have e1:s=s.take 4++((s.drop 4).take 4++((s.drop 8).take 116++s.drop 124)):=by
  have a1:s.drop 8=(s.drop 8).take 116++s.drop 124:=by
   conv=>lhs;rw[<-List.take_append_drop 116 (s.drop 8)]
   rw[List.drop_drop]
  have a2:s.drop 4=(s.drop 4).take 4++s.drop 8:=by
   conv=>lhs;rw[<-List.take_append_drop 4 (s.drop 4)]
   rw[List.drop_drop]
  conv=>lhs;rw[<-List.take_append_drop 4 s,a2,a1]
 have e2:(s.drop 8).take 116=(s.drop 8).take 2++(s.getD 10 0::s.getD 11 0::(piece s++(s.drop (12+bT s)).take (112 - bT s))):=by
  have a1:(s.drop 8).take 116=(s.drop 8).take 2++(s.drop 10).take 114:=by rw[show(116:Nat)=2+114 from rfl,List.take_add,List.drop_drop]
  have a2:(s.drop 10).take 114=s.getD 10 0::(s.drop 11).take 113:=by rw[List.drop_eq_getElem_cons oM,List.take_succ_cons,List.getD_eq_getElem?_getD,gE oM,Option.getD_some]
  have a3:(s.drop 11).take 113=s.getD 11 0::(s.drop 12).take 112:=by rw[List.drop_eq_getElem_cons oM,List.take_succ_cons,List.getD_eq_getElem?_getD,gE oM,Option.getD_some]
  have a4:(s.drop 12).take 112=piece s++(s.drop (12+bT s)).take (112 - bT s):=by
   unfold piece
   conv=>lhs;rw[show(112:Nat)=bT s+(112 - bT s) by omega,List.take_add,List.drop_drop]
  rw[a1,a2,a3,a4]
 have l1:(s.take 4).length=4:=by simp;omega
 have l2:((s.drop 4).take 4).length=4:=by simp;omega
 have l3:((s.drop 8).take 116).length=116:=by simp;omega
 have l4:(s.drop 124).length=4:=by simp;omega
 have l5:((s.drop 8).take 2).length=2:=by simp;omega
 have aeK:UInt8.ofNat (piece s).length=s.getD 11 0:=by rw[hp];apply UInt8.toNat_inj.1;simp[bT]
 rw[Bool.eq_iff_iff];simp only[bA,beq_iff_eq,decide_eq_true_eq];constructor
 ·intro h;have h0:=h;unfold dw at h;have hb:(body k (s.getD 10 0) (piece s)).length=116:=tF oM
  conv at h=>lhs;rw[e1]
  obtain⟨h1,h⟩:=List.append_inj h (by rw[l1,dz]);obtain⟨h2,h⟩:=List.append_inj h (by rw[l2,dz]);obtain⟨h3,h4⟩:=List.append_inj h (by rw[l3,hb]);have h5:=h3;rw[e2]at h5;unfold body at h5;obtain⟨h6,h7⟩:=List.append_inj h5 (by rw[l5,dz]);simp only[List.cons.injEq]at h7;have h8:=List.append_cancel_left h7.2.2;refine⟨⟨⟨?_,?_⟩,?_⟩,?_⟩
  ·rw[h4,ud];exact(Nat.mod_eq_of_lt (by have:=my (s.take 4);rw[l1]at this;exact this)).symm
  ·rw[h3,h2,ud];exact Nat.mod_eq_of_lt (GI _)
  ·rw[h6,ud];exact Nat.mod_eq_of_lt hk
  ·rw[h8,hp]
 ·rintro⟨⟨⟨h1,h2⟩,h3⟩,h4⟩;have hb:(s.drop 8).take 116=body k (s.getD 10 0) (piece s):=by
   rw[e2,h4];unfold body;rw[aeK,hp,<-h3,ym _ l5]
  have g1:s.take 4=be 4 (gen s):=(ym _ l1).symm;have g2:s.drop 124=be 4 (gen s):=by rw[h1];exact(ym _ l4).symm
  conv=>lhs;rw[e1]
  unfold dw;rw[<-hb,<-h2,ym _ l2,g1,g2]
def eA(u:Nat):ah:=if u<128 then[UInt8.ofNat u]else UInt8.ofNat (u % 128+128)::eA (u / 128)
termination_by u
decreasing_by omega
def xf{u:Nat}(h:u<128):eA u=[UInt8.ofNat u]:=by rw[eA,if_pos h]
def BE{u:Nat}(h:¬u<128):eA u=UInt8.ofNat (u % 128+128)::eA (u / 128):=by rw[eA,if_neg h]
theorem HV:∀(k:Nat) {u:Nat},u<128 ^ (k+1)->(eA u).length<=k+1
 |0,u,h=>by rw[eA,if_pos (by simpa using h)];simp
 |k+1,u,h=>by
  rw[eA];split
  ·simp
  ·have:=HV k (u:=u / 128) (by rw[Nat.div_lt_iff_lt_mul oM];rw[Nat.pow_succ]at h;exact h);simp;omega
def rZ(n:Int):Nat:=if 0<=n then 2 * n.toNat else 2 * (-(n+1)).toNat+1
inductive aU where
 |i (n:Int)
 |t (s:ah)
 |l (xs:List aU)
mutual
def cr:aU->ah
 | .i n=>1::eA (rZ n)
 | .t s=>2::(eA s.length++s)
 | .l xs=>3::(eA xs.length++dW xs)
def dW:List aU->ah
 |[]=>[]
 |x::xs=>cr x++dW xs
end
mutual
def e_:aU->Nat
 | .l xs=>fb xs+1
 |_=>0
def fb:List aU->Nat
 |[]=>0
 |x::xs=>max (e_ x) (fb xs)
end
theorem wR:∀xs ys:List aU,dW (xs++ys)=dW xs++dW ys
 |[],ys=>rfl
 |x::xs,ys=>by simp[dW,wR xs ys]
theorem Bo:∀xs ys:List aU,fb (xs++ys)=max (fb xs) (fb ys)
 |[],ys=>by simp[fb]
 |x::xs,ys=>by simp[fb,Bo xs ys]
theorem PV{xs:List aU}{x:aU}(h:x∈xs):e_ x<=fb xs:=by
 induction xs with
 |nil=>cases h
 |cons y xs ih=>
  rcases List.mem_cons.1 h with rfl|h
  ·simp[fb];omega
  ·have:=ih h;simp[fb];omega
def H_{a b i:Nat}(h:a<2 ^ i):a|||b * 2 ^ i=a+b * 2 ^ i:=by rw[Nat.or_comm,<-Nat.shiftLeft_eq,<-Nat.shiftLeft_add_eq_or_of_lt h,Nat.add_comm]
def XU(i:Nat):128 ^ i=2 ^ (7 * i):=by rw[Nat.pow_mul]
def DP{n:Int}(h1: -9223372036854775808<=n)(h2:n<=9223372036854775807):rZ n<18446744073709551616:=by unfold rZ;split<;>omega
def dn(l:List ah)(at_ last:Nat):Nat->Nat->ah->Option (ah×Nat)
 |0,_,_=>none
 |f+1,n,acc=>match l[n]? with
  |none=>none
  |some s=>if(gH s n&&(decide (sF s % 2=1)==decide (n=at_))&&decide (gen s=gen (l.getD at_ []))&&decide (last<=gen s))=true then
   (if 2<=sF s then some (acc++piece s,n+1)else dn l at_ last f (n+1) (acc++piece s))else none
theorem xx(l:List ah)(at_ last:Nat):∀(f n:Nat) (acc:ah),dn l at_ last f n acc=if gen (l.getD at_ [])<last then none else dn l at_ 0 f n acc
 |0,n,acc=>by simp[dn]
 |f+1,n,acc=>by
  unfold dn;cases hs:l[n]? with
  |none=>simp
  |some s=>
   simp only[xx l at_ last f];generalize gen (l.getD at_ [])=G;by_cases h:gen s=G
   ·rw[h];by_cases h2:G<last
    ·have:¬last<=G:=oM;simp[h2,this]
    ·have:last<=G:=oM;simp[h2,this]
   ·simp[h]
theorem nK{l:List ah}{at_ last:Nat}:∀ {f n:Nat} {acc:ah} {r:ah×Nat},dn l at_ last f n acc=some r->n<r.2/\r.2<=l.length
 |0,n,acc,r,h=>by simp[dn]at h
 |f+1,n,acc,r,h=>by
  unfold dn at h;cases hs:l[n]? with
  |none=>rw[hs]at h;cases h
  |some s=>
   have hn:=(gS.1 hs).1;rw[hs]at h;simp only at h;split at h
   ·split at h
    ·injection h with h;subst h;simp;omega
    ·have:=nK h;omega
   ·cases h
def lS(l:List ah):Nat->Nat->Nat->List (ah×Nat)
 |0,_,_=>[]
 |f+1,at_,last=>match dn l at_ last (l.length - at_) at_ []with
  |none=>[]
  |some (b,n)=>(b,n)::lS l f n (gen (l.getD at_ []))
def jC(l:List ah):List (ah×Nat):=lS l l.length 0 0
end Go.V.Jn
namespace Go.V.Jn
open Go.Proofs Go.RowKit Go.V.Lx Go.V.Gr Go.V.St
def yq(w a:Nat):(BitVec.ofInt w (a:Int)).toNat=a % 2 ^ w:=by simp
def cU{k:IntKind}(hk:k.signed=false){a:Nat}(ha:a<2 ^ k.bits):k.wrap (a:Int)=a:=by cases k<;>simp[IntKind.signed]at hk<;>simp[IntKind.wrap,IntKind.signed,IntKind.bits]at ha⊢ <;>omega
def wF(k:IntKind)(hk:k.signed=false){a b:Nat}(ha:a<2 ^ k.bits):du .and k a b=((a&&& b:Nat):Int):=by
 have h:a&&& b<2 ^ k.bits:=Nat.lt_of_le_of_lt Nat.and_le_left ha;simp only[du,BitVec.toNat_and,yq,Nat.mod_eq_of_lt ha];have e:a&&& b % 2 ^ k.bits=a&&& b:=by rw[<-Nat.mod_eq_of_lt h,Nat.and_mod_two_pow,Nat.mod_eq_of_lt ha]
 rw[e];exact cU hk h
def Q2(k:IntKind)(hk:k.signed=false){a b:Nat}(ha:a<2 ^ k.bits)(hb:b<2 ^ k.bits):du .or k a b=((a|||b:Nat):Int):=by
 simp only[du,BitVec.toNat_or,yq,Nat.mod_eq_of_lt ha,Nat.mod_eq_of_lt hb];exact cU hk (Nat.or_lt_two_pow ha hb)
def vp(k:IntKind)(hk:k.signed=false){a b:Nat}(ha:a<2 ^ k.bits)(hb:b<2 ^ k.bits):du .xor k a b=((a ^^^ b:Nat):Int):=by
 simp only[du,BitVec.toNat_xor,yq,Nat.mod_eq_of_lt ha,Nat.mod_eq_of_lt hb];exact cU hk (Nat.xor_lt_two_pow ha hb)
def Tk(a:Nat):a&&& 127=a % 128:=by have:=Nat.and_two_pow_sub_one_eq_mod a 7;simpa using this
@[reducible] def aT(s:ah):D:=.sl 1 (aB s)
@[go_sem] def uv(s:ah):(aB s).length=s.length:=by simp[aB]
@[go_sem] def lX(s:ah):D.aF (aB s)=true:=Ik (fun _=>rfl) s
@[go_sem] def IV(s:ah):(aB s).all D.one=true:=by simp[aB,D.one]
def Rr{s:ah}{j:Nat}{x:UInt8}(h:s[j]? =some x):(aB s)[j]? =some (.int .u8 (x.toNat:Int)):=by simp[aB,h]
@[go_sem] def agP:aB []=[]:=rfl
def eD(a b:ah):aB (a++b)=aB a++aB b:=by simp[aB]
def zT(n:Nat)(s:ah):(aB s).take n=aB (s.take n):=by simp[aB]
def zS(n:Nat)(s:ah):(aB s).drop n=aB (s.drop n):=by simp[aB]
structure bE where
 at_:Int
 data:ah
 deriving DecidableEq
@[reducible] def bE.d(x:bE):D:=.agg [I x.at_,aT x.data]
structure bV where
 a_:List ah
 br:List bE
 left:Int
 stop:Bool
 deriving DecidableEq
@[reducible] def bV.l(x:bV):List D:=[.sl 1 (x.a_.map aT),.sl 2 (x.br.map bE.d),I x.left,.bool x.stop]
@[reducible] def bV.d(x:bV):D:=.agg x.l
structure gy where
 bJ:List ah
 many:Int
 sync:Int
 deriving DecidableEq
@[reducible] def gy.l(x:gy):List D:=[.sl 1 (x.bJ.map aT),I x.many,I x.sync]
@[reducible] def gy.d(x:gy):D:=.agg x.l
end Go.V.Jn
namespace Go.V.Jn
open Go.Proofs Go.Proofs.Tryz Go.RowKit Go.V.Lx Go.V.Gr Go.V.St
@[go_sem] def adI(s:ah)(j:Nat):(aB s)[j]? =(s[j]?).map fun b=> .int .u8 (b.toNat:Int):=by simp[aB]
@[go_sem] theorem Ja:∀s:ah,ji (aB s)=some s
 |[]=>rfl
 |c::s=>by
  show ji (.int .u8 (c.toNat:Int)::aB s)=_;rw[ji,Ja s];simp
instance(a b:ah):Ct 52 [aT a,aT b] True (.bool (a==b)):=by
 refine bf f52 [] [.tmp 4] fun pre=>?_;repeat' first|exact zQ|with_reducible apply zJ<;>intro _|refine zK ?_
 exact ab (by rw[Bool.beq_eq_decide_eq])
def I4{k:IntKind}(hk:k.signed=false)(c:UInt8):k.wrap (c.toNat:Int)=c.toNat:=cU hk (by have:=c.toNat_lt;cases k<;>simp[IntKind.signed]at hk<;>simp[IntKind.bits]<;>omega)
def HX{s:ah}{j:Nat}{x:UInt8}(h:s[j]? =some x):num (s.take (j+1))=256 * num (s.take j)+x.toNat:=by rw[List.take_add_one,h];simp[num,List.foldl_append]
def Qj{n:Nat}(c:UInt8)(h:n<2 ^ 56):du .or .u64 (IntKind.u64.wrap ((n:Int) * 2 ^ min 8 64)) (IntKind.u64.wrap (c.toNat:Int))=((256 * n+c.toNat:Nat):Int):=by
 have hc:=c.toNat_lt;have e:IntKind.u64.wrap ((n:Int) * 2 ^ min 8 64)=((n * 2 ^ 8:Nat):Int):=by
  rw[show((n:Int) * 2 ^ min 8 64)=((n * 2 ^ 8:Nat):Int) by simp];exact cU rfl (by simp[IntKind.bits];omega)
 rw[e,I4 rfl,Q2 .u64 rfl (by simp[IntKind.bits];omega) (by simp[IntKind.bits];omega),Nat.or_comm,H_ oM]
 congr 1;omega
instance(s:ah):Ct 98 [aT s] (s.length<=8) (.int .u64 (num s)):=by
 refine bf f98 [] [.tmp 2] fun pre=>?_;repeat' first|exact zQ|with_reducible apply zJ<;>intro _|refine zK ?_
 refine bW s [(2,2),(4,4),(7,16)] [] (fun j τ _=>τ 7=I j/\τ 2= .int .u64 (num (s.take j))) (by simp[Lm];omega) (by simp[go_sem,num]) (fun j x τ β hx hj hw hi=>?_) fun τ β hn hi=>?_
 ·obtain⟨hi,h2⟩:=hi;have hb:=my (s.take j);have qC:(256:Nat) ^ (s.take j).length<=256 ^ 7:=Nat.pow_le_pow_right oM (by simp;omega);have hs:=Qj x (n:=num (s.take j)) oM;have qF:=HX hx;repeat' first|exact zQ|with_reducible apply zJ<;>intro _|refine zK ?_
 ·obtain⟨hi,h2⟩:=hi;repeat' first|exact zQ|with_reducible apply zJ<;>intro _|refine zK ?_
  rw[tL];exact .refl _
def PR{m:Nat}(h:m<4294967296):du .xor .u32 ((m:Int).fdiv (2 ^ min 1 32)) (IntKind.u32.wrap (3988292384 * du .and .u32 (m:Int) 1))=(gz m:Int):=by
 have e1:(m:Int).fdiv (2 ^ min 1 32)=((m / 2:Nat):Int):=by rw[show(2:Int) ^ min 1 32=((2:Nat):Int) by rfl,Int.fdiv_eq_ediv_of_nonneg _ oM];rfl
 have e2:du .and .u32 (m:Int) 1=((m % 2:Nat):Int):=by rw[show(1:Int)=((1:Nat):Int)from rfl,wF .u32 rfl (by simpa[IntKind.bits]using h),Nat.and_one_is_mod]
 rw[e1,e2];unfold gz;split
 ·rename_i h1;rw[h1,show(3988292384:Int) * ((1:Nat):Int)=((3988292384:Nat):Int) by rfl,cU rfl (by simp[IntKind.bits]),vp .u32 rfl (by simp[IntKind.bits];omega) (by simp[IntKind.bits])]
 ·have h1:m % 2=0:=oM;rw[h1,show(3988292384:Int) * ((0:Nat):Int)=((0:Nat):Int) by rfl,cU rfl (by simp[IntKind.bits]),vp .u32 rfl (by simp[IntKind.bits];omega) (by simp[IntKind.bits])];simp
theorem IB{m:Nat}(h:m<4294967296):∀k,Nat.repeat gz k m<4294967296
 |0=>h
 |k+1=>Cw (IB h k)
def Np{n:Nat}(c:UInt8)(h:n<4294967296):du .xor .u32 (n:Int) (IntKind.u32.wrap (c.toNat:Int))=((n ^^^ c.toNat:Nat):Int):=by
 have hc:=c.toNat_lt;rw[I4 rfl,vp .u32 rfl (by simpa[IntKind.bits]using h) (by simp[IntKind.bits];omega)]
def Pf{n:Nat}(c:UInt8)(h:n<4294967296):n ^^^ c.toNat<4294967296:=Nat.xor_lt_two_pow (n:=32) h (by have:=c.toNat_lt;omega)
theorem vO:∀(l:ah) {n:Nat},n<4294967296->l.foldl iT n<4294967296
 |[],n,h=>h
 |c::l,n,h=>vO l (Cv h)
def EU{s:ah}{j:Nat}{x:UInt8}{n:Nat}(h:s[j]? =some x):(s.take (j+1)).foldl iT n=Nat.repeat gz 8 ((s.take j).foldl iT n ^^^ x.toNat):=by rw[List.take_add_one,h];simp[List.foldl_append,iT]
def Tv{n:Nat}(h:n<4294967296):du .xor .u32 (IntKind.u32.max) (n:Int)=((n ^^^ 4294967295:Nat):Int):=by rw[show IntKind.u32.max=((4294967295:Nat):Int)from rfl,vp .u32 rfl (by simp[IntKind.bits]) (by simpa[IntKind.bits]using h),Nat.xor_comm]
instance(s:ah):Ct 163 [aT s] (Lm s) (.int .u32 (pU s)):=by
 refine bf f163 [] [.tmp 2] fun pre=>?_;repeat' first|exact zQ|with_reducible apply zJ<;>intro _|refine zK ?_
 refine bW s [(3,3),(5,5),(8,25)] [] (fun j τ _=>τ 8=I j/\τ 3= .int .u32 ((s.take j).foldl iT 4294967295:Nat)) pre sG (fun j x τ β hx hj hw hi=>?_) fun τ β hn hi=>?_
 ·obtain⟨hi,h2⟩:=hi;have hl:=vO (s.take j) (n:=4294967295) oM;have hs:=Np x hl;have qF:=EU (n:=4294967295) hx;have lA:=Pf x hl;generalize(s.take j).foldl iT 4294967295=m at *;repeat' first|exact zQ|with_reducible apply zJ<;>intro _|refine zK ?_
  refine iS [(3,3),(16,24)] [] 8 (fun k τ _=>τ 16=I k/\τ 3= .int .u32 (Nat.repeat gz k (m ^^^ x.toNat):Nat)) (by simp[go_sem,hs,Nat.repeat]) (fun k τ' β' hk fU=>?_) fun τ' β' fU=>?_
  ·obtain⟨fU,h3⟩:=fU;have bz:=PR (IB lA k);have bR:(k:Int)<8:=oM;have hZ:IntKind.i64.wrap ((k:Int)+1)=((k+1:Nat):Int):=aE oM;repeat' first|exact zQ|with_reducible apply zJ<;>intro _|refine zK ?_
   rfl
  ·obtain⟨fU,h3⟩:=fU;have fU:τ' 16=I 8:=fU;have h8:¬((8:Nat):Int)<8:=by decide
   repeat' first|exact zQ|with_reducible apply zJ<;>intro _|refine zK ?_
 ·obtain⟨hi,h2⟩:=hi;have ho:=Tv (vO s (n:=4294967295) oM);rw[tL]at h2;repeat' first|exact zQ|with_reducible apply zJ<;>intro _|refine zK ?_
  simp only[IntKind.signed,Bool.false_eq_true,if_false,ho];exact .refl _
end Go.V.Jn
namespace Go.V.Jn
open Go.Proofs Go.Proofs.Tryz Go.RowKit Go.V.Lx Go.V.Gr Go.V.Ty Go.V.St
section
variable {f:Nat} {caps:List D}
instance{p:bE->Bool}{q:bE->Prop}[h:∀x,Ct f (bE.d x::caps) (q x) (.bool (p x))](l:List bE):Ct 198 [.sl 2 (l.map bE.d),.fn (.func f) caps] (D.aF caps=true/\Lm l/\∀x∈l,q x) (I (fk p l)):=by
 refine bf f198 [] [.tmp 4] fun pre=>?_;obtain⟨hp,hl,hq⟩:=pre;generalize hA:List.findIdx? p l=A;unfold fk;rw[hA];repeat' first|exact zQ|with_reducible apply zJ<;>intro _|refine zK ?_
 refine vL l hA 8 [(4,5),(8,18)] [] hl sG ?_ ?_
 ·intro j x τ β hx hj hw h8 aQ;have hq:=hq x (mG hx);repeat' first|exact zQ|with_reducible apply zJ<;>intro _|refine zK ?_
  rw[aQ.out (by assumption)];exact .refl _
 ·intro τ β hn h8 ha;subst ha;repeat' first|exact zQ|with_reducible apply zJ<;>intro _|refine zK ?_
instance{p:bE->Bool}{q:bE->Prop}[h:∀x,Ct f (bE.d x::caps) (q x) (.bool (p x))](l:List bE):Ct 135 [.sl 2 (l.map bE.d),.fn (.func f) caps] (D.aF caps=true/\Lm l/\∀x∈l,q x) (.bool (l.any p)):=by
 refine bf f135 [] [.tmp 4] fun pre=>?_;obtain⟨hp,hl,hq⟩:=pre;rw[<-jK];repeat' first|exact zQ|with_reducible apply zJ<;>intro _|refine zK ?_
instance{p:ah->Bool}{q:ah->Prop}[h:∀x,Ct f (aT x::caps) (q x) (.bool (p x))](l:List ah):Ct 199 [.sl 1 (l.map aT),.fn (.func f) caps] (D.aF caps=true/\Lm l/\∀x∈l,q x) (I (fk p l)):=by
 refine bf f199 [] [.tmp 4] fun pre=>?_;obtain⟨hp,hl,hq⟩:=pre;generalize hA:List.findIdx? p l=A;unfold fk;rw[hA];repeat' first|exact zQ|with_reducible apply zJ<;>intro _|refine zK ?_
 refine vL l hA 8 [(4,5),(8,18)] [] hl sG ?_ ?_
 ·intro j x τ β hx hj hw h8 aQ;have hq:=hq x (mG hx);repeat' first|exact zQ|with_reducible apply zJ<;>intro _|refine zK ?_
  rw[aQ.out (by assumption)];exact .refl _
 ·intro τ β hn h8 ha;subst ha;repeat' first|exact zQ|with_reducible apply zJ<;>intro _|refine zK ?_
instance{p:ah->Bool}{q:ah->Prop}[h:∀x,Ct f (aT x::caps) (q x) (.bool (p x))](l:List ah):Ct 136 [.sl 1 (l.map aT),.fn (.func f) caps] (D.aF caps=true/\Lm l/\∀x∈l,q x) (.bool (l.any p)):=by
 refine bf f136 [] [.tmp 4] fun pre=>?_;obtain⟨hp,hl,hq⟩:=pre;rw[<-jK];repeat' first|exact zQ|with_reducible apply zJ<;>intro _|refine zK ?_
end
instance(es:List D):Ct 40 [.sl 8 es] True (.ij 8 es):=by
 refine bf f40 [] [.tmp 2] fun pre=>?_;repeat' first|exact zQ|with_reducible apply zJ<;>intro _|refine zK ?_
 rw[tL];exact .refl _
instance(es:List D):Ct 81 [.sl 1 es] True (.ij 1 es):=by
 refine bf f81 [] [.tmp 2] fun pre=>?_;repeat' first|exact zQ|with_reducible apply zJ<;>intro _|refine zK ?_
 rw[tL];exact .refl _
instance(es:List D):Ct 160 [.sl 2 es] True (.ij 2 es):=by
 refine bf f160 [] [.tmp 2] fun pre=>?_;repeat' first|exact zQ|with_reducible apply zJ<;>intro _|refine zK ?_
 rw[tL];exact .refl _
theorem eV.out{B sz el:Nat}{l:List D}{bx bx':ae}{d:D}(h:eV B sz el l bx d bx')(hp:D.aF l=true):∃r,bD bx' d=some r/\bN r (.sl sz l):=by
 by_cases hl:l=[]
 ·subst hl;exact h.none.out rfl
 ·obtain⟨e,rfl,h2⟩:=h.own hl;exact(aS.mk (ts:=[B+7]) sI h2).out hp
def GD(B:Nat)(l:List D)(hl:l.length<=1048576)(bx:ae):bj prog 82 0 [.sl 1 l] bx (eV B 1 5 l bx) (fun _ _=>False):=by
 refine aK (fn:=f82) (tab:=[(1000005,[])]) (base:=B) mixed ?_ rfl ak rfl;refine aL _ [.tmp 2] 8 rfl rfl rfl ak ?_;cases l with
 |nil=>
  simp(disch:=omega) only[go_sem,List.isEmpty_nil];refine⟨⟨.inl ⟨rfl,.nil _ _ _ _⟩,fun _ _=>rfl⟩,?_⟩;refine iD (ts:=[B+5]) (xs:=[]) (.inr ⟨B+5,(bx (B+5)).ep+1,by simp,rfl,by simp[aj]⟩) ?_;simp(disch:=omega) only[go_sem];exact⟨.inl ⟨rfl,.inr ⟨B+5,(bx (B+5)).ep+1,by simp,rfl,by simp[aj]⟩⟩,fun s hs=>by simp(disch:=omega) only[aD,if_neg]⟩
 |cons x l=>
  simp only[List.length_cons]at hl;simp(disch:=omega) only[go_sem,List.isEmpty_cons];refine eJ (ts:=[B+5]) (xs:=[]) (.inr ⟨B+5,(bx (B+5)).ep+1,by simp,rfl,by simp[aj]⟩) sI sG (by simp;omega) oM oM sI fun e' bx' h1 h2=>?_;simp(disch:=omega) only[go_sem];refine⟨.inr ⟨by simp,e',by simp,by simpa using h1⟩,fun s hs=>?_⟩;rw[h2 s oM (by simp;omega)];simp(disch:=omega) only[aD,if_neg]
instance(es:List D):Ct 82 [.sl 1 es] (es.length<=1048576/\D.aF es=true) (.sl 1 es):=⟨fun h=>(GD 0 es h.1 _).to (fun _ _ h=>h) fun d' bx' hc=>eV.out hc h.2⟩
def PH(B:Nat)(l:List D)(hl:l.length<=1048576)(bx:ae):bj prog 218 0 [.sl 1 l] bx (eV B 1 71 l bx) (fun _ _=>False):=by
 refine aK (fn:=f218) (tab:=[(1000005,[])]) (base:=B) mixed ?_ rfl ak rfl;refine aL _ [.tmp 2] 8 rfl rfl rfl ak ?_;cases l with
 |nil=>
  simp(disch:=omega) only[go_sem,List.isEmpty_nil];refine⟨⟨.inl ⟨rfl,.nil _ _ _ _⟩,fun _ _=>rfl⟩,?_⟩;refine iD (ts:=[B+5]) (xs:=[]) (.inr ⟨B+5,(bx (B+5)).ep+1,by simp,rfl,by simp[aj]⟩) ?_;simp(disch:=omega) only[go_sem];exact⟨.inl ⟨rfl,.inr ⟨B+5,(bx (B+5)).ep+1,by simp,rfl,by simp[aj]⟩⟩,fun s hs=>by simp(disch:=omega) only[aD,if_neg]⟩
 |cons x l=>
  simp only[List.length_cons]at hl;simp(disch:=omega) only[go_sem,List.isEmpty_cons];refine eJ (ts:=[B+5]) (xs:=[]) (.inr ⟨B+5,(bx (B+5)).ep+1,by simp,rfl,by simp[aj]⟩) sI sG (by simp;omega) oM oM sI fun e' bx' h1 h2=>?_;simp(disch:=omega) only[go_sem];refine⟨.inr ⟨by simp,e',by simp,by simpa using h1⟩,fun s hs=>?_⟩;rw[h2 s oM (by simp;omega)];simp(disch:=omega) only[aD,if_neg]
def PI(B:Nat)(l:List D)(hl:l.length<=1048576)(bx:ae):bj prog 161 0 [.sl 2 l] bx (eV B 2 144 l bx) (fun _ _=>False):=by
 refine aK (fn:=f161) (tab:=[(1000005,[])]) (base:=B) mixed ?_ rfl ak rfl;refine aL _ [.tmp 2] 8 rfl rfl rfl ak ?_;cases l with
 |nil=>
  simp(disch:=omega) only[go_sem,List.isEmpty_nil];refine⟨⟨.inl ⟨rfl,.nil _ _ _ _⟩,fun _ _=>rfl⟩,?_⟩;refine iD (ts:=[B+5]) (xs:=[]) (.inr ⟨B+5,(bx (B+5)).ep+1,by simp,rfl,by simp[aj]⟩) ?_;simp(disch:=omega) only[go_sem];exact⟨.inl ⟨rfl,.inr ⟨B+5,(bx (B+5)).ep+1,by simp,rfl,by simp[aj]⟩⟩,fun s hs=>by simp(disch:=omega) only[aD,if_neg]⟩
 |cons x l=>
  simp only[List.length_cons]at hl;simp(disch:=omega) only[go_sem,List.isEmpty_cons];refine eJ (ts:=[B+5]) (xs:=[]) (.inr ⟨B+5,(bx (B+5)).ep+1,by simp,rfl,by simp[aj]⟩) sI sG (by simp;omega) oM oM sI fun e' bx' h1 h2=>?_;simp(disch:=omega) only[go_sem];refine⟨.inr ⟨by simp,e',by simp,by simpa using h1⟩,fun s hs=>?_⟩;rw[h2 s oM (by simp;omega)];simp(disch:=omega) only[aD,if_neg]
instance(es:List D):Ct 161 [.sl 2 es] (es.length<=1048576/\D.aF es=true) (.sl 2 es):=⟨fun h=>(PI 0 es h.1 _).to (fun _ _ h=>h) fun d' bx' hc=>eV.out hc h.2⟩
end Go.V.Jn
namespace Go.V.Jn
open Go.Proofs Go.Proofs.Tryz Go.RowKit Go.V.Lx Go.V.Gr Go.V.Ty Go.V.St
def gx(s:ah)(j k n:Nat):ah:=s.take j++(be k n++s.drop (j+k))
@[go_sem] def xu{s:ah}{j k n:Nat}(h:j+k<=s.length):(gx s j k n).length=s.length:=by simp[gx,dz];omega
attribute [go_sem] zT zS
def mz(s:ah)(j:Nat)(b:ah):ah:=s.take j++(b++s.drop (j+b.length))
@[go_sem] def Ee{s b:ah}{j:Nat}(h:j+b.length<=s.length):(mz s j b).length=s.length:=by simp[mz];omega
@[go_sem high] def adv{X:ah}{i:Nat}(c:UInt8)(h:i+1<=X.length):fl (.agg (aB X)) i [.int .u8 (c.toNat:Int)]=some (.agg (aB (mz X i [c]))):=by
 unfold fl;rw[if_pos (by simp[D.cells,aB];omega)];simp[mz,aB]
@[go_sem] def agO(n:Nat)(b:ah)(h:b.length<=n):aB (b.take n)=aB b:=by rw[List.take_of_length_le h]
@[go_sem] def aej(s b:ah)(i:Nat):aB (List.take i s)++aB b++aB (List.drop (i+b.length) s)=aB (mz s i b):=by simp[mz,aB]
def IJ{X:ah}{i:Nat}(c:UInt8)(h:i<X.length):fl (.agg (aB X)) i [.int .u8 (c.toNat:Int)]=some (.agg (aB (X.take i++c::X.drop (i+1)))):=by
 unfold fl;rw[if_pos (by simp[D.cells,aB];omega)];simp[aB]
def OO{s:ah}{j k n i:Nat}(h:j+k<=s.length)(hi:i<k):let X:=gx s (j+(k - i)) i n
 X.take (j+(k - 1 - i))++UInt8.ofNat (n / 256 ^ i)::X.drop (j+(k - 1 - i)+1)=gx s (j+(k - (i+1))) (i+1) n:=by
 have e1:j+(k - 1 - i)+1=j+(k - i):=oM;have e2:j+(k - 1 - i)=j+(k - (i+1)):=oM;simp only[gx,be];rw[e1,e2,List.take_append_of_le_length (by simp;omega),List.take_take,List.drop_append,List.drop_of_length_le (by simp;omega),List.nil_append,show min (j+(k - (i+1))) (j+(k - i))=j+(k - (i+1)) by omega]
 congr 1
 simp only[List.cons_append,List.length_take,List.cons.injEq,true_and];rw[show min (j+(k - i)) s.length=j+(k - i) by omega,Nat.sub_self,List.drop_zero]
 congr 2<;>omega
def Ro(n i:Nat)(h:i<8):IntKind.u8.wrap ((n:Int).fdiv (2 ^ min (8 * (i:Int)).toNat 64))=((UInt8.ofNat (n / 256 ^ i)).toNat:Int):=by
 have e:min (8 * (i:Int)).toNat 64=8 * i:=oM;rw[e,show(2:Int) ^ (8 * i)=((2 ^ (8 * i):Nat):Int) by simp,Int.fdiv_eq_ediv_of_nonneg _ (Int.natCast_nonneg _),Nat.pow_mul];rw[show((n:Int) / ((2 ^ 8) ^ i:Nat))=((n / 256 ^ i:Nat):Int) by simp];simp[IntKind.wrap,IntKind.signed,IntKind.bits]
def T8{α:Type}{t:Nat}{β σ:Nat->α}{v:α}(h:β t=v):bc [(t,t)] β σ=aj σ t v:=by
 funext q;rw[Ow,QX];by_cases hq:q=t
 ·subst hq;simp[aj,h]
 ·simp only[aj,if_neg hq];split<;>first|rfl|(rw[if_neg oM])
def aas(e j k sz ty n:Nat)(s:ah)(bx:ae)(hb:bx 9=⟨e,1,sz,ty,[.agg (aB s)]⟩)(hj:j+k<=s.length)(hk:k<=8):
 bj prog 162 35 [.fJ 9 e 0 j k,.int .u64 n] bx (fun d bx'=>d= .aI []/\bx'=aj bx 9 ⟨e,1,sz,ty,[.agg (aB (gx s j k n))]⟩) (fun _ _=>False):=by
 refine aK (fn:=f162) (tab:=[]) (base:=35) mixed ?_ rfl ak rfl;refine aL _ [] 23 rfl rfl rfl ak ?_;repeat' first|exact zQ|with_reducible apply zJ<;>intro _|refine zK ?_
 refine iS [(4,4),(7,22)] [(9,9)] k (fun i τ β=>τ 7=I i/\β 9=⟨e,1,sz,ty,[.agg (aB (gx s (j+(k - i)) i n))]⟩) (by simp[go_sem,gx,be,hb]) (fun i τ β hi hv=>?_) fun τ β hv=>?_
 ·obtain⟨h7,hT⟩:=hv;have h1:=IJ (UInt8.ofNat (n / 256 ^ i)) (X:=gx s (j+(k - i)) i n) (i:=j+(k - 1 - i)) (by rw[xu oM];omega);rw[OO hj hi]at h1;have h2:=Ro n i oM;have h3:((k:Int) - 1 - (i:Int)).toNat=k - 1 - i:=oM;have h4:(i:Int)<(k:Int):=oM;have h6:IntKind.i64.wrap ((i:Int)+1)=((i+1:Nat):Int):=aE oM;repeat' first|exact zQ|with_reducible apply zJ<;>intro _|refine zK ?_
 ·obtain⟨h7,hT⟩:=hv;have h4:¬(k:Int)<(k:Int):=oM;rw[Nat.sub_self,Nat.add_zero]at hT;repeat' first|exact zQ|with_reducible apply zJ<;>intro _|refine zK ?_
  exact T8 hT
def dD:ah:=List.replicate 128 0
@[go_sem] def rY:dD.length=128:=by simp[dD]
@[go_sem ↓] def agY:jb (an prog 236)=some (.agg (aB dD)):=by
 simp only[go_sem];rfl
def Io(s:ah)(j k n:Nat):gx s j k n=mz s j (be k n):=by simp[gx,mz,dz]
def qW{x y z y':ah}{j:Nat}(h:x.length=j)(h2:y.length=y'.length):mz (x++(y++z)) j y'=x++(y'++z):=by
 subst h;simp[mz,<-h2]
abbrev rep(n:Nat):ah:=List.replicate n 0
def RR{n:Nat}(h:n<=112):dD=[]++(rep 4++(rep 4++(rep 2++(rep 1++(rep 1++(rep n++(rep (112 - n)++rep 4))))))):=by
 unfold dD;simp only[List.nil_append,rep,List.replicate_append_replicate]
 congr 1
 omega
def Un{g k:Nat}{kind:UInt8}{b S:ah}(hb:b.length<=112)(h:gx (mz (mz (mz (gx (gx dD 0 4 g) 8 2 k) 10 [kind]) 11 [UInt8.ofNat b.length]) 12 b) 124 4 g=S):
 gx S 4 4 (pU ((S.drop 8).take 116))=dw g k kind b:=by
 have hS:S=be 4 g++(rep 4++(body k kind b++be 4 g)):=by
  subst h;simp only[Io];rw[RR hb,qW (x:=[]) (j:=0) rfl (by simp[dz]),List.nil_append];rw[show be 4 g++(rep 4++(rep 2++(rep 1++(rep 1++(rep b.length++(rep (112 - b.length)++rep 4))))))=(be 4 g++rep 4)++(rep 2++(rep 1++(rep 1++(rep b.length++(rep (112 - b.length)++rep 4))))) by simp only[List.append_assoc],qW (by simp[dz]) (by simp[dz])];rw[show(be 4 g++rep 4)++(be 2 k++(rep 1++(rep 1++(rep b.length++(rep (112 - b.length)++rep 4)))))=(be 4 g++rep 4++be 2 k)++(rep 1++(rep 1++(rep b.length++(rep (112 - b.length)++rep 4)))) by simp only[List.append_assoc],qW (by simp[dz]) sI];rw[show(be 4 g++rep 4++be 2 k)++([kind]++(rep 1++(rep b.length++(rep (112 - b.length)++rep 4))))=(be 4 g++rep 4++be 2 k++[kind])++(rep 1++(rep b.length++(rep (112 - b.length)++rep 4))) by simp only[List.append_assoc],qW (by simp[dz]) sI];rw[show(be 4 g++rep 4++be 2 k++[kind])++([UInt8.ofNat b.length]++(rep b.length++(rep (112 - b.length)++rep 4)))=(be 4 g++rep 4++be 2 k++[kind]++[UInt8.ofNat b.length])++(rep b.length++(rep (112 - b.length)++rep 4)) by simp only[List.append_assoc],qW (by simp[dz]) sI];rw[show(be 4 g++rep 4++be 2 k++[kind]++[UInt8.ofNat b.length])++(b++(rep (112 - b.length)++rep 4))=(be 4 g++rep 4++be 2 k++[kind]++[UInt8.ofNat b.length]++b++rep (112 - b.length))++(rep 4++[]) by simp only[List.append_assoc,List.append_nil],qW (by simp[dz];omega) (by simp[dz])];simp[body]
 have hB:=tF (k:=k) (kind:=kind) hb;have h8:(S.drop 8).take 116=body k kind b:=by rw[hS,show be 4 g++(rep 4++(body k kind b++be 4 g))=(be 4 g++rep 4)++(body k kind b++be 4 g) by simp only[List.append_assoc],List.drop_left' (by simp[dz]),List.take_left' hB]
 rw[h8,hS,Io,qW (by simp[dz]) (by simp[dz])];rfl
def wK{e j k sz ty n:Nat}{s:ah}{bx:ae}{K:Cl->D->ae->Prop}{tab:List (Nat×List (Nat×Nat))}{yl:Option (List (List D)×Nat×Nat)}{pn df:Bool}{base:Nat}(hb:bx 9=⟨e,1,sz,ty,[.agg (aB s)]⟩)(hj:j+k<=s.length)(hk:k<=8)
 (h:K .wa (.aI []) (aj bx 9 ⟨e,1,sz,ty,[.agg (aB (gx s j k n))]⟩)):fD ⟨cJ prog,tab,base,35,0,yl,pn,df⟩ 162 [.fJ 9 e 0 j k,.int .u64 n] bx K:=
 aC (aas e j k sz ty n s bx hb hj hk) rfl fun d bx' hq=>by obtain⟨rfl,rfl⟩:=hq;exact h
instance(g k:Nat)(kind:UInt8)(b:ah):Ct 100 [.int .u64 g,I k,.int .u8 kind.toNat,aT b] (b.length<=112/\k<65536) (aT (dw g k kind b)):=by
 refine bf f100 [(2000007,[])] [.tmp 8] fun pre=>?_;obtain⟨hb,hk⟩:=pre;have hkw:IntKind.u64.wrap (k:Int)=k:=cU rfl (by simp[IntKind.bits];omega);have sA:IntKind.u8.wrap (b.length:Int)=((UInt8.ofNat b.length).toNat:Int):=by rw[cU rfl (by simp[IntKind.bits];omega)];simp;omega
 have l0:=rY;have qC:12+b.length<=128:=oM;generalize jn:UInt8.ofNat b.length=c at *;repeat' first|exact zQ|with_reducible apply zJ<;>intro _|refine zK ?_
 have l1:(gx dD 0 4 g).length=128:=by rw[xu oM];exact l0
 refine wK (s:=dD) rfl oM oM ?_;have l2:(gx (gx dD 0 4 g) 8 2 k).length=128:=by rw[xu oM];exact l1
 have l3:(mz (gx (gx dD 0 4 g) 8 2 k) 10 [kind]).length=128:=by rw[Ee (by simp;omega)];exact l2
 have l4:(mz (mz (gx (gx dD 0 4 g) 8 2 k) 10 [kind]) 11 [c]).length=128:=by rw[Ee (by simp;omega)];exact l3
 repeat' first|exact zQ|with_reducible apply zJ<;>intro _|refine zK ?_
 have l5:(mz (mz (mz (gx (gx dD 0 4 g) 8 2 k) 10 [kind]) 11 [c]) 12 b).length=128:=by rw[Ee oM];exact l4
 have l6:(gx (mz (mz (mz (gx (gx dD 0 4 g) 8 2 k) 10 [kind]) 11 [c]) 12 b) 124 4 g).length=128:=by rw[xu oM];exact l5
 refine wK rfl oM oM ?_;repeat' first|exact zQ|with_reducible apply zJ<;>intro _|refine zK ?_
 refine wK rfl oM oM ?_;repeat' first|exact zQ|with_reducible apply zJ<;>intro _|refine zK ?_
 generalize hS:gx (mz (mz (mz (gx (gx dD 0 4 g) 8 2 k) 10 [kind]) 11 [c]) 12 b) 124 4 g=S at *;have hc:=GI ((S.drop 8).take 116);have hcw:IntKind.u64.wrap (pU ((S.drop 8).take 116):Int)=pU ((S.drop 8).take 116):=cU rfl (by simp[IntKind.bits];omega);refine gY (.aY 0 (.aY 1 (.both 2 [] (.aY 3 (.both 4 [] .fin .stop)) .stop))) ak ?_;repeat' first|exact zQ|with_reducible apply zJ<;>intro _|refine zK ?_
 refine Vy (ds':=[aT ((S.drop 8).take 116)]) (by simp[cY,bD,aj,lv,lD,D.cells,zS,zT,lX,IV,uv,l6]) ?_;repeat' first|exact zQ|with_reducible apply zJ<;>intro _|refine zK ?_
 refine wK rfl oM oM ?_;repeat' first|exact zQ|with_reducible apply zJ<;>intro _|refine zK ?_
 rw[Un hb (by rw[jn];exact hS)];have hl:=xD (g:=g) (k:=k) (kind:=kind) hb;generalize dw g k kind b=R at *;have ho:BG ⟨1,1,128,236,[.agg (aB R)]⟩ 1 0 0 128=some (aT R):=by simp[BG,lv,D.cells,zS,zT,lX,IV,uv,hl,List.take_of_length_le]
 rw[ho];exact .refl _
def Vd(c:UInt8):du .and .u8 (c.toNat:Int) 1=((c.toNat % 2:Nat):Int):=by rw[show(1:Int)=((1:Nat):Int)from rfl,wF .u8 rfl (by simpa[IntKind.bits]using c.toNat_lt),Nat.and_one_is_mod]
def Ve(c:UInt8):du .and .u8 (c.toNat:Int) 2=((c.toNat / 2 % 2 * 2:Nat):Int):=by
 rw[show(2:Int)=((2:Nat):Int)from rfl,wF .u8 rfl (by simpa[IntKind.bits]using c.toNat_lt)];have:∀n<256,n&&& 2=n / 2 % 2 * 2:=by decide
 rw[this _ (by simpa using c.toNat_lt)]
def getD_some{s:ah}{j:Nat}(h:j<s.length):s[j]? =some (s.getD j 0):=by rw[List.getD_eq_getElem?_getD,gE h];rfl
def D5(s:ah)(k:Nat):gH s k=(decide ((s.getD 11 0).toNat<=112)&&decide ((s.getD 10 0).toNat<=3)&&(decide (2<=(s.getD 10 0).toNat)||decide ((s.getD 11 0).toNat=112))&&(decide ((s.getD 10 0).toNat % 2=1)||decide ((s.getD 11 0).toNat≠0))&&decide (0<gen s)&&(s==dw (gen s) k (s.getD 10 0) (piece s))):=rfl
instance(s:ah)(k:Nat):Ct 139 [aT s,I k] (s.length=128/\k<65536) (.bool (gH s k)):=by
 refine bf f139 [] [.tmp 4] fun pre=>?_;obtain⟨hs,hk⟩:=pre;have iU:=getD_some (s:=s) (j:=10) oM;have sq:=getD_some (s:=s) (j:=11) oM;have e:=D5 s k;have hq:piece s=(s.drop 12).take (s.getD 11 0).toNat:=rfl;have hg:gen s=num (s.take 4):=rfl;have a1:=Vd (s.getD 10 0);have a2:=Ve (s.getD 10 0);have hx:=(s.getD 11 0).toNat_lt;have hw:IntKind.i64.wrap ((s.getD 11 0).toNat:Int)=((s.getD 11 0).toNat:Int):=gp _ oM oM;generalize s.getD 10 0=a at *;generalize s.getD 11 0=b at *;replace e:Hid _:=e;have l4:(s.take 4).length<=8:=by simp;omega
 by_cases hb:b.toNat<=112
 ·have hp:(List.take b.toNat (s.drop 12)).length<=112:=by simp;omega
  have h5:(12:Int)+b.toNat<=128:=oM;have e2:(12+(b.toNat:Int)).toNat - 12=b.toNat:=oM;repeat' first|exact zQ|with_reducible apply zJ<;>intro _|refine zK ?_
  all_goals first|(rw[e.out,hg,hq];refine ab (congrArg D.bool ?_);rw[Bool.eq_iff_iff];simp[*];try omega)|trace_state
 ·have eo:(112:Int)<b.toNat:=oM;repeat' first|exact zQ|with_reducible apply zJ<;>intro _|refine zK ?_
  rw[e.out];simp[hb,ab]
instance(b:ah):Ct 79 [aT b] (Lm b) (I ((max 1 ((b.length+111) / 112):Nat):Int)):=by
 refine bf f79 [] [.tmp 2] fun pre=>?_;have h:((b.length:Int)+112 - 1).tdiv 112=(((b.length+111) / 112:Nat):Int):=by rw[Int.tdiv_eq_ediv_of_nonneg oM];omega
 repeat' first|exact zQ|with_reducible apply zJ<;>intro _|refine zK ?_
 exact ab (congrArg I oM)
def bm(b:ah):Nat:=max 1 ((b.length+111) / 112)
def aV(l:List ah):Nat:=(l.map bm).sum
def um(b:ah):1<=bm b:=by unfold bm;omega
def vk{l:List ah}{j:Nat}{x:ah}(h:l[j]? =some x):aV (l.take (j+1))=aV (l.take j)+bm x:=by rw[List.take_add_one,h];simp[aV]
def nP(l:List ah)(j:Nat):aV (l.take j)<=aV l:=by
 have:aV l=aV (l.take j)+aV (l.drop j):=by rw[aV,aV,aV,<-List.sum_append,<-List.map_append,List.take_append_drop]
 omega
theorem lr(l:List ah):l.length<=aV l:=by
 induction l with
 |nil=>simp[aV]
 |cons b l ih=>have:=um b;simp[aV]at *;omega
theorem xJ{l:List ah}{b:ah}(h:b∈l):b.length<=112 * aV l:=by
 induction l with
 |nil=>cases h
 |cons c l ih=>
  rcases List.mem_cons.1 h with rfl|h
  ·simp only[aV,mC,List.sum_cons,bm];omega
  ·have:=ih h;simp only[aV,mC,List.sum_cons]at *;omega
abbrev pK(l:List ah):Prop:=aV l<=1099511627776
instance (priority:=high)(b:ah):Ct 79 [aT b] (Lm b) (I (bm b)):=by unfold bm;infer_instance
instance(l:List ah):Ct 80 [.sl 1 (l.map aT)] (pK l) (I (aV l)):=by
 refine bf f80 [] [.tmp 2] fun pre=>?_;have hl:=lr l;repeat' first|exact zQ|with_reducible apply zJ<;>intro _|refine zK ?_
 refine bW l [(2,2),(4,4),(7,15)] [] (fun j τ _=>τ 7=I j/\τ 2=I (aV (l.take j))) (by simp[Lm];omega) (by simp[go_sem,aV]) (fun j x τ β hx hj hw hi=>?_) fun τ β hn hi=>?_
 ·obtain⟨h7,h2⟩:=hi;have h3:=xJ (mG hx);have h4:=vk hx;have h5:=nP l (j+1);have h6:Lm x:=by simp[Lm];omega
  have h8:IntKind.i64.wrap ((aV (l.take j):Int)+(bm x:Int))=(aV (l.take (j+1)):Int):=by rw[gp _ oM oM];omega
  repeat' first|exact zQ|with_reducible apply zJ<;>intro _|refine zK ?_
 ·obtain⟨h7,h2⟩:=hi;rw[tL]at h2;repeat' first|exact zQ|with_reducible apply zJ<;>intro _|refine zK ?_
def ko(j:gy):Bool:=decide (1<=j.many)&&decide (j.many<=4096)&&decide (0<=j.sync)&&decide (j.sync<=j.bJ.length)&&decide ((aV j.bJ:Int)<=j.many)
instance afn(j:gy):Ct 48 [j.d] (pK j.bJ) (I (if ko j then 0 else 1)):=by
 refine bf f48 [(1,[(4,2)])] [.tmp 2] fun pre=>?_;unfold ko;repeat' first|exact zQ|with_reducible apply zJ<;>intro _|refine zK ?_
 all_goals (refine ab (congrArg I ?_);first|(rw[if_neg (by simp[*];try omega)];done)|(rw[if_pos (by simp[*];try omega)];done)|trace_state)
def Bf(bx:ae)(t el esz:Nat)(x:D)(xs:List D):Prop:=(xs=[]/\x= .aq)\/(xs≠[]/\∃e,x= .bp t e esz 0 xs.length/\bx t=⟨e,1,esz,el,xs⟩)
theorem Bf.nil(bx:ae)(t el esz:Nat):Bf bx t el esz .aq []:=.inl ⟨rfl,rfl⟩
theorem Bf.v{bx:ae}{t el esz:Nat}{x:D}{xs:List D}(h:Bf bx t el esz x xs):aS bx [t] el esz x xs:=by
 rcases h with⟨rfl,rfl⟩|⟨_,e,rfl,h⟩
 ·exact .nil _ _ _ _
 ·exact .mk sI h
def ad0{bx:ae}{lo:Nat}{T:TypeId->TI}{e esz b size d:Nat}{ag ag':Bool}{z:List D}{x:D}{xs ys:List D}{K2:D×ae->Prop}(hx:Bf bx d e esz x xs)
 (hk:∀x' β,Bf (bc [(d,d)] β bx) d e esz x' (xs++ys)->K2 (x',bc [(d,d)] β bx)) (h1:(xs.length+ys.length) * b<=140737488355328) (hz:(T e).zero.length=esz:=by simp[go_sem])
 (bH:lo<=d:=by omega) (h2:0<esz:=by omega) (h3:0<b:=by omega):
 aM (fN lo T ⟨.slice e esz b ag,size,ag',z⟩ (some d) bx x ys) K2:=by
 by_cases hy:ys=[]
 ·subst hy;refine iD hx.v ?_;have:=hk x bx (by simpa[rP]using hx);rwa[rP]at this
 ·refine eJ hx.v hy hz h1 h2 h3 (by simpa using bH) fun e' bx' hb hf=>?_;have hm:bc [(d,d)] bx' bx=bx':=(di.mix fun s hs=>hf s (fun h=>by simp[dA,h]at hs) (fun h=>by simp at h;simp[dA,h]at hs)).symm;have:=hk (.bp d e' esz 0 (xs++ys).length) bx' (.inr ⟨by simp[hy],e',rfl,by rw[hm];exact hb⟩);rwa[hm]at this
@[go_sem] def ahp{σ:Env}{bx:ae}(lo t:Nat)(h:t<1000000000)(hl:0<lo):vz lo t σ bx=if HN lo (σ t)=true then(bD bx (σ t)).map fun v=>(aj σ t v,ey bx (σ t))else none:=by
 have:¬lo=0:=oM;simp[vz,en,h,this]
@[go_sem] def afB(lo:Nat):HN lo .aq=true:=rfl
@[go_sem] def afC(lo s e z o n:Nat):HN lo (.bp s e z o n)=decide (lo<=s):=rfl
@[go_sem] def af9(e ty:Nat)(s:ah):oH ⟨e,1,1,ty,aB s⟩ e 1 0 s.length=some (.sl 1 (aB s)):=ej _ _ _ _ _ _ (by decide) (by simp[aB]) (lX s)
def ot(b:ah):D:=if b=[]then .aq else aT b
def Ml(p:ah×Nat):List D:=[I p.2,ot p.1]
def qY{l:List ah}{at_ last f n:Nat}{acc s:ah}(h:l[n]? =some s):dn l at_ last (f+1) n acc=if(gH s n&&(decide (sF s % 2=1)==decide (n=at_))&&decide (gen s=gen (l.getD at_ []))&&decide (last<=gen s))=true then
 (if 2<=sF s then some (acc++piece s,n+1)else dn l at_ last f (n+1) (acc++piece s))else none:=by
 rw[dn,h]
theorem kY{l:List ah}{f at_ last:Nat}:lS l (f+1) at_ last=match dn l at_ last (l.length - at_) at_ []with
 |none=>[]
 |some (b,n)=>(b,n)::lS l f n (gen (l.getD at_ [])):=rfl
theorem KH{l:List ah}{f at_ last n:Nat}{acc:ah}(h:l.length<=n):dn l at_ last f n acc=none:=by
 cases f with
 |zero=>rfl
 |succ f=>rw[dn,List.getElem?_eq_none h]
abbrev A6(l:List ah):Prop:=l.length<=65535/\∀s∈l,s.length=128
def Mn(l:List ah)(h:A6 l):R8 prog (cJ prog) [(4000010,[(3,74)]),(6,[(15,14),(15,11)])] f138 [.cG (.sl 1 (l.map aT)) 0] ((jC l).map Ml):=by
 obtain⟨hl,hs⟩:=h;refine NC _ 77 rfl rfl rfl ak ?_;intro gs yl bx hk hz;repeat' first|exact zQ|with_reducible apply zJ<;>intro _|refine zK ?_
 refine yt (0,0,l.length,0) (fun g:Nat×Nat×Nat×Nat=>l.length - g.1) [(3,76)] (fun g τ β=>τ 3=I g.1/\τ 4= .int .u64 g.2.1/\(β gs).sz=g.2.2.2/\(β gs).k=0/\(jC l).drop g.2.2.2=lS l g.2.2.1 g.1 g.2.1/\g.1<=l.length/\l.length<=g.1+g.2.2.1) ⟨by simp[go_sem],by simp[go_sem],hz,hk,rfl,by simp,by simp⟩ ?_;rintro⟨a,last,f,m⟩ τ β ⟨h3,h4,hz,hk,hr,ha,hf⟩;simp only at h3 h4 hz hk hr ha hf;have aQ:dn l a last (l.length - a) a []=none->(jC l).length<=m:=fun h=>by
  cases f with
  |zero=>rw[lS]at hr;simpa using hr
  |succ f=>rw[kY,h]at hr;simpa using hr
 repeat' first|exact zQ|with_reducible apply zJ<;>intro _|refine zK ?_
 refine yt (a,([]:ah)) (fun g:Nat×ah=>l.length - g.1) [(3,7),(9,76)] (fun g τ β=>τ 3=I a/\τ 4= .int .u64 last/\τ 6=I g.1/\Bf β (gs+1+61) 5 1 (τ 5) (aB g.2)/\(β gs).sz=m/\(β gs).k=0/\a<=g.1/\g.1<=l.length/\g.2.length<=128 * g.1/\dn l a last (l.length - a) a []=dn l a last (l.length - g.1) g.1 g.2) ⟨by simp[go_sem,h3],by simp[go_sem,h4],by simp[go_sem],by simp[go_sem];exact .nil _ _ _ _,hz,hk,Nat.le_refl _,ha,by simp,rfl⟩ ?_;rintro⟨n,acc⟩ τ' β' ⟨G6,h4',h6,hv,SK,cW,han,hn,mK,hg⟩;simp only at G6 h4' h6 hv SK cW han hn mK hg;generalize Fe:τ' 5=v5 at *;have hf5:=hv.v.facts;by_cases AV:n<l.length
 ·obtain⟨s,hx⟩:∃s,l[n]? =some s:=⟨_,gE AV⟩
  obtain⟨sa,wb⟩:∃s,l[a]? =some s:=⟨_,gE oM⟩
  have mr:=hs s (mG hx);have CY:=hs sa (mG wb);have bz:=qY (at_:=a) (last:=last) (f:=l.length - n - 1) (acc:=acc) hx;rw[show l.length - n - 1+1=l.length - n by omega,<-hg,show l.getD a []=sa by rw[List.getD_eq_getElem?_getD,wb];rfl]at bz;have iU:=getD_some (s:=s) (j:=10) oM;have sq:=getD_some (s:=s) (j:=11) oM;have e1:gen s=num (s.take 4):=rfl;have e2:gen sa=num (sa.take 4):=rfl;have e3:sF s=(s.getD 10 0).toNat:=rfl;have e4:piece s=(s.drop 12).take (s.getD 11 0).toNat:=rfl;rw[e1,e2,e3,e4]at bz;have uP:gH s n=true->(s.getD 11 0).toNat<=112/\(s.getD 10 0).toNat<=3:=fun h=>by
   rw[D5]at h;simp only[bA,decide_eq_true_eq]at h;exact⟨h.1.1.1.1.1,h.1.1.1.1.2⟩
  replace uP:Hid _:=uP;have a1:=Vd (s.getD 10 0);have a2:=Ve (s.getD 10 0);have hb:=(s.getD 11 0).toNat_lt;have hw:IntKind.i64.wrap ((s.getD 11 0).toNat:Int)=((s.getD 11 0).toNat:Int):=gp _ oM oM;generalize s.getD 10 0=A at *;generalize s.getD 11 0=B at *;have l1:(s.take 4).length<=8:=by simp;omega
  have l2:(sa.take 4).length<=8:=by simp;omega
  have ar:(n:Int)<(l.length:Int):=oM;have q1:decide (A.toNat % 2=1)= !decide (((A.toNat % 2:Nat):Int)=0):=by rw[Bool.eq_iff_iff];simp;omega
  have q2:decide (n=a)=decide ((n:Int)=(a:Int)):=by rw[Bool.eq_iff_iff];simp;omega
  have q3:decide (num (s.take 4)=num (sa.take 4))=decide ((num (s.take 4):Int)=(num (sa.take 4):Int)):=by rw[Bool.eq_iff_iff];simp;omega
  have q4:decide (last<=num (s.take 4))= !decide ((num (s.take 4):Int)<(last:Int)):=by rw[Bool.eq_iff_iff];simp
  rw[q1,q2,q3,q4]at bz;replace aQ:Hid _:=aQ;clear e1 e2 e3 e4 hg q1 q2 q3 q4;cases dj:gH s n with
  |false=>
   clear uP;rw[dj]at bz;replace bz:Hid _:=bz;repeat' first|exact zQ|with_reducible apply zJ<;>intro _|refine zK ?_
   exact aQ.out bz.out
  |true=>
   rw[dj,Bool.true_and]at bz;obtain⟨hB,hA⟩:=uP.out dj;clear uP;replace bz:Hid _:=bz;have c1:(12:Int)+B.toNat<=128:=oM;have c2:(12+(B.toNat:Int)).toNat - 12=B.toNat:=oM;replace hr:Hid _:=hr;repeat' first|exact zQ|with_reducible apply zJ<;>intro _|refine zK ?_
   all_goals first|exact aQ.out (by rw[bz.out,if_neg (by rw[‹((_:Bool)==_)=false›];simp)])|exact aQ.out (by rw[bz.out,if_neg (by simp[*])])|skip
   have bz:=bz.out;rw[if_pos (by rw[bA,bA];exact⟨⟨‹((_:Bool)==_)=true›,by simp[*]⟩,by simp[*]⟩)]at bz;have mT:(List.take B.toNat (s.drop 12)).length<=112:=by simp;omega
   generalize List.take B.toNat (s.drop 12)=pc at *;refine ad0 hv (fun x' β'' aX=>?_) (by simp[uv];try omega);rw[<-eD]at aX;have kK:=aX.v.facts;have hZ:IntKind.i64.wrap ((n:Int)+1)=((n+1:Nat):Int):=aE oM;have bH:gs+1<=gs+1+61:=oM;by_cases xS:2<=A.toNat
   ·rw[if_pos xS]at bz;have NO:((A.toNat / 2 % 2 * 2:Nat):Int)=2:=oM;obtain⟨f',rfl⟩:∃f',f=f'+1:=⟨f - 1,by omega⟩
    have hr:=hr.out;rw[kY,bz]at hr;simp only at hr;have hm:((jC l).map Ml)[m]? =some [I ((n+1:Nat):Int),ot (acc++pc)]:=by
     have:((jC l).drop m)[0]? =(jC l)[m]?:=by simp
     rw[hr]at this;rw[gM,<-this];rfl
    have CO:(jC l).drop (m+1)=lS l f' (n+1) (gen (l.getD a [])):=by rw[<-List.drop_drop,hr];rfl
    rw[show gen (l.getD a [])=num (sa.take 4) by rw[List.getD_eq_getElem?_getD,wb];rfl]at CO;have Hn:bc [(gs+1+61,gs+1+61)] β'' β' gs=β' gs:=by simp[bc,dA];omega
    have he:(num (s.take 4):Int)=(num (sa.take 4):Int):=by assumption
    replace bz:Hid _:=bz;replace hr:Hid _:=hr;replace CO:Hid _:=CO;rcases aX with⟨im,rfl⟩|⟨im,e,rfl,eN⟩
    ·rw[ot,if_pos (by simpa[aB]using im)]at hm;repeat' first|exact zQ|with_reducible apply zJ<;>intro _|refine zK ?_
     refine tp rfl sG (by rw[Hn,SK,hm]) fun bx1=>⟨?_,?_⟩
     ·repeat' first|exact zQ|with_reducible apply zJ<;>intro _|refine zK ?_
      exact⟨(n+1,num (sa.take 4),f',m+1),by simp;omega,rfl,rfl,rfl,CO.out,by omega,by simp;omega⟩
     ·repeat' first|exact zQ|with_reducible apply zJ<;>intro _|refine zK ?_
    ·rw[ot,if_neg (by simpa[aB]using im)]at hm;have qg:β'' (gs+1+61)=⟨e,1,1,5,aB (acc++pc)⟩:=by rw[<-eN];simp[bc,dA]
     clear eN;repeat' first|exact zQ|with_reducible apply zJ<;>intro _|refine zK ?_
     refine tp rfl sG (by rw[show ∀x,(aj (bc [(gs+1+61,gs+1+61)] β'' β') (gs+1+61) x) gs=β' gs from fun x=>by rw[aD oM,Hn],SK,hm]) fun bx1=>⟨?_,?_⟩
     ·repeat' first|exact zQ|with_reducible apply zJ<;>intro _|refine zK ?_
      exact⟨(n+1,num (sa.take 4),f',m+1),by simp;omega,rfl,rfl,rfl,CO.out,by omega,by simp;omega⟩
     ·repeat' first|exact zQ|with_reducible apply zJ<;>intro _|refine zK ?_
   ·rw[if_neg xS]at bz;have NO:((A.toNat / 2 % 2 * 2:Nat):Int)=0:=oM;replace bz:Hid _:=bz;repeat' first|exact zQ|with_reducible apply zJ<;>intro _|refine zK ?_
    exact⟨(n+1,acc++pc),by simp;omega,rfl,aX,by rw[if_neg oM];exact SK,by rw[if_neg oM];exact cW,by omega,by omega,by simp;omega,by have:=bz.out;rwa[Nat.sub_sub]at this⟩
 ·have:¬(n:Int)<(l.length:Int):=oM;rw[KH (n:=n) oM]at hg;have aQ:=aQ hg;repeat' first|exact zQ|with_reducible apply zJ<;>intro _|refine zK ?_
def Mm(l:List ah)(h:A6 l):yk prog 138 [.cG (.sl 1 (l.map aT)) 0] ((jC l).map Ml) 78:=NB mixed (Mn l h) rfl ak rfl
instance(l:List ah):Ct 74 [.sl 1 (l.map aT)] True (.fn (.func 138) [.cG (.sl 1 (l.map aT)) 0]):=by
 refine bf f74 [] [.tmp 2] fun pre=>?_;repeat' first|exact zQ|with_reducible apply zJ<;>intro _|refine zK ?_
inductive WL:List D->List D->Prop where
 |nil:WL [] []
 |cons {x y:D} {xs ys:List D} (h:bN x y) (hs:WL xs ys):WL (x::xs) (y::ys)
theorem WL.get{xs ys:List D}(h:WL xs ys):xs.length=ys.length/\∀(i:Nat) x y,xs[i]? =some x->ys[i]? =some y->bN x y:=by
 induction h with
 |nil=>exact⟨rfl,fun i x y h=>by simp at h⟩
 |cons h hs ih=>
  refine⟨by simp[ih.1],fun i x y hx hy=>?_⟩;cases i with
  |zero=>simp at hx hy;subst hx;subst hy;exact h
  |succ i=>exact ih.2 i x y (by simpa using hx) (by simpa using hy)
def vo{xs ys:List D}(h:WL xs ys):bN (.aI xs) (.aI ys):=.aI h.get.1 h.get.2
def gh{xs ys:List D}(h:WL xs ys):bN (.agg xs) (.agg ys):=.agg h.get.1 h.get.2
def wk{a b:D}(h:bN a b:=by first|((repeat' first|exact .refl _|exact bN.nil _|exact WL.nil|refine vo ?_|refine gh ?_|refine WL.cons ?_ ?_)<;>fail)|fail):bN a b:=h
def oD(n:Nat)(w:bE):Bool:=decide (0<=w.at_)&&decide (w.at_<n)&&decide (w.data.length=128)
def cO(d:bV):Bool:=decide (1<=d.a_.length)&&decide (d.a_.length<=4096)&&decide (d.br.length<=4096)&&decide (-1<=d.left)&&decide (d.left<=65536)&&d.br.all (oD d.a_.length)&&d.a_.all fun b=>decide (b.length=128)
def j9(d:bV):Bool:=cO d&& !d.stop
def hasB(d:bV)(a:Int):Bool:=decide (0<=a)&&decide (a<d.a_.length)
abbrev d0:bV:=⟨[],[],0,false⟩
abbrev okD(d:bV):Prop:=Lm d.a_/\Lm d.br
instance(b:ah):Ct 134 [aT b] True (.bool (decide (b.length=128))):=by
 refine bf f134 [] [.tmp 2] fun pre=>?_;repeat' first|exact zQ|with_reducible apply zJ<;>intro _|refine zK ?_
 refine ab (congrArg D.bool ?_);rw[Bool.eq_iff_iff];simp;omega
instance(b:ah):Ct 137 [aT b] True (.bool (!decide (b.length=128))):=by
 refine bf f137 [] [.tmp 2] fun pre=>?_;repeat' first|exact zQ|with_reducible apply zJ<;>intro _|refine zK ?_
instance(w:bE)(n:Nat):Ct 133 [w.d,.cG (I n) 0] True (.bool (!oD n w)):=by
 refine bf f133 [] [.tmp 3] fun pre=>?_;unfold oD;repeat' first|exact zQ|with_reducible apply zJ<;>intro _|refine zK ?_
 all_goals (refine ab (congrArg D.bool ?_);rw[Bool.eq_iff_iff];simp[*];try omega)
def qI{α:Type}(p:α->Bool)(l:List α):(l.any fun x=> !p x)= !l.all p:=by rw[List.any_eq_not_all_not];simp
instance aes(d:bV):Ct 73 [d.d] (okD d) (I (if cO d then 0 else 40)):=by
 refine bf f73 [] [.tmp 2] fun pre=>?_;obtain⟨h1,h2⟩:=pre;repeat' first|exact zQ|with_reducible apply zJ<;>intro _|refine zK ?_
 all_goals first|(refine ab (congrArg I ?_);rw[if_neg (by simp[cO];omega)];done)|skip
 refine Vy (ds':=[.sl 2 (d.br.map bE.d),.fn (.func 133) [.cG (I d.a_.length) 0]]) (by simp[go_sem,BG,D.cells,D.aF,D.pure,D.one,lD,aj,cY,lv,I,Bx.none]) ?_;rw[qI];have e2:=qI (fun b:ah=>decide (b.length=128)) d.a_;repeat' first|exact zQ|with_reducible apply zJ<;>intro _|refine zK ?_
 all_goals (refine ab (congrArg I ?_);unfold cO;first|(rw[if_pos (by simp[*];omega)];done)|(simp only[‹List.all d.a_ _=false›,Bool.and_false,Bool.false_eq_true,if_false];done)|(simp only[‹List.all d.br _=false›,Bool.and_false,Bool.false_and,Bool.false_eq_true,if_false];done)|trace_state)
instance(d:bV):Ct 106 [d.d] (okD d) (.bool (j9 d)):=by
 refine bf f106 [] [.tmp 2] fun pre=>?_;unfold j9;cases h:cO d;all_goals repeat' first|exact zQ|with_reducible apply zJ<;>intro _|refine zK ?_
instance(d:bV)(a:Int):Ct 159 [d.d,I a] True (.bool (hasB d a)):=by
 refine bf f159 [] [.tmp 4] fun pre=>?_;unfold hasB;repeat' first|exact zQ|with_reducible apply zJ<;>intro _|refine zK ?_
 all_goals (refine ab (congrArg D.bool ?_);simp[*];done)
def mZ(d:bV)(n:Int):bV×Int:=if j9 d then(if 0<=n/\n<=65536 then({d with left:=n},0)else(d0,1))else(d0,40)
def kB(d:bV):bV:=⟨d.a_,[],-1,false⟩
instance(d:bV)(n:Int):Ct 60 [d.d,I n] (okD d) (.aI [(mZ d n).1.d,I (mZ d n).2]):=by
 refine bf f60 [] [.cell 4 39,.tmp 5] fun pre=>?_;unfold mZ;repeat' first|exact zQ|with_reducible apply zJ<;>intro _|refine zK ?_
 all_goals first|exact wk|(rw[if_pos oM];exact wk)|(rw[if_neg oM];exact wk)
instance(d:bV):Ct 61 [d.d] True (kB d).d:=by
 refine bf f61 [] [.cell 2 39] fun pre=>?_;repeat' first|exact zQ|with_reducible apply zJ<;>intro _|refine zK ?_
 exact wk
def Bj{n:Nat}(h:n<4294967296):du .and .u64 (n:Int) 4294967295=(n:Int):=by
 rw[show(4294967295:Int)=((4294967295:Nat):Int)from rfl,wF .u64 rfl (by simp[IntKind.bits];omega)];have:=Nat.and_two_pow_sub_one_eq_mod n 32;simp at this;rw[this,Nat.mod_eq_of_lt h]
def Mz{n:Nat}(h:n<4294967296):(n:Int).fdiv (2 ^ min 32 64)=0:=by rw[show(2:Int) ^ min 32 64=((4294967296:Nat):Int) by rfl,Int.fdiv_eq_ediv_of_nonneg _ oM];omega
instance(n:Nat):Ct 197 [.int .u64 1,.int .u64 n] (n<4294967296) (.aI [.int .u64 0,.int .u64 n]):=by
 refine bf f197 [] [.tmp 4,.tmp 5] fun pre=>?_;have a1:=Bj pre;have a2:=Mz pre;have a3:du .and .u64 1 4294967295=1:=Bj (n:=1) oM;have a4:(1:Int).fdiv (2 ^ min 32 64)=0:=Mz (n:=1) oM;have a5:du .and .u64 0 4294967295=0:=Bj (n:=0) oM;have a6:(0:Int).fdiv (2 ^ min 32 64)=0:=Mz (n:=0) oM;have w0:IntKind.u64.wrap 0=0:=rfl;have w1:IntKind.u64.wrap (n:Int)=n:=cU rfl (by simp[IntKind.bits];omega);repeat' first|exact zQ|with_reducible apply zJ<;>intro _|refine zK ?_
 simp only[Int.zero_mul,Int.one_mul,Int.mul_zero,Int.zero_add,Int.add_zero,a1,a2,a3,a4,a5,a6,w0,w1,ab]
instance(n:Nat):Ct 132 [.int .u64 1,.int .u64 n] (n<4294967296) (.aI [.int .u64 0,.int .u64 n]):=by
 refine bf f132 [] [.tmp 4,.tmp 5] fun pre=>?_;repeat' first|exact zQ|with_reducible apply zJ<;>intro _|refine zK ?_
def VB(b:Bx)(e sz esz o n:Nat):Option (List D):=if sz=esz/\b.ep=e/\lv b.k/\b.sz=sz/\o+n<=b.es.length then some ((b.es.drop o).take n)else none
@[go_sem] def ZH(bx:ae)(esz t e sz o n:Nat):gT bx esz (.bp t e sz o n)=VB (bx t) e sz esz o n:=ay
@[go_sem] def aif(e sz ty o n:Nat)(es:List D):VB ⟨e,1,sz,ty,es⟩ e sz sz o n=if o+n<=es.length then some ((es.drop o).take n)else none:=by simp[VB,lv]
def Rc{x z:D}{k n:Nat}(h:k<=n)(h0:0<k):List.take k (List.replicate k x++List.replicate (n - k) z)++List.take (n - k) (List.replicate k x)++List.drop (k+min k (n - k)) (List.replicate k x++List.replicate (n - k) z)=List.replicate (k+min k (n - k)) x++List.replicate (n - (k+min k (n - k))) z:=by
 rw[List.take_append_of_le_length sI,List.take_of_length_le sI,List.take_replicate,List.drop_append,List.drop_of_length_le sI,List.drop_replicate,List.nil_append,List.length_replicate,List.replicate_append_replicate]
 congr 2<;>omega
instance(x:ah)(n:Nat):Ct 72 [.sl 1 [aT x],I n] (1<=n/\n<=4096) (.sl 1 ((List.replicate n x).map aT)):=by
 refine bf f72 [] [.tmp 4] fun pre=>?_;obtain⟨h1,h2⟩:=pre;have w0:IntKind.u64.wrap (1:Int)=1:=rfl;have w1:IntKind.u64.wrap (n:Int)=n:=cU rfl (by simp[IntKind.bits];omega);have w2:IntKind.u64.wrap ((1:Nat):Int)=1:=rfl;have c1:¬(n:Int)<0:=oM;have c2:¬(9223372036854775807:Int)<n:=oM;have c3:(0:Int)<=n:=oM;have c4:(n:Int)<=n:=oM;have c6:(List.replicate n D.aq).length=n:=List.length_replicate;have c5:(n:Int) * ((24:Nat):Int)<=140737488355328:=oM;repeat' first|exact zQ|with_reducible apply zJ<;>intro _|refine zK ?_
 refine rF 1 (fun k=>n - k) [(8,8),(34,46)] [(30,30)] (fun k τ β=>1<=k/\k<=n/\τ 8=I k/\β 30=⟨1,1,1,71,List.replicate k (aT x)++List.replicate (n - k) .aq⟩) ?_ ?_
 ·refine⟨Nat.le_refl _,h1,by simp[go_sem];omega,?_⟩;obtain⟨m,rfl⟩:∃m,n=m+1:=⟨n - 1,by omega⟩
  simp[go_sem,List.drop_replicate]
 ·rintro k τ β ⟨k1,k2,k3,k4⟩;by_cases hk:k<n
  ·have d1:(k:Int)<n:=oM;have e1:(List.replicate k (aT x)++List.replicate (n - k) D.aq).length=n:=by simp;omega
   have e2:(List.replicate k (aT x)++List.replicate (n - k) D.aq).take k=List.replicate k (aT x):=by simp
   have e3:(List.replicate k (aT x)).all D.one=true:=by simp[D.one]
   have e4:=Rc (x:=aT x) (z:=.aq) (k:=k) (n:=n) k2 k1;have e5:(List.replicate k (aT x)).length=k:=List.length_replicate;have e6:IntKind.i64.wrap ((k:Int)+((min k (n - k):Nat):Int))=((k+min k (n - k):Nat):Int):=by rw[gp _ oM oM];omega
   have e7:k+(n - k)<=n:=oM;generalize List.replicate k (aT x)++List.replicate (n - k) D.aq=ES at *;repeat' first|exact zQ|with_reducible apply zJ<;>intro _|refine zK ?_
   exact⟨k+min k (n - k),by omega,by omega,by omega,rfl,by rw[<-e4,e2]⟩
  ·obtain rfl:k=n:=oM;have d1:¬(k:Int)<k:=oM;rw[Nat.sub_self,List.replicate_zero,List.append_nil]at k4;have d2:oH ⟨1,1,1,71,List.replicate k (aT x)⟩ 1 1 0 k=some (.sl 1 (List.replicate k (aT x))):=ej _ _ _ _ _ _ (by decide) sI (by have:=dB aT (List.replicate k x);rw[List.map_replicate]at this;rw[this];simp[D.pure]);repeat' first|exact zQ|with_reducible apply zJ<;>intro _|refine zK ?_
   rw[List.map_replicate];exact .refl _
@[go_sem] def agq:List.replicate 128 (D.int .u8 0)=aB dD:=by simp[dD,aB]
@[go_sem] def OG(e ty n:Nat)(s:ah)(h:n=s.length):oH ⟨e,1,1,ty,aB s⟩ e 1 0 n=some (.sl 1 (aB s)):=ej _ _ _ _ _ _ (by decide) (by simp[aB,h]) (lX s)
@[go_sem] def amt:((128:Int) * ((1:Nat):Int)<=140737488355328)=True:=by simp
def nG(n:Int):bV×Int:=if 1<=n/\n<=4096 then(⟨List.replicate n.toNat dD,[],-1,false⟩,0)else(d0,1)
instance(n:Int):Ct 35 [I n] True (.aI [(nG n).1.d,I (nG n).2]):=by
 refine bf f35 [(4000004,[(1,13)])] [.cell 2 39,.tmp 3] fun pre=>?_;unfold nG;by_cases h:1<=n/\n<=4096
 ·rw[if_pos h];obtain⟨m,rfl⟩:∃m:Nat,n=m:=⟨n.toNat,by omega⟩
  have c1:¬(m:Int)<1:=oM;have c2:¬(4096:Int)<m:=oM;have c3:1<=m/\m<=4096:=oM;have c4:=rY;repeat' first|exact zQ|with_reducible apply zJ<;>intro _|refine zK ?_
  all_goals first|exact wk|trace_state
 ·rw[if_neg h];by_cases c:n<1
  ·repeat' first|exact zQ|with_reducible apply zJ<;>intro _|refine zK ?_
   exact wk
  ·have c2:(4096:Int)<n:=oM;repeat' first|exact zQ|with_reducible apply zJ<;>intro _|refine zK ?_
   exact wk
@[go_sem] def TU(e esz b size:Nat)(ag ag':Bool)(z es:List D)(n:Int)(h0:0<=n)(h1:0<esz):fa ⟨.slice e esz b ag,size,ag',z⟩ (.ij esz es) n=(es[n.toNat]?).map fun d=> .cG d 0:=by simp[fa,h0,h1]
def cP(s:List ah)(l:List bE):List ah:=l.foldl (fun s w=>s.set w.at_.toNat w.data) s
theorem gW(l:List bE):∀s:List ah,(cP s l).length=s.length:=by
 induction l with
 |nil=>intro s;rfl
 |cons w l ih=>intro s;show(cP (s.set _ _) l).length=_;rw[ih];simp
def zw{s:List ah}{l:List bE}{j:Nat}{w:bE}(h:l[j]? =some w):cP s (l.take (j+1))=(cP s (l.take j)).set w.at_.toNat w.data:=by rw[List.take_add_one,h];simp[cP]
def zx(s:List ah)(l:List bE)(y:D)(hy:y= .sl 2 (l.map bE.d)\/y= .ij 2 (l.map bE.d))(h0:0<s.length)(h1:s.length<=4096)(h2:l.length<=4096)(h3:∀w∈l,oD s.length w=true)(bx:ae):
 bj prog 164 78 [.sl 1 (s.map aT),y] bx (fun d bx'=>∃e,d= .bp 109 e 1 0 s.length/\bx' 109=⟨e,1,1,71,(cP s l).map aT⟩/\∀q,q<78->bx' q=bx q) (fun _ _=>False):=by
 refine aK (fn:=f164) (tab:=[]) (base:=78) mixed ?_ rfl ak rfl;refine aL _ [.tmp 4] 24 rfl rfl rfl ak ?_;have hz:s.map aT≠[]:=by intro h;rw[List.map_eq_nil_iff]at h;subst h;simp at h0
 rcases hy with rfl|rfl;all_goals
  repeat' first|exact zQ|with_reducible apply zJ<;>intro _|refine zK ?_
  refine aC (PH 102 (s.map aT) (by simp;omega) _) rfl fun d bx1 hq=>?_;obtain⟨e,rfl,hb⟩:=hq.own hz;have hk:=hq.je;rw[List.length_map];repeat' first|exact zQ|with_reducible apply zJ<;>intro _|refine zK ?_
  refine bW l [(7,7),(12,22)] [(85,85),(109,109)] (fun j τ β=>τ 12=I j/\β 109=⟨e,1,1,71,(cP s (l.take j)).map aT⟩) (by simp[Lm];omega) ⟨by simp[go_sem],hb⟩ (fun j x τ β hx hj hw hi=>?_) fun τ β hn hi=>?_
  ·obtain⟨AM,VQ⟩:=hi;have Ff:=h3 x (mG hx);simp only[oD,bA,decide_eq_true_eq]at Ff;obtain⟨⟨w1,w2⟩,w3⟩:=Ff;have hl:(cP s (l.take j)).length=s.length:=gW _ _;have hs:=zw (s:=s) hx;obtain⟨o,ho⟩:∃o,(cP s (l.take j))[x.at_.toNat]? =some o:=⟨_,gE oM⟩
   generalize cP s (l.take j)=S at *;have sC:(S.map aT).set x.at_.toNat (aT x.data)=(cP s (l.take (j+1))).map aT:=by rw[hs,List.map_set]
   clear h3 hq;repeat' first|exact zQ|with_reducible apply zJ<;>intro _|refine zK ?_
  ·obtain⟨AM,VQ⟩:=hi;rw[tL]at VQ;clear h3 hq;repeat' first|exact zQ|with_reducible apply zJ<;>intro _|refine zK ?_
   exact⟨e,rfl,rfl,fun q h=>by rw[if_neg oM,if_neg oM]⟩
@[go_sem] def aeo{α:Type}(x:α)(xs:List α):(x::xs=[])=False:=by simp
def mc(b:ah):ah:=b++List.replicate (128 - b.length) 0
def lU(d:bV)(a:Int)(b:ah):bV×Int:=if j9 d=true/\hasB d a=true then(if b.length<=128 then(if d.br.length=4096 then(d0,2)else({d with br:=d.br++[⟨a,mc b⟩]},0))else(d0,1))else(d0,40)
def sL{d:bV}(h:cO d=true):d.br.length<=4096:=by simp[cO]at h;omega
instance aeu(d:bV)(a:Int)(b:ah):Ct 99 [d.d,I a,aT b] (okD d) (.aI [(lU d a b).1.d,I (lU d a b).2]):=by
 refine R7 f99 (n:=46) [(4000009,[(6,40)]),(3000043,[])] [.cell 6 39,.tmp 7] fun pre=>?_;unfold lU;cases h1:j9 d
 ·repeat' first|exact zQ|with_reducible apply zJ<;>intro _|refine zK ?_
  all_goals first|exact wk|trace_state
 cases h2:hasB d a
 ·repeat' first|exact zQ|with_reducible apply zJ<;>intro _|refine zK ?_
  all_goals first|exact wk|trace_state
 rw[if_pos sI];by_cases h3:b.length<=128
 rotate_left
 ·have c:(128:Int)<b.length:=oM;repeat' first|exact zQ|with_reducible apply zJ<;>intro _|refine zK ?_
  all_goals first|exact wk|trace_state
 have c:¬(128:Int)<b.length:=oM;rw[if_pos h3];by_cases h4:d.br.length=4096
 ·rw[if_pos h4];have c4:(d.br.length:Int)=4096:=oM;clear h4;repeat' first|exact zQ|with_reducible apply zJ<;>intro _|refine zK ?_
  all_goals first|exact wk|trace_state
 rw[if_neg h4];have c4:¬(d.br.length:Int)=4096:=oM;have hp:d.br.length<=4096:=sL (by simp[j9]at h1;exact h1.1);have hz:=rY;have qG:(aB dD).length=128:=by simp[aB,hz]
 have hz3:min b.length 128=b.length:=oM;have Bv:(d.br.map bE.d).length<=1048576/\D.aF (d.br.map bE.d)=true:=⟨by simp;omega,by rw[dB];simp[D.pure,D.aF]⟩
 have CW:aB b++aB (List.drop b.length dD)=aB (mc b):=by rw[<-eD,dD,List.drop_replicate,mc]
 have c5:((d.br.map bE.d).length+[D.agg [D.int .i64 a,D.sl 1 (aB (mc b))]].length) * 32<=140737488355328:=by simp;omega
 have mT:(mc b).length=128:=by simp[mc];omega
 have WO:oH ⟨1,1,2,144,d.br.map bE.d++[D.agg [D.int .i64 a,D.sl 1 (aB (mc b))]]⟩ 1 2 0 (d.br.length+1)=some (.sl 2 ((d.br++[bE.mk a (mc b)]).map bE.d)):=by
  rw[show d.br.map bE.d++[D.agg [D.int .i64 a,D.sl 1 (aB (mc b))]]=(d.br++[bE.mk a (mc b)]).map bE.d by simp];exact ej _ _ _ _ _ _ (by decide) sI (by rw[dB];simp[D.pure,D.aF])
 clear h4;repeat' first|exact zQ|with_reducible apply zJ<;>intro _|refine zK ?_
 exact⟨wk,wk⟩
def om(d:bV):List ah:=
 let s:=cP d.a_ (d.br.take d.left.toNat);let w:=d.br.getD d.left.toNat ⟨0,[]⟩
 s.set w.at_.toNat (w.data.take 64++(s.getD w.at_.toNat []).drop 64)
theorem qX:∀ {l:List bE} {s:List ah},(∀b∈s,b.length=128)->(∀w∈l,oD s.length w=true)->∀b∈cP s l,b.length=128
 |[],s,h,_,b,hb=>h b hb
 |w::l,s,h,hw,b,hb=>by
  refine qX (l:=l) (s:=s.set w.at_.toNat w.data) (fun x hx=>?_) (fun x hx=>by rw[List.length_set];exact hw x (List.mem_cons_of_mem _ hx)) b hb;rcases List.mem_or_eq_of_mem_set hx with h1|rfl
  ·exact h x h1
  ·have:=hw w (List.mem_cons_self ..);simp[oD]at this;exact this.2
def gX(d:bV):bV×Int:=if j9 d=true then(if 0<=d.left/\d.left<d.br.length then(⟨om d,[],0,true⟩,40)else(⟨cP d.a_ d.br,[],if 0<=d.left then d.left - d.br.length else d.left,false⟩,0))else(d0,40)
instance aet(d:bV):Ct 101 [d.d] (okD d) (.aI [(gX d).1.d,I (gX d).2]):=by
 refine R7 f101 (n:=78) [(4000010,[(5,58)]),(2000012,[]),(12,[(4,2)])] [.cell 2 39,.tmp 3] fun pre=>?_;unfold gX;cases h1:j9 d
 ·repeat' first|exact zQ|with_reducible apply zJ<;>intro _|refine zK ?_
  exact wk
 rw[if_pos rfl];have hd:cO d=true:=by simp[j9]at h1;exact h1.1
 have hp:=sL hd;have h2:(∀w∈d.br,oD d.a_.length w=true)/\(∀b∈d.a_,b.length=128)/\0<d.a_.length/\d.a_.length<=4096/\ -1<=d.left/\d.left<=65536:=by
  simp[cO,List.all_eq_true]at hd;refine⟨?_,?_,?_⟩
  ·exact hd.1.2
  ·exact hd.2
  ·omega
 obtain⟨g1,g2,g3,g4,g5,g6⟩:=h2;clear hd;by_cases hl:0<=d.left/\d.left<d.br.length
 ·rw[if_pos hl];have hc:dV (List.map bE.d d.br).length (none:Option Int) (some d.left)=some (0,d.left.toNat):=by simp[dV];omega
  obtain⟨l1,l2⟩:=hl;obtain⟨w,hw⟩:∃w,d.br[d.left.toNat]? =some w:=⟨_,gE oM⟩
  have uU:=g1 w (mG hw);simp only[oD,bA,decide_eq_true_eq]at uU;obtain⟨⟨w1,w2⟩,w3⟩:=uU;have q1:(d.br.take d.left.toNat).length<=4096:=by simp;omega
  have q2:∀x∈d.br.take d.left.toNat,oD d.a_.length x=true:=fun x hx=>g1 x (List.mem_of_mem_take hx);have q3:=qX (l:=d.br.take d.left.toNat) g2 q2;have q4:=gW (d.br.take d.left.toNat) d.a_;obtain⟨o,ho⟩:∃o,(cP d.a_ (d.br.take d.left.toNat))[w.at_.toNat]? =some o:=⟨_,gE oM⟩
  have E7:=q3 o (mG ho);have hT:om d=(cP d.a_ (d.br.take d.left.toNat)).set w.at_.toNat (w.data.take 64++o.drop 64):=by simp[om,List.getD_eq_getElem?_getD,hw,ho]
  rw[hT];clear g1 g2;repeat' first|exact zQ|with_reducible apply zJ<;>intro _|refine zK ?_
  refine aC (zx d.a_ (d.br.take d.left.toNat) _ (.inr (by rw[List.map_take])) g3 g4 q1 q2 _) rfl fun d' bx1 hq=>?_;obtain⟨e,rfl,hb,hk⟩:=hq;have iL:=hk 1 oM;have bR:=hk 2 oM;simp only[aj,Bx.none,reduceIte,Nat.reduceEqDiff]at iL bR;generalize cP d.a_ (d.br.take d.left.toNat)=S at *;clear q2 q3 hT hk;have fj:aB o≠[]:=fun h=>by have:=congrArg List.length h;simp[aB,E7]at this
  have aeY:(aB o).length=128:=by simp[aB,E7]
  repeat' first|exact zQ|with_reducible apply zJ<;>intro _|refine zK ?_
  refine aC (GD 110 (aB o) oM _) rfl fun d' bK hq=>?_;obtain⟨e2,rfl,qC⟩:=hq.own fj;have kp:=hq.je;have k1:=kp 1 oM;have k2:=kp 2 oM;have k6:=kp 6 oM;have k9:=kp 109 oM;simp only[aj,reduceIte,Nat.reduceEqDiff,iL,hb]at k1 k2 k6 k9;have r1:64<=(aB o).length:=oM;have r2:(w.data.take 64++o.drop 64).length=128:=by simp;omega
  have r3:aB (w.data.take 64)++aB (o.drop 64)=aB (w.data.take 64++o.drop 64):=(eD _ _).symm;have r4:(S.map aT).set w.at_.toNat (aT (w.data.take 64++o.drop 64))=(S.set w.at_.toNat (w.data.take 64++o.drop 64)).map aT:=by rw[List.map_set]
  have r5:oH ⟨e,1,1,71,(S.set w.at_.toNat (w.data.take 64++o.drop 64)).map aT⟩ e 1 0 d.a_.length=some (.sl 1 ((S.set w.at_.toNat (w.data.take 64++o.drop 64)).map aT)):=ej _ _ _ _ _ _ (by decide) (by simp[q4]) (by rw[dB];simp[D.pure]);have r6:min 128 64=64:=rfl;clear hq kp;repeat' first|exact zQ|with_reducible apply zJ<;>intro _|refine zK ?_
  exact wk
 ·rw[if_neg hl];by_cases l1:0<=d.left
  ·have l2:¬d.left<d.br.length:=oM;rw[if_pos l1];have l3:IntKind.i64.wrap (d.left - d.br.length)=d.left - d.br.length:=gp _ oM oM;clear hl g5;repeat' first|exact zQ|with_reducible apply zJ<;>intro _|refine zK ?_
   refine gY (.aY 0 (.load 1 1 (.aY 2 (.load 3 1 (.aY 5 (.load 6 1 (.both 4 [1] (.aY 7 (.both 8 [] .fin .stop)) .stop))))))) ak ?_;repeat' first|exact zQ|with_reducible apply zJ<;>intro _|refine zK ?_
   refine aC (zx d.a_ d.br _ (.inl rfl) g3 g4 hp g1 _) rfl fun d' bx1 hq=>?_;obtain⟨e,rfl,hb,hk⟩:=hq;have iL:=hk 1 oM;have bR:=hk 2 oM;simp only[aj,Bx.none,reduceIte,Nat.reduceEqDiff]at iL bR;have r5:oH ⟨e,1,1,71,(cP d.a_ d.br).map aT⟩ e 1 0 d.a_.length=some (.sl 1 ((cP d.a_ d.br).map aT)):=ej _ _ _ _ _ _ (by decide) (by simp[gW]) (by rw[dB];simp[D.pure]);clear hk g1 g2;repeat' first|exact zQ|with_reducible apply zJ<;>intro _|refine zK ?_
   exact wk
  ·rw[if_neg l1];clear hl g5;repeat' first|exact zQ|with_reducible apply zJ<;>intro _|refine zK ?_
   refine gY (.aY 0 (.load 1 1 (.aY 2 (.load 3 1 (.aY 5 (.load 6 1 (.both 4 [1] (.aY 7 (.both 8 [] .fin .stop)) .stop))))))) ak ?_;repeat' first|exact zQ|with_reducible apply zJ<;>intro _|refine zK ?_
   refine aC (zx d.a_ d.br _ (.inl rfl) g3 g4 hp g1 _) rfl fun d' bx1 hq=>?_;obtain⟨e,rfl,hb,hk⟩:=hq;have iL:=hk 1 oM;have bR:=hk 2 oM;simp only[aj,Bx.none,reduceIte,Nat.reduceEqDiff]at iL bR;have r5:oH ⟨e,1,1,71,(cP d.a_ d.br).map aT⟩ e 1 0 d.a_.length=some (.sl 1 ((cP d.a_ d.br).map aT)):=ej _ _ _ _ _ _ (by decide) (by simp[gW]) (by rw[dB];simp[D.pure]);clear hk g1 g2;repeat' first|exact zQ|with_reducible apply zJ<;>intro _|refine zK ?_
   exact wk
def b_(l:List ah):List ah:=(jC l).map (·.1)
abbrev j0:gy:=⟨[],0,0⟩
def cV(d:bV):gy×Int:=if cO d=true then(if d.stop=true then(j0,40)else if d.br.length=0 then(⟨b_ d.a_,d.a_.length,(b_ d.a_).length⟩,0)else(j0,1))else(j0,40)
def RJ(l:List ah):bN (.sl 1 (l.map ot)) (.sl 1 (l.map aT)):=by
 have h1:∀(i:Nat) x x',(l.map ot)[i]? =some x->(l.map aT)[i]? =some x'->∃s:ah,x=ot s/\x'=aT s:=fun i x x' hx dQ=>by
  rw[gM,mS]at hx dQ;obtain⟨s,hs,rfl⟩:=hx;obtain⟨s',eb,rfl⟩:=dQ;rw[hs]at eb;injection eb with eb;subst eb;exact⟨s,rfl,rfl⟩
 refine .sl sI (fun i x x' hx dQ=>?_) fun i x x' j c c' hx dQ hc fT=>?_
 ·obtain⟨s,rfl,rfl⟩:=h1 i x x' hx dQ;unfold ot;split<;>rfl
 ·obtain⟨s,rfl,rfl⟩:=h1 i x x' hx dQ;by_cases hs:s=[]
  ·subst hs;cases j<;>simp[ot,D.cells]at hc fT;subst hc;subst fT;exact .nil _
  ·rw[ot,if_neg hs]at hc;cases j<;>simp[D.cells]at hc fT;subst hc;subst fT;exact .refl _
def ui(l:List ah):(jC l).length<=l.length:=by
 unfold jC;suffices ∀f a last,a<=l.length->(lS l f a last).length<=l.length - a by simpa using this l.length 0 0 oM
 intro f;induction f with
 |zero=>intro a last h;simp[lS]
 |succ f ih=>
  intro a last h;rw[kY];split
  ·simp
  ·rename_i b n hr;have:=nK hr;simp only at this;have:=ih n (gen (l.getD a [])) oM;simp only[List.length_cons];omega
def Pv(l:List ah):D.aF (l.map ot)=true:=by rw[dB];simp only[List.all_eq_true];intro x _;unfold ot;split<;>rfl
instance Xm(d:bV):Ct 36 [d.d] (okD d) (.aI [(cV d).1.d,I (cV d).2]):=by
 refine R7 f36 (n:=41) [] [.cell 2 36,.tmp 3] fun pre=>?_;generalize hR:cV d=R;unfold cV at hR;have hlen:=ui d.a_;by_cases h1:cO d=true
 rotate_left
 ·rw[if_neg h1]at hR;subst hR;repeat' first|exact zQ|with_reducible apply zJ<;>intro _|refine zK ?_
  exact wk
 rw[if_pos h1]at hR;have bC:A6 d.a_:=by
  simp[cO]at h1;exact⟨by omega,h1.2⟩
 have kO:=bC.1;replace hR:Hid _:=hR;repeat' first|exact zQ|with_reducible apply zJ<;>intro _|refine zK ?_
 all_goals first|(rw[<-hR.out,if_pos (by assumption)];exact wk)|(rw[<-hR.out,if_neg (by simp[*]),if_neg oM];exact wk)|skip
 obtain rfl:=(hR.out.symm.trans (if_neg (by simp[*]))).trans (if_pos oM);refine Pw 138 [.cG (.sl 1 (d.a_.map aT)) 0] _ 78 (fun n bx'=>∃x,bx' 2=⟨1,1,3,36,[.agg [x,I d.a_.length,I 0]]⟩/\aS bx' [34] 71 1 x (((jC d.a_).take n).map fun p=>ot p.1)) rfl sG (Mm d.a_ bC) ?_ ?_ ?_
 ·exact⟨.aq,by simp[go_sem,bU],.nil _ _ _ _⟩
 ·intro n it bx1 hi ⟨x,h2,hv⟩;rw[gM,mS]at hi;obtain⟨p,hp,rfl⟩:=hi;rw[ky oM]at h2;replace hv:=hv.Az (fun t ht=>by simp at ht;omega);have hf:=hv.facts;have hn:=(gS.1 hp).1;have hbs:(ot p.1).cells=[ot p.1]/\(ot p.1).one=true/\(ot p.1).pure=true:=by unfold ot;split<;>exact⟨rfl,rfl,rfl⟩
  unfold Ml;refine⟨rfl,?_⟩;repeat' first|exact zQ|with_reducible apply zJ<;>intro _|refine zK ?_
  refine app [34] hv (fun x' β aX=>?_) (by simp;omega);have kK:=aX.facts;repeat' first|exact zQ|with_reducible apply zJ<;>intro _|refine zK ?_
  refine⟨fun s h1 h2=>by rw[if_neg oM,if_pos oM,if_neg oM],x',rfl,?_⟩;rw[List.take_add_one,hp,Option.toList_some,List.map_append];exact aX.of fun t ht=>by simp at ht;subst ht;simp[bU,aj,bc,dA]
 ·intro bx1 ⟨x,h2,hv⟩;rw[ky oM]at h2;replace hv:=hv.Az (fun t ht=>by simp at ht;omega);rw[List.length_map,tL]at hv;have hf:=hv.facts;have Sq:=hv.len 71 24 false;rw[List.length_map]at Sq;have E0:((b_ d.a_).length:Int)=(jC d.a_).length:=by simp[b_]
  have rL:(jC d.a_).map (fun p=>ot p.1)=(b_ d.a_).map ot:=by simp[b_,Function.comp_def]
  have Ww:∀r,bN r (.sl 1 ((b_ d.a_).map aT))->bN (.aI [.agg [r,I d.a_.length,I (jC d.a_).length],I 0]) (.aI [gy.d ⟨b_ d.a_,d.a_.length,(jC d.a_).length⟩,I 0]):=fun r hr=>
   vo (.cons (gh (.cons hr (.cons (.refl _) (.cons (.refl _) .nil)))) (.cons (.refl _) .nil))
  rcases hv with⟨rfl,he⟩|⟨t,e,ht,rfl,hb⟩
  ·have:b_ d.a_=[]:=by rw[rL]at he;simpa using he
   replace this:Hid _:=this;repeat' first|exact zQ|with_reducible apply zJ<;>intro _|refine zK ?_
   refine Ww _ ?_;rw[this.out];exact .nil _
  ·simp at ht;subst ht;rw[List.length_map]at *;have ho:oH ⟨e,1,1,71,(b_ d.a_).map ot⟩ e 1 0 (jC d.a_).length=some (.sl 1 ((b_ d.a_).map ot)):=by exact ej _ _ _ _ _ _ (by decide) (by simp[b_]) (Pv _)
   repeat' first|exact zQ|with_reducible apply zJ<;>intro _|refine zK ?_
   exact Ww _ (RJ _)
def lK(j:gy)(b:ah):gy×Int:=if ko j=true then(if(j.many - (aV j.bJ:Int))<bm b then(j0,2)else(⟨j.bJ++[b],j.many,j.sync⟩,0))else(j0,1)
instance(j:gy)(b:ah):Ct 41 [j.d,aT b] (pK j.bJ/\b.length<=1099511627776/\j.bJ.length<=1048576) (.aI [(lK j b).1.d,I (lK j b).2]):=by
 refine R7 f41 (n:=32) [(3000029,[]),(4,[(7,5),(7,3),(5,2)])] [.cell 4 36,.tmp 5] fun pre=>?_;obtain⟨p1,p2,p3⟩:=pre;generalize hR:lK j b=R;unfold lK at hR;have hb:Lm b:=by simp[Lm];omega
 have h2:bm b<=1099511627776/\b.length<=112 * bm b:=by unfold bm;omega
 by_cases h1:ko j=true
 rotate_left
 ·rw[if_neg h1]at hR;subst hR;repeat' first|exact zQ|with_reducible apply zJ<;>intro _|refine zK ?_
  exact wk
 rw[if_pos h1]at hR;have hm:j.many<=4096/\1<=j.many:=by simp[ko]at h1;omega
 have hw:IntKind.i64.wrap (j.many - (aV j.bJ:Int))=j.many - (aV j.bJ:Int):=gp _ oM oM;by_cases c:j.many - (aV j.bJ:Int)<(bm b:Int)
 ·rw[if_pos c]at hR;subst hR;repeat' first|exact zQ|with_reducible apply zJ<;>intro _|refine zK ?_
  exact wk
 rw[if_neg c]at hR;have Bv:(aB b).length<=1048576/\D.aF (aB b)=true:=⟨by
  have:b.length<=1048576:=oM;simpa[aB]using this,lX b⟩
 have hc:((j.bJ.map aT).length+[aT b].length) * 24<=140737488355328:=by simp;omega
 have ho:oH ⟨1,1,1,71,j.bJ.map aT++[aT b]⟩ 1 1 0 (j.bJ.length+1)=some (.sl 1 ((j.bJ++[b]).map aT)):=by
  rw[show j.bJ.map aT++[aT b]=(j.bJ++[b]).map aT by simp];exact ej _ _ _ _ _ _ (by decide) sI (by rw[dB];simp[D.pure])
 subst hR;repeat' first|exact zQ|with_reducible apply zJ<;>intro _|refine zK ?_
 exact⟨wk,wk⟩
end Go.V.Jn
namespace Go.V.Jn
open Go.Proofs Go.RowKit Go.V.Lx Go.V.Gr Go.V.Ty Go.V.St
section
variable (S:List ah) (W:List bE) (L:Int) (st:Bool)
instance (priority:=low):Ct 73 [.agg [.sl 1 (S.map aT),.sl 2 (W.map bE.d),I L,.bool st]] (okD ⟨S,W,L,st⟩) (I (if cO ⟨S,W,L,st⟩then 0 else 40)):=aes ⟨S,W,L,st⟩
instance (priority:=low)(a:Int)(b:ah):Ct 99 [.agg [.sl 1 (S.map aT),.sl 2 (W.map bE.d),I L,.bool st],I a,aT b] (okD ⟨S,W,L,st⟩) (.aI [(lU ⟨S,W,L,st⟩ a b).1.d,I (lU ⟨S,W,L,st⟩ a b).2]):=aeu ⟨S,W,L,st⟩ a b
instance (priority:=low):Ct 101 [.agg [.sl 1 (S.map aT),.sl 2 (W.map bE.d),I L,.bool st]] (okD ⟨S,W,L,st⟩) (.aI [(gX ⟨S,W,L,st⟩).1.d,I (gX ⟨S,W,L,st⟩).2]):=aet ⟨S,W,L,st⟩
instance (priority:=low):Ct 36 [.agg [.sl 1 (S.map aT),.sl 2 (W.map bE.d),I L,.bool st]] (okD ⟨S,W,L,st⟩) (.aI [(cV ⟨S,W,L,st⟩).1.d,I (cV ⟨S,W,L,st⟩).2]):=Xm ⟨S,W,L,st⟩
end
def cB(l:List ah):Nat:=l.foldl (fun g s=>max g (max (num (s.take 4)) (num (s.drop 124)))) 0+1
def iX(k n:Nat):UInt8:=if k=0 then(if n=1 then 3 else 1)else if k+1=n then 2 else 0
def eQ(g a n:Nat)(b:ah)(k:Nat):bE:=⟨(a+k:Nat),dw g (a+k) (iX k n) ((b.drop (112 * k)).take 112)⟩
def iO(g a:Nat)(b:ah):List bE:=(List.range (bm b)).map (eQ g a (bm b) b)
def cq(g:Nat):Nat->List ah->List bE
 |_,[]=>[]
 |a,b::l=>iO g a b++cq g (a+bm b) l
def me(g a:Nat)(b:ah):(iO g a b).length=bm b:=by simp[iO]
theorem Bi(g:Nat):∀(l m:List ah) (a:Nat),cq g a (l++m)=cq g a l++cq g (a+aV l) m
 |[],m,a=>by simp[cq,aV]
 |b::l,m,a=>by simp only[List.cons_append,cq,Bi g l m,aV,mC,List.sum_cons,List.append_assoc,Nat.add_assoc]
theorem pb(g:Nat):∀(l:List ah) (a:Nat),(cq g a l).length=aV l
 |[],a=>rfl
 |b::l,a=>by simp[cq,me,pb g l,aV]
def ft(j:gy)(d:bV):gy×bV×Int:=
 if ko j=true then if cO d=true then if ¬j.many=d.a_.length/\d.stop=false then(j0,d0,1)else
  if(cV d).2=0 then if b_ d.a_=j.bJ.take j.sync.toNat/\cB d.a_<4294967296 then
   if j.sync=j.bJ.length then(j,d,0)else
    if(gX {d with br:=cq (cB d.a_) (aV (j.bJ.take j.sync.toNat)) (j.bJ.drop j.sync.toNat)}).2=0 then
     ({j with sync:=j.bJ.length},(gX {d with br:=cq (cB d.a_) (aV (j.bJ.take j.sync.toNat)) (j.bJ.drop j.sync.toNat)}).1,0)
    else(j0,(gX {d with br:=cq (cB d.a_) (aV (j.bJ.take j.sync.toNat)) (j.bJ.drop j.sync.toNat)}).1,(gX {d with br:=cq (cB d.a_) (aV (j.bJ.take j.sync.toNat)) (j.bJ.drop j.sync.toNat)}).2)
  else(j0,d0,50)else(j0,d0,(cV d).2)else(j0,d0,40)else(j0,d0,1)
def Qi{l:List ah}{j:Nat}{x:ah}(h:l[j]? =some x):cB (l.take (j+1))=max (cB (l.take j)) (max (num (x.take 4)+1) (num (x.drop 124)+1)):=by rw[List.take_add_one,h];simp[cB,List.foldl_append];try omega
def G0(l:List ah)(h:∀s∈l,s.length=128):cB l<=4294967296:=by
 suffices ∀(l:List ah) (g:Nat),(∀s∈l,s.length=128)->g<4294967296->l.foldl (fun g s=>max g (max (num (s.take 4)) (num (s.drop 124)))) g<4294967296 by
  have:=this l 0 h oM;unfold cB;omega
 intro l;induction l with
 |nil=>intro g _ h;exact h
 |cons s l ih=>
  intro g hs hg;have h1:=my (s.take 4);have h2:=my (s.drop 124);have h3:=hs s (List.mem_cons_self ..);rw[List.length_take,h3]at h1;rw[List.length_drop,h3]at h2;refine ih _ (fun x hx=>hs x (List.mem_cons_of_mem _ hx)) ?_;simp at h1 h2;dsimp only;omega
def tj(l:List ah)(n:Nat):aV l=aV (l.take n)+aV (l.drop n):=by rw[aV,aV,aV,<-List.sum_append,<-List.map_append,List.take_append_drop]
def zy{g a n k:Nat}{b:ah}:(eQ g a n b k).data.length=128:=xD (by simp;omega)
def BR{g a:Nat}{b:ah}{w:bE}(h:w∈iO g a b):(a:Int)<=w.at_/\w.at_<(a+bm b:Nat)/\w.data.length=128:=by
 simp only[iO,List.mem_map,List.mem_range]at h;obtain⟨k,hk,rfl⟩:=h;exact⟨by simp only[eQ];omega,by simp only[eQ];omega,zy⟩
theorem tE{g:Nat}{w:bE}:∀ {l:List ah} {a:Nat},w∈cq g a l->(a:Int)<=w.at_/\w.at_<(a+aV l:Nat)/\w.data.length=128
 |[],a,h=>by simp[cq]at h
 |b::l,a,h=>by
  simp only[cq,List.mem_append]at h;have hu:aV (b::l)=bm b+aV l:=by simp[aV]
  rcases h with h|h
  ·have:=BR h;omega
  ·have:=tE h;omega
structure DG(S:List ah)(L:Int):Prop where
 a:1<=S.length
 b:S.length<=4096
 c:∀x∈S,x.length=128
 d: -1<=L
 e:L<=65536
theorem DG.cg{S:List ah}{L:Int}(h:DG S L){W:List bE}(hw:∀w∈W,0<=w.at_/\w.at_<S.length/\w.data.length=128)(hl:W.length<=4096){st:Bool}:cO ⟨S,W,L,st⟩=true:=by
 obtain⟨a,b,c,d,e⟩:=h;simp only[cO,bA,decide_eq_true_eq,List.all_eq_true];exact⟨⟨⟨⟨⟨⟨a,b⟩,hl⟩,d⟩,e⟩,fun w h=>by simp only[oD,bA,decide_eq_true_eq];exact⟨⟨(hw w h).1,(hw w h).2.1⟩,(hw w h).2.2⟩⟩,c⟩
def I5{S:List ah}{L:Int}(h:DG S L){W:List bE}(hw:∀w∈W,0<=w.at_/\w.at_<S.length/\w.data.length=128)(hl:W.length<4096){a:Int}{b:ah}(ha:0<=a)(V6:a<S.length)(hb:b.length=128):
 lU ⟨S,W,L,false⟩ a b=(⟨S,W++[⟨a,b⟩],L,false⟩,0):=by
 have h1:j9 ⟨S,W,L,false⟩=true:=by simp[j9,h.cg hw oM]
 have h2:hasB ⟨S,W,L,false⟩ a=true:=by simp[hasB,ha,V6]
 have h3:mc b=b:=by simp[mc,hb]
 unfold lU;rw[if_pos ⟨h1,h2⟩,if_pos oM,if_neg (show ¬W.length=4096 by omega),h3]
def FH{g a k:Nat}{b:ah}(h:k<bm b):(iO g a b).take (k+1)=(iO g a b).take k++[eQ g a (bm b) b k]:=by rw[List.take_add_one,iO,gM,List.getElem?_range h];rfl
end Go.V.Jn
namespace Go.V.Jn
open Go.Proofs Go.Proofs.Tryz Go.RowKit Go.V.Lx Go.V.Gr Go.V.Ty Go.V.St
theorem DZ:∀(a b:List ah),a.length=b.length->decide (a=b)=(a.zip b).all fun p=>p.1==p.2
 |[],[],_=>rfl
 |x::a,y::b,h=>by
  rw[List.zip_cons_cons,List.all_cons,<-DZ a b (by simpa using h),Bool.eq_iff_iff];simp
instance(a b:List ah):Ct 51 [.sl 1 (a.map aT),.sl 1 (b.map aT),.fn (.func 52) []] (Lm a/\Lm b) (.bool (decide (a=b))):=by
 refine bf f51 [] [.tmp 6] fun pre=>?_;obtain⟨h1,h2⟩:=pre;by_cases hl:a.length=b.length
 rotate_left
 ·have hc:¬(a.length:Int)=b.length:=oM;have he:decide (a=b)=false:=decide_eq_false fun h=>hl (by rw[h]);rw[he];repeat' first|exact zQ|with_reducible apply zJ<;>intro _|refine zK ?_
 rw[DZ a b hl];have hz:(a.zip b).length=a.length:=by simp;omega
 generalize hA:List.all _ _=A;have hc:(b.length:Int)=a.length:=oM;clear hl;repeat' first|exact zQ|with_reducible apply zJ<;>intro _|refine zK ?_
 refine gR (a.zip b) hA 17 [(6,9),(17,31)] [] (by simp[Lm];omega) sG (fun j x τ β hx hj hw hi aQ=>?_) fun τ β hn hi ha=>?_
 ·rw[List.getElem?_zip_eq_some]at hx;obtain⟨y5,eO⟩:=hx;rw[hz]at hj;clear hA hz;repeat' first|exact zQ|with_reducible apply zJ<;>intro _|refine zK ?_
  all_goals first|with_reducible exact .refl _|(refine ab ?_;have aQ:=aQ.out zz;simp[*];done)|((try refine ab ?_);exact zz)
 ·rw[hz]at hn hi;repeat' first|exact zQ|with_reducible apply zJ<;>intro _|refine zK ?_
  all_goals first|with_reducible exact .refl _|(refine ab ?_;have aQ:=aQ.out zz;simp[*];done)|((try refine ab ?_);exact zz)
end Go.V.Jn
