/- Lemmas on plain data and programs: part B23. -/
import Derived.Test.YtkgloohlmogakaaGreatDoorB22
set_option linter.all false
set_option maxHeartbeats 8000000
set_option maxRecDepth 100000
namespace Go.V.Jn
open Go.V.Lx Go.V.Gr
def be:Nat->Nat->ah
 |0,_=>[]
 |k+1,n=>UInt8.ofNat (n / 256 ^ k)::be k n
def num(l:ah):Nat:=l.foldl (fun n c=>256 * n+c.toNat) 0
theorem fC:∀(k n:Nat),(be k n).length=k
 |0,_=>rfl
 |k+1,n=>by simp[be,fC k n]
theorem HD:∀(l:ah) (a:Nat),l.foldl (fun n c=>256 * n+c.toNat) a=a * 256 ^ l.length+num l
 |[],a=>by simp[num]
 |c::l,a=>by
  unfold num;rw[List.foldl_cons,List.foldl_cons,HD l,HD l (256 * 0+c.toNat),List.length_cons,Nat.pow_succ,Nat.add_mul];have:256 * a * 256 ^ l.length=a * (256 ^ l.length * 256):=by rw[Nat.mul_comm 256 a,Nat.mul_assoc,Nat.mul_comm 256]
  rw[this];simp[Nat.add_assoc]
def Bn(c:UInt8)(l:ah):num (c::l)=c.toNat * 256 ^ l.length+num l:=by
 show List.foldl _ _ _=_;rw[List.foldl_cons,HD];simp
theorem mh:∀l:ah,num l<256 ^ l.length
 |[]=>by simp[num]
 |c::l=>by
  rw[Bn,List.length_cons,Nat.pow_succ];have:=mh l;have h2:c.toNat<256:=c.toNat_lt;have h3:c.toNat * 256 ^ l.length<=255 * 256 ^ l.length:=Nat.mul_le_mul_right _ oM;omega
theorem My:∀(k n:Nat) {m:Nat},k<=m->be k (n % 256 ^ m)=be k n
 |0,n,m,h=>rfl
 |k+1,n,m,h=>by
  unfold be;rw[My k n oM]
  congr 1
  apply UInt8.toNat_inj.1;have e:256 ^ m=256 ^ k * 256 ^ (m - k):=by rw[<-Nat.pow_add];congr 1;omega
  rw[e,Nat.mod_mul_right_div_self];simp only[UInt8.toNat_ofNat',Nat.reducePow];have:256 ^ (m - k)=256 * 256 ^ (m - k - 1):=by rw[<-Nat.pow_succ'];congr 1;omega
  rw[this,Nat.mod_mul_right_mod]
theorem tQ:∀(k n:Nat),num (be k n)=n % 256 ^ k
 |0,n=>by simp[be,num,Nat.mod_one]
 |k+1,n=>by
  rw[be,Bn,fC,tQ k n];simp only[UInt8.toNat_ofNat',Nat.reducePow];rw[Nat.pow_succ,Nat.mod_mul,Nat.mul_comm,Nat.add_comm]
theorem xZ:∀(l:ah) {k:Nat},l.length=k->be k (num l)=l
 |[],k,h=>by subst h;rfl
 |c::l,k,h=>by
  subst h;rw[List.length_cons,be,Bn]
  congr 1
  ·have:=mh l;apply UInt8.toNat_inj.1;rw[Nat.mul_comm,Nat.mul_add_div oM,Nat.div_eq_of_lt this,Nat.add_zero];simp
  ·rw[<-My l.length _ (Nat.le_refl _),Nat.mul_comm,Nat.mul_add_mod,Nat.mod_eq_of_lt (mh l)];exact xZ l rfl
def gv(n:Nat):Nat:=if n % 2=1 then(n / 2) ^^^ 3988292384 else n / 2
def iR(n:Nat)(c:UInt8):Nat:=Nat.repeat gv 8 (n ^^^ c.toNat)
def xB(l:ah):Nat:=(l.foldl iR 4294967295) ^^^ 4294967295
def body(k:Nat)(kind:UInt8)(b:ah):ah:=be 2 k++(kind::UInt8.ofNat b.length::(b++List.replicate (112 - b.length) 0))
def ei(g k:Nat)(kind:UInt8)(b:ah):ah:=be 4 g++(be 4 (xB (body k kind b))++(body k kind b++be 4 g))
def v8{k:Nat}{kind:UInt8}{b:ah}(h:b.length<=112):(body k kind b).length=116:=by simp[body,fC];omega
def xj{g k:Nat}{kind:UInt8}{b:ah}(h:b.length<=112):(ei g k kind b).length=128:=by simp[ei,fC,v8 h]
def sg(s:ah):Nat:=(s.getD 10 0).toNat
def bT(s:ah):Nat:=(s.getD 11 0).toNat
def gen(s:ah):Nat:=num (s.take 4)
def piece(s:ah):ah:=(s.drop 12).take (bT s)
def su(s:ah):Bool:=decide (bT s<=112)&&decide (sg s<=3)&&(decide (2<=sg s)||decide (bT s=112))&&(decide (sg s % 2=1)||decide (bT s≠0))&&decide (0<gen s)
def gD(s:ah)(k:Nat):Bool:=su s&&(s==ei (gen s) k (s.getD 10 0) (piece s))
def Cg{n:Nat}(h:n<4294967296):gv n<4294967296:=by
 unfold gv;split
 ·exact Nat.xor_lt_two_pow (n:=32) oM (by decide)
 ·omega
def Cf{n:Nat}{c:UInt8}(h:n<4294967296):iR n c<4294967296:=by
 unfold iR;have:n ^^^ c.toNat<4294967296:=Nat.xor_lt_two_pow (n:=32) h (by have:=c.toNat_lt;omega);generalize n ^^^ c.toNat=m at this;have:∀k m,m<4294967296->Nat.repeat gv k m<4294967296:=by
  intro k;induction k with
  |zero=>intro m h;exact h
  |succ k ih=>intro m h;exact Cg (ih m h)
 exact this 8 m ‹_›
def MX(l:ah):xB l<4294967296:=by
 have:∀(l:ah) n,n<4294967296->l.foldl iR n<4294967296:=by
  intro l;induction l with
  |nil=>intro n h;exact h
  |cons c l ih=>intro n h;exact ih _ (Cf h)
 exact Nat.xor_lt_two_pow (n:=32) (this l _ (by decide)) (by decide)
def PU{s:ah}{k:Nat}(hs:s.length=128)(hf:su s=true)(hk:k<65536):
 (s==ei (gen s) k (s.getD 10 0) (piece s))=(decide (gen s=num (s.drop 124))&&decide (num ((s.drop 4).take 4)=xB ((s.drop 8).take 116))&&decide (num ((s.drop 8).take 2)=k)&&(s.drop (12+bT s)).take (112 - bT s)==List.replicate (112 - bT s) 0):=by
 have hc:bT s<=112:=by simp[su]at hf;omega
 have hp:(piece s).length=bT s:=by simp[piece];omega
 have e1:s=s.take 4++((s.drop 4).take 4++((s.drop 8).take 116++s.drop 124)):=by
  have a1:s.drop 8=(s.drop 8).take 116++s.drop 124:=by
   conv=>lhs;rw[<-List.take_append_drop 116 (s.drop 8)]
   rw[List.drop_drop]
  have a2:s.drop 4=(s.drop 4).take 4++s.drop 8:=by
   conv=>lhs;rw[<-List.take_append_drop 4 (s.drop 4)]
   rw[List.drop_drop]
  conv=>lhs;rw[<-List.take_append_drop 4 s,a2,a1]
 have e2:(s.drop 8).take 116=(s.drop 8).take 2++(s.getD 10 0::s.getD 11 0::(piece s++(s.drop (12+bT s)).take (112 - bT s))):=by
  have a1:(s.drop 8).take 116=(s.drop 8).take 2++(s.drop 10).take 114:=by rw[show(116:Nat)=2+114 from rfl,List.take_add,List.drop_drop]
  have a2:(s.drop 10).take 114=s.getD 10 0::(s.drop 11).take 113:=by rw[List.drop_eq_getElem_cons oM,List.take_succ_cons,List.getD_eq_getElem?_getD,gE oM,Option.getD_some]
  have a3:(s.drop 11).take 113=s.getD 11 0::(s.drop 12).take 112:=by rw[List.drop_eq_getElem_cons oM,List.take_succ_cons,List.getD_eq_getElem?_getD,gE oM,Option.getD_some]
  have a4:(s.drop 12).take 112=piece s++(s.drop (12+bT s)).take (112 - bT s):=by
   unfold piece
   conv=>lhs;rw[show(112:Nat)=bT s+(112 - bT s) by omega,List.take_add,List.drop_drop]
  rw[a1,a2,a3,a4]
 have l1:(s.take 4).length=4:=by simp;omega
 have l2:((s.drop 4).take 4).length=4:=by simp;omega
 have l3:((s.drop 8).take 116).length=116:=by simp;omega
 have l4:(s.drop 124).length=4:=by simp;omega
 have l5:((s.drop 8).take 2).length=2:=by simp;omega
 have ad_:UInt8.ofNat (piece s).length=s.getD 11 0:=by rw[hp];apply UInt8.toNat_inj.1;simp[bT]
 rw[Bool.eq_iff_iff];simp only[bA,beq_iff_eq,decide_eq_true_eq];constructor
 ·intro h;have h0:=h;unfold ei at h;have hb:(body k (s.getD 10 0) (piece s)).length=116:=v8 oM
  conv at h=>lhs;rw[e1]
  obtain⟨h1,h⟩:=List.append_inj h (by rw[l1,fC]);obtain⟨h2,h⟩:=List.append_inj h (by rw[l2,fC]);obtain⟨h3,h4⟩:=List.append_inj h (by rw[l3,hb]);have h5:=h3;rw[e2]at h5;unfold body at h5;obtain⟨h6,h7⟩:=List.append_inj h5 (by rw[l5,fC]);simp only[List.cons.injEq]at h7;have h8:=List.append_cancel_left h7.2.2;refine⟨⟨⟨?_,?_⟩,?_⟩,?_⟩
  ·rw[h4,tQ];exact(Nat.mod_eq_of_lt (by have:=mh (s.take 4);rw[l1]at this;exact this)).symm
  ·rw[h3,h2,tQ];exact Nat.mod_eq_of_lt (MX _)
  ·rw[h6,tQ];exact Nat.mod_eq_of_lt hk
  ·rw[h8,hp]
 ·rintro⟨⟨⟨h1,h2⟩,h3⟩,h4⟩;have hb:(s.drop 8).take 116=body k (s.getD 10 0) (piece s):=by
   rw[e2,h4];unfold body;rw[ad_,hp,<-h3,xZ _ l5]
  have g1:s.take 4=be 4 (gen s):=(xZ _ l1).symm;have g2:s.drop 124=be 4 (gen s):=by rw[h1];exact(xZ _ l4).symm
  conv=>lhs;rw[e1]
  unfold ei;rw[<-hb,<-h2,xZ _ l2,g1,g2]
def ew(u:Nat):ah:=if u<128 then[UInt8.ofNat u]else UInt8.ofNat (u % 128+128)::ew (u / 128)
termination_by u
decreasing_by omega
def wN{u:Nat}(h:u<128):ew u=[UInt8.ofNat u]:=by rw[ew,if_pos h]
def Bm{u:Nat}(h:¬u<128):ew u=UInt8.ofNat (u % 128+128)::ew (u / 128):=by rw[ew,if_neg h]
theorem HC:∀(k:Nat) {u:Nat},u<128 ^ (k+1)->(ew u).length<=k+1
 |0,u,h=>by rw[ew,if_pos (by simpa using h)];simp
 |k+1,u,h=>by
  rw[ew];split
  ·simp
  ·have:=HC k (u:=u / 128) (by rw[Nat.div_lt_iff_lt_mul oM];rw[Nat.pow_succ]at h;exact h);simp;omega
def rO(n:Int):Nat:=if 0<=n then 2 * n.toNat else 2 * (-(n+1)).toNat+1
inductive aR where
 |i (n:Int)
 |t (s:ah)
 |l (xs:List aR)
mutual
def cp:aR->ah
 | .i n=>1::ew (rO n)
 | .t s=>2::(ew s.length++s)
 | .l xs=>3::(ew xs.length++dN xs)
def dN:List aR->ah
 |[]=>[]
 |x::xs=>cp x++dN xs
end
mutual
def eW:aR->Nat
 | .l xs=>eZ xs+1
 |_=>0
def eZ:List aR->Nat
 |[]=>0
 |x::xs=>max (eW x) (eZ xs)
end
theorem wu:∀xs ys:List aR,dN (xs++ys)=dN xs++dN ys
 |[],ys=>rfl
 |x::xs,ys=>by simp[dN,wu xs ys]
theorem A9:∀xs ys:List aR,eZ (xs++ys)=max (eZ xs) (eZ ys)
 |[],ys=>by simp[eZ]
 |x::xs,ys=>by simp[eZ,A9 xs ys]
theorem Pt{xs:List aR}{x:aR}(h:x∈xs):eW x<=eZ xs:=by
 induction xs with
 |nil=>cases h
 |cons y xs ih=>
  rcases List.mem_cons.1 h with rfl|h
  ·simp[eZ];omega
  ·have:=ih h;simp[eZ];omega
def HN{a b i:Nat}(h:a<2 ^ i):a|||b * 2 ^ i=a+b * 2 ^ i:=by rw[Nat.or_comm,<-Nat.shiftLeft_eq,<-Nat.shiftLeft_add_eq_or_of_lt h,Nat.add_comm]
def Xo(i:Nat):128 ^ i=2 ^ (7 * i):=by rw[Nat.pow_mul]
def DA{n:Int}(h1: -9223372036854775808<=n)(h2:n<=9223372036854775807):rO n<18446744073709551616:=by unfold rO;split<;>omega
def cY(l:List ah)(at_ last:Nat):Nat->Nat->ah->Option (ah×Nat)
 |0,_,_=>none
 |f+1,n,acc=>match l[n]? with
  |none=>none
  |some s=>if(gD s n&&(decide (sg s % 2=1)==decide (n=at_))&&decide (gen s=gen (l.getD at_ []))&&decide (last<=gen s))=true then
   (if 2<=sg s then some (acc++piece s,n+1)else cY l at_ last f (n+1) (acc++piece s))else none
theorem w_(l:List ah)(at_ last:Nat):∀(f n:Nat) (acc:ah),cY l at_ last f n acc=if gen (l.getD at_ [])<last then none else cY l at_ 0 f n acc
 |0,n,acc=>by simp[cY]
 |f+1,n,acc=>by
  unfold cY;cases hs:l[n]? with
  |none=>simp
  |some s=>
   simp only[w_ l at_ last f];generalize gen (l.getD at_ [])=G;by_cases h:gen s=G
   ·rw[h];by_cases h2:G<last
    ·have:¬last<=G:=oM;simp[h2,this]
    ·have:last<=G:=oM;simp[h2,this]
   ·simp[h]
theorem nv{l:List ah}{at_ last:Nat}:∀ {f n:Nat} {acc:ah} {r:ah×Nat},cY l at_ last f n acc=some r->n<r.2/\r.2<=l.length
 |0,n,acc,r,h=>by simp[cY]at h
 |f+1,n,acc,r,h=>by
  unfold cY at h;cases hs:l[n]? with
  |none=>rw[hs]at h;cases h
  |some s=>
   have hn:=(gS.1 hs).1;rw[hs]at h;simp only at h;split at h
   ·split at h
    ·injection h with h;subst h;simp;omega
    ·have:=nv h;omega
   ·cases h
def lM(l:List ah):Nat->Nat->Nat->List (ah×Nat)
 |0,_,_=>[]
 |f+1,at_,last=>match cY l at_ last (l.length - at_) at_ []with
  |none=>[]
  |some (b,n)=>(b,n)::lM l f n (gen (l.getD at_ []))
def jB(l:List ah):List (ah×Nat):=lM l l.length 0 0
end Go.V.Jn
namespace Go.V.Jn
open Go.Proofs Go.RowKit Go.V.Lx Go.V.Gr Go.V.St
def x_(w a:Nat):(BitVec.ofInt w (a:Int)).toNat=a % 2 ^ w:=by simp
def dq{k:IntKind}(hk:k.signed=false){a:Nat}(ha:a<2 ^ k.bits):k.wrap (a:Int)=a:=by cases k<;>simp[IntKind.signed]at hk<;>simp[IntKind.wrap,IntKind.signed,IntKind.bits]at ha⊢ <;>omega
def vX(k:IntKind)(hk:k.signed=false){a b:Nat}(ha:a<2 ^ k.bits):dj .and k a b=((a&&& b:Nat):Int):=by
 have h:a&&& b<2 ^ k.bits:=Nat.lt_of_le_of_lt Nat.and_le_left ha;simp only[dj,BitVec.toNat_and,x_,Nat.mod_eq_of_lt ha];have e:a&&& b % 2 ^ k.bits=a&&& b:=by rw[<-Nat.mod_eq_of_lt h,Nat.and_mod_two_pow,Nat.mod_eq_of_lt ha]
 rw[e];exact dq hk h
def QB(k:IntKind)(hk:k.signed=false){a b:Nat}(ha:a<2 ^ k.bits)(hb:b<2 ^ k.bits):dj .or k a b=((a|||b:Nat):Int):=by
 simp only[dj,BitVec.toNat_or,x_,Nat.mod_eq_of_lt ha,Nat.mod_eq_of_lt hb];exact dq hk (Nat.or_lt_two_pow ha hb)
def uU(k:IntKind)(hk:k.signed=false){a b:Nat}(ha:a<2 ^ k.bits)(hb:b<2 ^ k.bits):dj .xor k a b=((a ^^^ b:Nat):Int):=by
 simp only[dj,BitVec.toNat_xor,x_,Nat.mod_eq_of_lt ha,Nat.mod_eq_of_lt hb];exact dq hk (Nat.xor_lt_two_pow ha hb)
def SO(a:Nat):a&&& 127=a % 128:=by have:=Nat.and_two_pow_sub_one_eq_mod a 7;simpa using this
@[reducible] def aU(s:ah):D:=.sl 1 (a_ s)
@[go_sem] def ub(s:ah):(a_ s).length=s.length:=by simp[a_]
@[go_sem] def rK(s:ah):D.aF (a_ s)=true:=HU (fun _=>rfl) s
@[go_sem] def Iy(s:ah):(a_ s).all D.one=true:=by simp[a_,D.one]
@[go_sem] def agb:a_ []=[]:=rfl
def iu(a b:ah):a_ (a++b)=a_ a++a_ b:=by simp[a_]
def zC(n:Nat)(s:ah):(a_ s).take n=a_ (s.take n):=by simp[a_]
def zB(n:Nat)(s:ah):(a_ s).drop n=a_ (s.drop n):=by simp[a_]
structure bX where
 at_:Int
 data:ah
 deriving DecidableEq
@[reducible] def bX.d(x:bX):D:=.agg [I x.at_,aU x.data]
structure cI where
 aZ:List ah
 bC:List bX
 left:Int
 stop:Bool
 deriving DecidableEq
@[reducible] def cI.l(x:cI):List D:=[.sl 1 (x.aZ.map aU),.sl 2 (x.bC.map bX.d),I x.left,.bool x.stop]
@[reducible] def cI.d(x:cI):D:=.agg x.l
structure gm where
 bh:List ah
 many:Int
 sync:Int
 deriving DecidableEq
@[reducible] def gm.l(x:gm):List D:=[.sl 1 (x.bh.map aU),I x.many,I x.sync]
@[reducible] def gm.d(x:gm):D:=.agg x.l
end Go.V.Jn
namespace Go.V.Jn
open Go.Proofs Go.Proofs.Tryz Go.RowKit Go.V.Lx Go.V.Gr Go.V.St
@[go_sem] def ac8(s:ah)(j:Nat):(a_ s)[j]? =(s[j]?).map fun b=> .int .u8 (b.toNat:Int):=by simp[a_]
@[go_sem] theorem IP:∀s:ah,jd (a_ s)=some s
 |[]=>rfl
 |c::s=>by
  show jd (.int .u8 (c.toNat:Int)::a_ s)=_;rw[jd,IP s];simp
instance(a b:ah):Ct 52 [aU a,aU b] True (.bool (a==b)):=by
 refine bf f52 [] [.tmp 4] fun pre=>?_;repeat' first|exact zQ|with_reducible apply zJ<;>intro _|refine zK ?_
 exact ab (by rw[Bool.beq_eq_decide_eq])
def IH{k:IntKind}(hk:k.signed=false)(c:UInt8):k.wrap (c.toNat:Int)=c.toNat:=dq hk (by have:=c.toNat_lt;cases k<;>simp[IntKind.signed]at hk<;>simp[IntKind.bits]<;>omega)
def HE{s:ah}{j:Nat}{x:UInt8}(h:s[j]? =some x):num (s.take (j+1))=256 * num (s.take j)+x.toNat:=by rw[List.take_add_one,h];simp[num,List.foldl_append]
def PR{n:Nat}(c:UInt8)(h:n<2 ^ 56):dj .or .u64 (IntKind.u64.wrap ((n:Int) * 2 ^ min 8 64)) (IntKind.u64.wrap (c.toNat:Int))=((256 * n+c.toNat:Nat):Int):=by
 have hc:=c.toNat_lt;have e:IntKind.u64.wrap ((n:Int) * 2 ^ min 8 64)=((n * 2 ^ 8:Nat):Int):=by
  rw[show((n:Int) * 2 ^ min 8 64)=((n * 2 ^ 8:Nat):Int) by simp];exact dq rfl (by simp[IntKind.bits];omega)
 rw[e,IH rfl,QB .u64 rfl (by simp[IntKind.bits];omega) (by simp[IntKind.bits];omega),Nat.or_comm,HN oM]
 congr 1;omega
instance(s:ah):Ct 98 [aU s] (s.length<=8) (.int .u64 (num s)):=by
 refine bf f98 [] [.tmp 2] fun pre=>?_;repeat' first|exact zQ|with_reducible apply zJ<;>intro _|refine zK ?_
 refine cm s [(2,2),(4,4),(7,16)] [] (fun j τ _=>τ 7=I j/\τ 2= .int .u64 (num (s.take j))) (by simp[Lm];omega) (by simp[go_sem,num]) (fun j x τ β hx hj hw hi=>?_) fun τ β hn hi=>?_
 ·obtain⟨hi,h2⟩:=hi;have hb:=mh (s.take j);have oy:(256:Nat) ^ (s.take j).length<=256 ^ 7:=Nat.pow_le_pow_right oM (by simp;omega);have hs:=PR x (n:=num (s.take j)) oM;have tG:=HE hx;repeat' first|exact zQ|with_reducible apply zJ<;>intro _|refine zK ?_
 ·obtain⟨hi,h2⟩:=hi;repeat' first|exact zQ|with_reducible apply zJ<;>intro _|refine zK ?_
  rw[tL];exact .refl _
def Pp{m:Nat}(h:m<4294967296):dj .xor .u32 ((m:Int).fdiv (2 ^ min 1 32)) (IntKind.u32.wrap (3988292384 * dj .and .u32 (m:Int) 1))=(gv m:Int):=by
 have e1:(m:Int).fdiv (2 ^ min 1 32)=((m / 2:Nat):Int):=by rw[show(2:Int) ^ min 1 32=((2:Nat):Int) by rfl,Int.fdiv_eq_ediv_of_nonneg _ oM];rfl
 have e2:dj .and .u32 (m:Int) 1=((m % 2:Nat):Int):=by rw[show(1:Int)=((1:Nat):Int)from rfl,vX .u32 rfl (by simpa[IntKind.bits]using h),Nat.and_one_is_mod]
 rw[e1,e2];unfold gv;split
 ·rename_i h1;rw[h1,show(3988292384:Int) * ((1:Nat):Int)=((3988292384:Nat):Int) by rfl,dq rfl (by simp[IntKind.bits]),uU .u32 rfl (by simp[IntKind.bits];omega) (by simp[IntKind.bits])]
 ·have h1:m % 2=0:=oM;rw[h1,show(3988292384:Int) * ((0:Nat):Int)=((0:Nat):Int) by rfl,dq rfl (by simp[IntKind.bits]),uU .u32 rfl (by simp[IntKind.bits];omega) (by simp[IntKind.bits])];simp
theorem Ii{m:Nat}(h:m<4294967296):∀k,Nat.repeat gv k m<4294967296
 |0=>h
 |k+1=>Cg (Ii h k)
def MW{n:Nat}(c:UInt8)(h:n<4294967296):dj .xor .u32 (n:Int) (IntKind.u32.wrap (c.toNat:Int))=((n ^^^ c.toNat:Nat):Int):=by
 have hc:=c.toNat_lt;rw[IH rfl,uU .u32 rfl (by simpa[IntKind.bits]using h) (by simp[IntKind.bits];omega)]
def OS{n:Nat}(c:UInt8)(h:n<4294967296):n ^^^ c.toNat<4294967296:=Nat.xor_lt_two_pow (n:=32) h (by have:=c.toNat_lt;omega)
theorem vo:∀(l:ah) {n:Nat},n<4294967296->l.foldl iR n<4294967296
 |[],n,h=>h
 |c::l,n,h=>vo l (Cf h)
def EG{s:ah}{j:Nat}{x:UInt8}{n:Nat}(h:s[j]? =some x):(s.take (j+1)).foldl iR n=Nat.repeat gv 8 ((s.take j).foldl iR n ^^^ x.toNat):=by rw[List.take_add_one,h];simp[List.foldl_append,iR]
def S1{n:Nat}(h:n<4294967296):dj .xor .u32 (IntKind.u32.max) (n:Int)=((n ^^^ 4294967295:Nat):Int):=by rw[show IntKind.u32.max=((4294967295:Nat):Int)from rfl,uU .u32 rfl (by simp[IntKind.bits]) (by simpa[IntKind.bits]using h),Nat.xor_comm]
instance(s:ah):Ct 163 [aU s] (Lm s) (.int .u32 (xB s)):=by
 refine bf f163 [] [.tmp 2] fun pre=>?_;repeat' first|exact zQ|with_reducible apply zJ<;>intro _|refine zK ?_
 refine cm s [(3,3),(5,5),(8,25)] [] (fun j τ _=>τ 8=I j/\τ 3= .int .u32 ((s.take j).foldl iR 4294967295:Nat)) pre sG (fun j x τ β hx hj hw hi=>?_) fun τ β hn hi=>?_
 ·obtain⟨hi,h2⟩:=hi;have hl:=vo (s.take j) (n:=4294967295) oM;have hs:=MW x hl;have tG:=EG (n:=4294967295) hx;have lG:=OS x hl;generalize(s.take j).foldl iR 4294967295=m at *;repeat' first|exact zQ|with_reducible apply zJ<;>intro _|refine zK ?_
  refine lC [(3,3),(16,24)] [] 8 (fun k τ _=>τ 16=I k/\τ 3= .int .u32 (Nat.repeat gv k (m ^^^ x.toNat):Nat)) (by simp[go_sem,hs,Nat.repeat]) (fun k τ' β' hk gx=>?_) fun τ' β' gx=>?_
  ·obtain⟨gx,h3⟩:=gx;have bw:=Pp (Ii lG k);have bV:(k:Int)<8:=oM;have iL:IntKind.i64.wrap ((k:Int)+1)=((k+1:Nat):Int):=aD oM;repeat' first|exact zQ|with_reducible apply zJ<;>intro _|refine zK ?_
   rfl
  ·obtain⟨gx,h3⟩:=gx;have gx:τ' 16=I 8:=gx;have h8:¬((8:Nat):Int)<8:=by decide
   repeat' first|exact zQ|with_reducible apply zJ<;>intro _|refine zK ?_
 ·obtain⟨hi,h2⟩:=hi;have ho:=S1 (vo s (n:=4294967295) oM);rw[tL]at h2;repeat' first|exact zQ|with_reducible apply zJ<;>intro _|refine zK ?_
  simp only[IntKind.signed,Bool.false_eq_true,if_false,ho];exact .refl _
end Go.V.Jn
namespace Go.V.Jn
open Go.Proofs Go.Proofs.Tryz Go.RowKit Go.V.Lx Go.V.Gr Go.V.Ty Go.V.St
section
variable {f:Nat} {caps:List D}
instance{p:bX->Bool}{q:bX->Prop}[h:∀x,Ct f (bX.d x::caps) (q x) (.bool (p x))](l:List bX):Ct 198 [.sl 2 (l.map bX.d),.fn (.func f) caps] (D.aF caps=true/\Lm l/\∀x∈l,q x) (I (fh p l)):=by
 refine bf f198 [] [.tmp 4] fun pre=>?_;obtain⟨hp,hl,hq⟩:=pre;generalize hA:List.findIdx? p l=A;unfold fh;rw[hA];repeat' first|exact zQ|with_reducible apply zJ<;>intro _|refine zK ?_
 refine vk l hA 8 [(4,5),(8,18)] [] hl sG ?_ ?_
 ·intro j x τ β hx hj hw h8 aP;have hq:=hq x (mG hx);repeat' first|exact zQ|with_reducible apply zJ<;>intro _|refine zK ?_
  rw[aP.out (by assumption)];exact .refl _
 ·intro τ β hn h8 ha;subst ha;repeat' first|exact zQ|with_reducible apply zJ<;>intro _|refine zK ?_
instance{p:bX->Bool}{q:bX->Prop}[h:∀x,Ct f (bX.d x::caps) (q x) (.bool (p x))](l:List bX):Ct 135 [.sl 2 (l.map bX.d),.fn (.func f) caps] (D.aF caps=true/\Lm l/\∀x∈l,q x) (.bool (l.any p)):=by
 refine bf f135 [] [.tmp 4] fun pre=>?_;obtain⟨hp,hl,hq⟩:=pre;rw[<-jJ];repeat' first|exact zQ|with_reducible apply zJ<;>intro _|refine zK ?_
instance{p:ah->Bool}{q:ah->Prop}[h:∀x,Ct f (aU x::caps) (q x) (.bool (p x))](l:List ah):Ct 199 [.sl 1 (l.map aU),.fn (.func f) caps] (D.aF caps=true/\Lm l/\∀x∈l,q x) (I (fh p l)):=by
 refine bf f199 [] [.tmp 4] fun pre=>?_;obtain⟨hp,hl,hq⟩:=pre;generalize hA:List.findIdx? p l=A;unfold fh;rw[hA];repeat' first|exact zQ|with_reducible apply zJ<;>intro _|refine zK ?_
 refine vk l hA 8 [(4,5),(8,18)] [] hl sG ?_ ?_
 ·intro j x τ β hx hj hw h8 aP;have hq:=hq x (mG hx);repeat' first|exact zQ|with_reducible apply zJ<;>intro _|refine zK ?_
  rw[aP.out (by assumption)];exact .refl _
 ·intro τ β hn h8 ha;subst ha;repeat' first|exact zQ|with_reducible apply zJ<;>intro _|refine zK ?_
instance{p:ah->Bool}{q:ah->Prop}[h:∀x,Ct f (aU x::caps) (q x) (.bool (p x))](l:List ah):Ct 136 [.sl 1 (l.map aU),.fn (.func f) caps] (D.aF caps=true/\Lm l/\∀x∈l,q x) (.bool (l.any p)):=by
 refine bf f136 [] [.tmp 4] fun pre=>?_;obtain⟨hp,hl,hq⟩:=pre;rw[<-jJ];repeat' first|exact zQ|with_reducible apply zJ<;>intro _|refine zK ?_
end
instance(es:List D):Ct 40 [.sl 8 es] True (.g_ 8 es):=by
 refine bf f40 [] [.tmp 2] fun pre=>?_;repeat' first|exact zQ|with_reducible apply zJ<;>intro _|refine zK ?_
 rw[tL];exact .refl _
instance(es:List D):Ct 81 [.sl 1 es] True (.g_ 1 es):=by
 refine bf f81 [] [.tmp 2] fun pre=>?_;repeat' first|exact zQ|with_reducible apply zJ<;>intro _|refine zK ?_
 rw[tL];exact .refl _
instance(es:List D):Ct 160 [.sl 2 es] True (.g_ 2 es):=by
 refine bf f160 [] [.tmp 2] fun pre=>?_;repeat' first|exact zQ|with_reducible apply zJ<;>intro _|refine zK ?_
 rw[tL];exact .refl _
theorem eT.out{B sz el:Nat}{l:List D}{bx bx':ae}{d:D}(h:eT B sz el l bx d bx')(hp:D.aF l=true):∃r,bz bx' d=some r/\bN r (.sl sz l):=by
 by_cases hl:l=[]
 ·subst hl;exact h.none.out rfl
 ·obtain⟨e,rfl,h2⟩:=h.own hl;exact(aX.mk (ts:=[B+7]) sI h2).out hp
def Gm(B:Nat)(l:List D)(hl:l.length<=1048576)(bx:ae):bj prog 82 0 [.sl 1 l] bx (eT B 1 5 l bx) (fun _ _=>False):=by
 refine aI (fn:=f82) (tab:=[(1000005,[])]) (base:=B) mixed ?_ rfl aj rfl;refine aJ _ [.tmp 2] 8 rfl rfl rfl aj ?_;cases l with
 |nil=>
  simp(disch:=omega) only[go_sem,List.isEmpty_nil];refine⟨⟨.inl ⟨rfl,.nil _ _ _ _⟩,fun _ _=>rfl⟩,?_⟩;refine iB (ts:=[B+5]) (xs:=[]) (.inr ⟨B+5,(bx (B+5)).ep+1,by simp,rfl,by simp[ak]⟩) ?_;simp(disch:=omega) only[go_sem];exact⟨.inl ⟨rfl,.inr ⟨B+5,(bx (B+5)).ep+1,by simp,rfl,by simp[ak]⟩⟩,fun s hs=>by simp(disch:=omega) only[aB,if_neg]⟩
 |cons x l=>
  simp only[List.length_cons]at hl;simp(disch:=omega) only[go_sem,List.isEmpty_cons];refine gP (ts:=[B+5]) (xs:=[]) (.inr ⟨B+5,(bx (B+5)).ep+1,by simp,rfl,by simp[ak]⟩) sI sG (by simp;omega) oM oM sI fun e' bx' h1 h2=>?_;simp(disch:=omega) only[go_sem];refine⟨.inr ⟨by simp,e',by simp,by simpa using h1⟩,fun s hs=>?_⟩;rw[h2 s oM (by simp;omega)];simp(disch:=omega) only[aB,if_neg]
instance(es:List D):Ct 82 [.sl 1 es] (es.length<=1048576/\D.aF es=true) (.sl 1 es):=⟨fun h=>(Gm 0 es h.1 _).to (fun _ _ h=>h) fun d' bx' hc=>eT.out hc h.2⟩
def Pe(B:Nat)(l:List D)(hl:l.length<=1048576)(bx:ae):bj prog 218 0 [.sl 1 l] bx (eT B 1 71 l bx) (fun _ _=>False):=by
 refine aI (fn:=f218) (tab:=[(1000005,[])]) (base:=B) mixed ?_ rfl aj rfl;refine aJ _ [.tmp 2] 8 rfl rfl rfl aj ?_;cases l with
 |nil=>
  simp(disch:=omega) only[go_sem,List.isEmpty_nil];refine⟨⟨.inl ⟨rfl,.nil _ _ _ _⟩,fun _ _=>rfl⟩,?_⟩;refine iB (ts:=[B+5]) (xs:=[]) (.inr ⟨B+5,(bx (B+5)).ep+1,by simp,rfl,by simp[ak]⟩) ?_;simp(disch:=omega) only[go_sem];exact⟨.inl ⟨rfl,.inr ⟨B+5,(bx (B+5)).ep+1,by simp,rfl,by simp[ak]⟩⟩,fun s hs=>by simp(disch:=omega) only[aB,if_neg]⟩
 |cons x l=>
  simp only[List.length_cons]at hl;simp(disch:=omega) only[go_sem,List.isEmpty_cons];refine gP (ts:=[B+5]) (xs:=[]) (.inr ⟨B+5,(bx (B+5)).ep+1,by simp,rfl,by simp[ak]⟩) sI sG (by simp;omega) oM oM sI fun e' bx' h1 h2=>?_;simp(disch:=omega) only[go_sem];refine⟨.inr ⟨by simp,e',by simp,by simpa using h1⟩,fun s hs=>?_⟩;rw[h2 s oM (by simp;omega)];simp(disch:=omega) only[aB,if_neg]
def Pf(B:Nat)(l:List D)(hl:l.length<=1048576)(bx:ae):bj prog 161 0 [.sl 2 l] bx (eT B 2 144 l bx) (fun _ _=>False):=by
 refine aI (fn:=f161) (tab:=[(1000005,[])]) (base:=B) mixed ?_ rfl aj rfl;refine aJ _ [.tmp 2] 8 rfl rfl rfl aj ?_;cases l with
 |nil=>
  simp(disch:=omega) only[go_sem,List.isEmpty_nil];refine⟨⟨.inl ⟨rfl,.nil _ _ _ _⟩,fun _ _=>rfl⟩,?_⟩;refine iB (ts:=[B+5]) (xs:=[]) (.inr ⟨B+5,(bx (B+5)).ep+1,by simp,rfl,by simp[ak]⟩) ?_;simp(disch:=omega) only[go_sem];exact⟨.inl ⟨rfl,.inr ⟨B+5,(bx (B+5)).ep+1,by simp,rfl,by simp[ak]⟩⟩,fun s hs=>by simp(disch:=omega) only[aB,if_neg]⟩
 |cons x l=>
  simp only[List.length_cons]at hl;simp(disch:=omega) only[go_sem,List.isEmpty_cons];refine gP (ts:=[B+5]) (xs:=[]) (.inr ⟨B+5,(bx (B+5)).ep+1,by simp,rfl,by simp[ak]⟩) sI sG (by simp;omega) oM oM sI fun e' bx' h1 h2=>?_;simp(disch:=omega) only[go_sem];refine⟨.inr ⟨by simp,e',by simp,by simpa using h1⟩,fun s hs=>?_⟩;rw[h2 s oM (by simp;omega)];simp(disch:=omega) only[aB,if_neg]
instance(es:List D):Ct 161 [.sl 2 es] (es.length<=1048576/\D.aF es=true) (.sl 2 es):=⟨fun h=>(Pf 0 es h.1 _).to (fun _ _ h=>h) fun d' bx' hc=>eT.out hc h.2⟩
end Go.V.Jn
namespace Go.V.Jn
open Go.Proofs Go.Proofs.Tryz Go.RowKit Go.V.Lx Go.V.Gr Go.V.Ty Go.V.St
def gu(s:ah)(j k n:Nat):ah:=s.take j++(be k n++s.drop (j+k))
@[go_sem] def w6{s:ah}{j k n:Nat}(h:j+k<=s.length):(gu s j k n).length=s.length:=by simp[gu,fC];omega
attribute [go_sem] zC zB
def mi(s:ah)(j:Nat)(b:ah):ah:=s.take j++(b++s.drop (j+b.length))
@[go_sem] def D3{s b:ah}{j:Nat}(h:j+b.length<=s.length):(mi s j b).length=s.length:=by simp[mi];omega
@[go_sem high] def acV{X:ah}{i:Nat}(c:UInt8)(h:i+1<=X.length):fi (.agg (a_ X)) i [.int .u8 (c.toNat:Int)]=some (.agg (a_ (mi X i [c]))):=by
 unfold fi;rw[if_pos (by simp[D.cells,a_];omega)];simp[mi,a_]
@[go_sem] def aga(n:Nat)(b:ah)(h:b.length<=n):a_ (b.take n)=a_ b:=by rw[List.take_of_length_le h]
@[go_sem] def adK(s b:ah)(i:Nat):a_ (List.take i s)++a_ b++a_ (List.drop (i+b.length) s)=a_ (mi s i b):=by simp[mi,a_]
def Ir{X:ah}{i:Nat}(c:UInt8)(h:i<X.length):fi (.agg (a_ X)) i [.int .u8 (c.toNat:Int)]=some (.agg (a_ (X.take i++c::X.drop (i+1)))):=by
 unfold fi;rw[if_pos (by simp[D.cells,a_];omega)];simp[a_]
def Ol{s:ah}{j k n i:Nat}(h:j+k<=s.length)(hi:i<k):let X:=gu s (j+(k - i)) i n
 X.take (j+(k - 1 - i))++UInt8.ofNat (n / 256 ^ i)::X.drop (j+(k - 1 - i)+1)=gu s (j+(k - (i+1))) (i+1) n:=by
 have e1:j+(k - 1 - i)+1=j+(k - i):=oM;have e2:j+(k - 1 - i)=j+(k - (i+1)):=oM;simp only[gu,be];rw[e1,e2,List.take_append_of_le_length (by simp;omega),List.take_take,List.drop_append,List.drop_of_length_le (by simp;omega),List.nil_append,show min (j+(k - (i+1))) (j+(k - i))=j+(k - (i+1)) by omega]
 congr 1
 simp only[List.cons_append,List.length_take,List.cons.injEq,true_and];rw[show min (j+(k - i)) s.length=j+(k - i) by omega,Nat.sub_self,List.drop_zero]
 congr 2<;>omega
def QY(n i:Nat)(h:i<8):IntKind.u8.wrap ((n:Int).fdiv (2 ^ min (8 * (i:Int)).toNat 64))=((UInt8.ofNat (n / 256 ^ i)).toNat:Int):=by
 have e:min (8 * (i:Int)).toNat 64=8 * i:=oM;rw[e,show(2:Int) ^ (8 * i)=((2 ^ (8 * i):Nat):Int) by simp,Int.fdiv_eq_ediv_of_nonneg _ (Int.natCast_nonneg _),Nat.pow_mul];rw[show((n:Int) / ((2 ^ 8) ^ i:Nat))=((n / 256 ^ i:Nat):Int) by simp];simp[IntKind.wrap,IntKind.signed,IntKind.bits]
def TE{α:Type}{t:Nat}{β σ:Nat->α}{v:α}(h:β t=v):bn [(t,t)] β σ=ak σ t v:=by
 funext q;rw[N2,Qw];by_cases hq:q=t
 ·subst hq;simp[ak,h]
 ·simp only[ak,if_neg hq];split<;>first|rfl|(rw[if_neg oM])
def ZZ(e j k sz ty n:Nat)(s:ah)(bx:ae)(hb:bx 9=⟨e,1,sz,ty,[.agg (a_ s)]⟩)(hj:j+k<=s.length)(hk:k<=8):
 bj prog 162 35 [.fH 9 e 0 j k,.int .u64 n] bx (fun d bx'=>d= .aL []/\bx'=ak bx 9 ⟨e,1,sz,ty,[.agg (a_ (gu s j k n))]⟩) (fun _ _=>False):=by
 refine aI (fn:=f162) (tab:=[]) (base:=35) mixed ?_ rfl aj rfl;refine aJ _ [] 23 rfl rfl rfl aj ?_;repeat' first|exact zQ|with_reducible apply zJ<;>intro _|refine zK ?_
 refine lC [(4,4),(7,22)] [(9,9)] k (fun i τ β=>τ 7=I i/\β 9=⟨e,1,sz,ty,[.agg (a_ (gu s (j+(k - i)) i n))]⟩) (by simp[go_sem,gu,be,hb]) (fun i τ β hi hv=>?_) fun τ β hv=>?_
 ·obtain⟨h7,hT⟩:=hv;have h1:=Ir (UInt8.ofNat (n / 256 ^ i)) (X:=gu s (j+(k - i)) i n) (i:=j+(k - 1 - i)) (by rw[w6 oM];omega);rw[Ol hj hi]at h1;have h2:=QY n i oM;have h3:((k:Int) - 1 - (i:Int)).toNat=k - 1 - i:=oM;have h4:(i:Int)<(k:Int):=oM;have h6:IntKind.i64.wrap ((i:Int)+1)=((i+1:Nat):Int):=aD oM;repeat' first|exact zQ|with_reducible apply zJ<;>intro _|refine zK ?_
 ·obtain⟨h7,hT⟩:=hv;have h4:¬(k:Int)<(k:Int):=oM;rw[Nat.sub_self,Nat.add_zero]at hT;repeat' first|exact zQ|with_reducible apply zJ<;>intro _|refine zK ?_
  exact TE hT
def cK:ah:=List.replicate 128 0
@[go_sem] def nK:cK.length=128:=by simp[cK]
@[go_sem ↓] def agl:iZ (an prog 236)=some (.agg (a_ cK)):=by
 simp only[go_sem];rfl
def HX(s:ah)(j k n:Nat):gu s j k n=mi s j (be k n):=by simp[gu,mi,fC]
def qG{x y z y':ah}{j:Nat}(h:x.length=j)(h2:y.length=y'.length):mi (x++(y++z)) j y'=x++(y'++z):=by
 subst h;simp[mi,<-h2]
abbrev rep(n:Nat):ah:=List.replicate n 0
def Rm{n:Nat}(h:n<=112):cK=[]++(rep 4++(rep 4++(rep 2++(rep 1++(rep 1++(rep n++(rep (112 - n)++rep 4))))))):=by
 unfold cK;simp only[List.nil_append,rep,List.replicate_append_replicate]
 congr 1
 omega
def TV{g k:Nat}{kind:UInt8}{b S:ah}(hb:b.length<=112)(h:gu (mi (mi (mi (gu (gu cK 0 4 g) 8 2 k) 10 [kind]) 11 [UInt8.ofNat b.length]) 12 b) 124 4 g=S):
 gu S 4 4 (xB ((S.drop 8).take 116))=ei g k kind b:=by
 have hS:S=be 4 g++(rep 4++(body k kind b++be 4 g)):=by
  subst h;simp only[HX];rw[Rm hb,qG (x:=[]) (j:=0) rfl (by simp[fC]),List.nil_append];rw[show be 4 g++(rep 4++(rep 2++(rep 1++(rep 1++(rep b.length++(rep (112 - b.length)++rep 4))))))=(be 4 g++rep 4)++(rep 2++(rep 1++(rep 1++(rep b.length++(rep (112 - b.length)++rep 4))))) by simp only[List.append_assoc],qG (by simp[fC]) (by simp[fC])];rw[show(be 4 g++rep 4)++(be 2 k++(rep 1++(rep 1++(rep b.length++(rep (112 - b.length)++rep 4)))))=(be 4 g++rep 4++be 2 k)++(rep 1++(rep 1++(rep b.length++(rep (112 - b.length)++rep 4)))) by simp only[List.append_assoc],qG (by simp[fC]) sI];rw[show(be 4 g++rep 4++be 2 k)++([kind]++(rep 1++(rep b.length++(rep (112 - b.length)++rep 4))))=(be 4 g++rep 4++be 2 k++[kind])++(rep 1++(rep b.length++(rep (112 - b.length)++rep 4))) by simp only[List.append_assoc],qG (by simp[fC]) sI];rw[show(be 4 g++rep 4++be 2 k++[kind])++([UInt8.ofNat b.length]++(rep b.length++(rep (112 - b.length)++rep 4)))=(be 4 g++rep 4++be 2 k++[kind]++[UInt8.ofNat b.length])++(rep b.length++(rep (112 - b.length)++rep 4)) by simp only[List.append_assoc],qG (by simp[fC]) sI];rw[show(be 4 g++rep 4++be 2 k++[kind]++[UInt8.ofNat b.length])++(b++(rep (112 - b.length)++rep 4))=(be 4 g++rep 4++be 2 k++[kind]++[UInt8.ofNat b.length]++b++rep (112 - b.length))++(rep 4++[]) by simp only[List.append_assoc,List.append_nil],qG (by simp[fC];omega) (by simp[fC])];simp[body]
 have hB:=v8 (k:=k) (kind:=kind) hb;have h8:(S.drop 8).take 116=body k kind b:=by rw[hS,show be 4 g++(rep 4++(body k kind b++be 4 g))=(be 4 g++rep 4)++(body k kind b++be 4 g) by simp only[List.append_assoc],List.drop_left' (by simp[fC]),List.take_left' hB]
 rw[h8,hS,HX,qG (by simp[fC]) (by simp[fC])];rfl
def we{e j k sz ty n:Nat}{s:ah}{bx:ae}{K:Cl->D->ae->Prop}{tab:List (Nat×List (Nat×Nat))}{yl:Option (List (List D)×Nat×Nat)}{pn df:Bool}{base:Nat}(hb:bx 9=⟨e,1,sz,ty,[.agg (a_ s)]⟩)(hj:j+k<=s.length)(hk:k<=8)
 (h:K .wa (.aL []) (ak bx 9 ⟨e,1,sz,ty,[.agg (a_ (gu s j k n))]⟩)):fz ⟨cJ prog,tab,base,35,0,yl,pn,df⟩ 162 [.fH 9 e 0 j k,.int .u64 n] bx K:=
 aC (ZZ e j k sz ty n s bx hb hj hk) rfl fun d bx' hq=>by obtain⟨rfl,rfl⟩:=hq;exact h
instance(g k:Nat)(kind:UInt8)(b:ah):Ct 100 [.int .u64 g,I k,.int .u8 kind.toNat,aU b] (b.length<=112/\k<65536) (aU (ei g k kind b)):=by
 refine bf f100 [(2000007,[])] [.tmp 8] fun pre=>?_;obtain⟨hb,hk⟩:=pre;have hkw:IntKind.u64.wrap (k:Int)=k:=dq rfl (by simp[IntKind.bits];omega);have sb:IntKind.u8.wrap (b.length:Int)=((UInt8.ofNat b.length).toNat:Int):=by rw[dq rfl (by simp[IntKind.bits];omega)];simp;omega
 have l0:=nK;have oy:12+b.length<=128:=oM;generalize jh:UInt8.ofNat b.length=c at *;repeat' first|exact zQ|with_reducible apply zJ<;>intro _|refine zK ?_
 have l1:(gu cK 0 4 g).length=128:=by rw[w6 oM];exact l0
 refine we (s:=cK) rfl oM oM ?_;have l2:(gu (gu cK 0 4 g) 8 2 k).length=128:=by rw[w6 oM];exact l1
 have l3:(mi (gu (gu cK 0 4 g) 8 2 k) 10 [kind]).length=128:=by rw[D3 (by simp;omega)];exact l2
 have l4:(mi (mi (gu (gu cK 0 4 g) 8 2 k) 10 [kind]) 11 [c]).length=128:=by rw[D3 (by simp;omega)];exact l3
 repeat' first|exact zQ|with_reducible apply zJ<;>intro _|refine zK ?_
 have l5:(mi (mi (mi (gu (gu cK 0 4 g) 8 2 k) 10 [kind]) 11 [c]) 12 b).length=128:=by rw[D3 oM];exact l4
 have l6:(gu (mi (mi (mi (gu (gu cK 0 4 g) 8 2 k) 10 [kind]) 11 [c]) 12 b) 124 4 g).length=128:=by rw[w6 oM];exact l5
 refine we rfl oM oM ?_;repeat' first|exact zQ|with_reducible apply zJ<;>intro _|refine zK ?_
 refine we rfl oM oM ?_;repeat' first|exact zQ|with_reducible apply zJ<;>intro _|refine zK ?_
 generalize hS:gu (mi (mi (mi (gu (gu cK 0 4 g) 8 2 k) 10 [kind]) 11 [c]) 12 b) 124 4 g=S at *;have hc:=MX ((S.drop 8).take 116);have hcw:IntKind.u64.wrap (xB ((S.drop 8).take 116):Int)=xB ((S.drop 8).take 116):=dq rfl (by simp[IntKind.bits];omega);refine iS (.bm 0 (.bm 1 (.both 2 [] (.bm 3 (.both 4 [] .fin .stop)) .stop))) aj ?_;repeat' first|exact zQ|with_reducible apply zJ<;>intro _|refine zK ?_
 refine U4 (ds':=[aU ((S.drop 8).take 116)]) (by simp[dn,bz,ak,lv,lU,D.cells,zB,zC,rK,Iy,ub,l6]) ?_;repeat' first|exact zQ|with_reducible apply zJ<;>intro _|refine zK ?_
 refine we rfl oM oM ?_;repeat' first|exact zQ|with_reducible apply zJ<;>intro _|refine zK ?_
 rw[TV hb (by rw[jh];exact hS)];have hl:=xj (g:=g) (k:=k) (kind:=kind) hb;generalize ei g k kind b=R at *;have ho:Bo ⟨1,1,128,236,[.agg (a_ R)]⟩ 1 0 0 128=some (aU R):=by simp[Bo,lv,D.cells,zB,zC,rK,Iy,ub,hl,List.take_of_length_le]
 rw[ho];exact .refl _
def UL(c:UInt8):dj .and .u8 (c.toNat:Int) 1=((c.toNat % 2:Nat):Int):=by rw[show(1:Int)=((1:Nat):Int)from rfl,vX .u8 rfl (by simpa[IntKind.bits]using c.toNat_lt),Nat.and_one_is_mod]
def UM(c:UInt8):dj .and .u8 (c.toNat:Int) 2=((c.toNat / 2 % 2 * 2:Nat):Int):=by
 rw[show(2:Int)=((2:Nat):Int)from rfl,vX .u8 rfl (by simpa[IntKind.bits]using c.toNat_lt)];have:∀n<256,n&&& 2=n / 2 % 2 * 2:=by decide
 rw[this _ (by simpa using c.toNat_lt)]
def getD_some{s:ah}{j:Nat}(h:j<s.length):s[j]? =some (s.getD j 0):=by rw[List.getD_eq_getElem?_getD,gE h];rfl
def DQ(s:ah)(k:Nat):gD s k=(decide ((s.getD 11 0).toNat<=112)&&decide ((s.getD 10 0).toNat<=3)&&(decide (2<=(s.getD 10 0).toNat)||decide ((s.getD 11 0).toNat=112))&&(decide ((s.getD 10 0).toNat % 2=1)||decide ((s.getD 11 0).toNat≠0))&&decide (0<gen s)&&(s==ei (gen s) k (s.getD 10 0) (piece s))):=rfl
instance(s:ah)(k:Nat):Ct 139 [aU s,I k] (s.length=128/\k<65536) (.bool (gD s k)):=by
 refine bf f139 [] [.tmp 4] fun pre=>?_;obtain⟨hs,hk⟩:=pre;have lE:=getD_some (s:=s) (j:=10) oM;have vr:=getD_some (s:=s) (j:=11) oM;have e:=DQ s k;have hq:piece s=(s.drop 12).take (s.getD 11 0).toNat:=rfl;have hg:gen s=num (s.take 4):=rfl;have a1:=UL (s.getD 10 0);have a2:=UM (s.getD 10 0);have hx:=(s.getD 11 0).toNat_lt;have hw:IntKind.i64.wrap ((s.getD 11 0).toNat:Int)=((s.getD 11 0).toNat:Int):=ik _ oM oM;generalize s.getD 10 0=a at *;generalize s.getD 11 0=b at *;replace e:Hid _:=e;have l4:(s.take 4).length<=8:=by simp;omega
 by_cases hb:b.toNat<=112
 ·have hp:(List.take b.toNat (s.drop 12)).length<=112:=by simp;omega
  have h5:(12:Int)+b.toNat<=128:=oM;have e2:(12+(b.toNat:Int)).toNat - 12=b.toNat:=oM;repeat' first|exact zQ|with_reducible apply zJ<;>intro _|refine zK ?_
  all_goals first|(rw[e.out,hg,hq];refine ab (congrArg D.bool ?_);rw[Bool.eq_iff_iff];simp[*];try omega)|trace_state
 ·have eg:(112:Int)<b.toNat:=oM;repeat' first|exact zQ|with_reducible apply zJ<;>intro _|refine zK ?_
  rw[e.out];simp[hb,ab]
instance(b:ah):Ct 79 [aU b] (Lm b) (I ((max 1 ((b.length+111) / 112):Nat):Int)):=by
 refine bf f79 [] [.tmp 2] fun pre=>?_;have h:((b.length:Int)+112 - 1).tdiv 112=(((b.length+111) / 112:Nat):Int):=by rw[Int.tdiv_eq_ediv_of_nonneg oM];omega
 repeat' first|exact zQ|with_reducible apply zJ<;>intro _|refine zK ?_
 exact ab (congrArg I oM)
def bM(b:ah):Nat:=max 1 ((b.length+111) / 112)
def aW(l:List ah):Nat:=(l.map bM).sum
def xi(b:ah):1<=bM b:=by unfold bM;omega
def zF{l:List ah}{j:Nat}{x:ah}(h:l[j]? =some x):aW (l.take (j+1))=aW (l.take j)+bM x:=by rw[List.take_add_one,h];simp[aW]
def rL(l:List ah)(j:Nat):aW (l.take j)<=aW l:=by
 have:aW l=aW (l.take j)+aW (l.drop j):=by rw[aW,aW,aW,<-List.sum_append,<-List.map_append,List.take_append_drop]
 omega
theorem l_(l:List ah):l.length<=aW l:=by
 induction l with
 |nil=>simp[aW]
 |cons b l ih=>have:=xi b;simp[aW]at *;omega
theorem BQ{l:List ah}{b:ah}(h:b∈l):b.length<=112 * aW l:=by
 induction l with
 |nil=>cases h
 |cons c l ih=>
  rcases List.mem_cons.1 h with rfl|h
  ·simp only[aW,mC,List.sum_cons,bM];omega
  ·have:=ih h;simp only[aW,mC,List.sum_cons]at *;omega
abbrev oK(l:List ah):Prop:=aW l<=1099511627776
instance (priority:=high)(b:ah):Ct 79 [aU b] (Lm b) (I (bM b)):=by unfold bM;infer_instance
instance(l:List ah):Ct 80 [.sl 1 (l.map aU)] (oK l) (I (aW l)):=by
 refine bf f80 [] [.tmp 2] fun pre=>?_;have hl:=l_ l;repeat' first|exact zQ|with_reducible apply zJ<;>intro _|refine zK ?_
 refine cm l [(2,2),(4,4),(7,15)] [] (fun j τ _=>τ 7=I j/\τ 2=I (aW (l.take j))) (by simp[Lm];omega) (by simp[go_sem,aW]) (fun j x τ β hx hj hw hi=>?_) fun τ β hn hi=>?_
 ·obtain⟨h7,h2⟩:=hi;have h3:=BQ (mG hx);have h4:=zF hx;have h5:=rL l (j+1);have h6:Lm x:=by simp[Lm];omega
  have h8:IntKind.i64.wrap ((aW (l.take j):Int)+(bM x:Int))=(aW (l.take (j+1)):Int):=by rw[ik _ oM oM];omega
  repeat' first|exact zQ|with_reducible apply zJ<;>intro _|refine zK ?_
 ·obtain⟨h7,h2⟩:=hi;rw[tL]at h2;repeat' first|exact zQ|with_reducible apply zJ<;>intro _|refine zK ?_
def kh(j:gm):Bool:=decide (1<=j.many)&&decide (j.many<=4096)&&decide (0<=j.sync)&&decide (j.sync<=j.bh.length)&&decide ((aW j.bh:Int)<=j.many)
instance aeM(j:gm):Ct 48 [j.d] (oK j.bh) (I (if kh j then 0 else 1)):=by
 refine bf f48 [(1,[(4,2)])] [.tmp 2] fun pre=>?_;unfold kh;repeat' first|exact zQ|with_reducible apply zJ<;>intro _|refine zK ?_
 all_goals (refine ab (congrArg I ?_);first|(rw[if_neg (by simp[*];try omega)];done)|(rw[if_pos (by simp[*];try omega)];done)|trace_state)
def A1(bx:ae)(t el esz:Nat)(x:D)(xs:List D):Prop:=(xs=[]/\x= .aq)\/(xs≠[]/\∃e,x= .bE t e esz 0 xs.length/\bx t=⟨e,1,esz,el,xs⟩)
theorem A1.nil(bx:ae)(t el esz:Nat):A1 bx t el esz .aq []:=.inl ⟨rfl,rfl⟩
theorem A1.v{bx:ae}{t el esz:Nat}{x:D}{xs:List D}(h:A1 bx t el esz x xs):aX bx [t] el esz x xs:=by
 rcases h with⟨rfl,rfl⟩|⟨_,e,rfl,h⟩
 ·exact .nil _ _ _ _
 ·exact .mk sI h
def adr{bx:ae}{lo:Nat}{T:TypeId->TI}{e esz b size d:Nat}{ag fk:Bool}{z:List D}{x:D}{xs ys:List D}{K2:D×ae->Prop}(hx:A1 bx d e esz x xs)
 (hk:∀x' β,A1 (bn [(d,d)] β bx) d e esz x' (xs++ys)->K2 (x',bn [(d,d)] β bx)) (h1:(xs.length+ys.length) * b<=140737488355328) (hz:(T e).zero.length=esz:=by simp[go_sem])
 (bF:lo<=d:=by omega) (h2:0<esz:=by omega) (h3:0<b:=by omega):
 aK (f_ lo T ⟨.slice e esz b ag,size,fk,z⟩ (some d) bx x ys) K2:=by
 by_cases hy:ys=[]
 ·subst hy;refine iB hx.v ?_;have:=hk x bx (by simpa[rz]using hx);rwa[rz]at this
 ·refine gP hx.v hy hz h1 h2 h3 (by simpa using bF) fun e' bx' hb hf=>?_;have hm:bn [(d,d)] bx' bx=bx':=(du.mix fun s hs=>hf s (fun h=>by simp[di,h]at hs) (fun h=>by simp at h;simp[di,h]at hs)).symm;have:=hk (.bE d e' esz 0 (xs++ys).length) bx' (.inr ⟨by simp[hy],e',rfl,by rw[hm];exact hb⟩);rwa[hm]at this
@[go_sem] def agL{σ:Env}{bx:ae}(lo t:Nat)(h:t<1000000000)(hl:0<lo):uZ lo t σ bx=if Hu lo (σ t)=true then(bz bx (σ t)).map fun v=>(ak σ t v,eN bx (σ t))else none:=by
 have:¬lo=0:=oM;simp[uZ,ed,h,this]
@[go_sem] def ae0(lo:Nat):Hu lo .aq=true:=rfl
@[go_sem] def ae1(lo s e z o n:Nat):Hu lo (.bE s e z o n)=decide (lo<=s):=rfl
@[go_sem] def afy(e ty:Nat)(s:ah):pX ⟨e,1,1,ty,a_ s⟩ e 1 0 s.length=some (.sl 1 (a_ s)):=eK _ _ _ _ _ _ (by decide) (by simp[a_]) (rK s)
def n8(b:ah):D:=if b=[]then .aq else aU b
def LV(p:ah×Nat):List D:=[I p.2,n8 p.1]
def qH{l:List ah}{at_ last f n:Nat}{acc s:ah}(h:l[n]? =some s):cY l at_ last (f+1) n acc=if(gD s n&&(decide (sg s % 2=1)==decide (n=at_))&&decide (gen s=gen (l.getD at_ []))&&decide (last<=gen s))=true then
 (if 2<=sg s then some (acc++piece s,n+1)else cY l at_ last f (n+1) (acc++piece s))else none:=by
 rw[cY,h]
theorem kO{l:List ah}{f at_ last:Nat}:lM l (f+1) at_ last=match cY l at_ last (l.length - at_) at_ []with
 |none=>[]
 |some (b,n)=>(b,n)::lM l f n (gen (l.getD at_ [])):=rfl
theorem Kj{l:List ah}{f at_ last n:Nat}{acc:ah}(h:l.length<=n):cY l at_ last f n acc=none:=by
 cases f with
 |zero=>rfl
 |succ f=>rw[cY,List.getElem?_eq_none h]
abbrev Fb(l:List ah):Prop:=l.length<=65535/\∀s∈l,s.length=128
def LX(l:List ah)(h:Fb l):RB prog (cJ prog) [(4000010,[(3,74)]),(6,[(15,14),(15,11)])] f138 [.cA (.sl 1 (l.map aU)) 0] ((jB l).map LV):=by
 obtain⟨hl,hs⟩:=h;refine Na _ 77 rfl rfl rfl aj ?_;intro gs yl bx hk hz;repeat' first|exact zQ|with_reducible apply zJ<;>intro _|refine zK ?_
 refine B9 (0,0,l.length,0) (fun g:Nat×Nat×Nat×Nat=>l.length - g.1) [(3,76)] (fun g τ β=>τ 3=I g.1/\τ 4= .int .u64 g.2.1/\(β gs).sz=g.2.2.2/\(β gs).k=0/\(jB l).drop g.2.2.2=lM l g.2.2.1 g.1 g.2.1/\g.1<=l.length/\l.length<=g.1+g.2.2.1) ⟨by simp[go_sem],by simp[go_sem],hz,hk,rfl,by simp,by simp⟩ ?_;rintro⟨a,last,f,m⟩ τ β ⟨h3,h4,hz,hk,hr,ha,hf⟩;simp only at h3 h4 hz hk hr ha hf;have aP:cY l a last (l.length - a) a []=none->(jB l).length<=m:=fun h=>by
  cases f with
  |zero=>rw[lM]at hr;simpa using hr
  |succ f=>rw[kO,h]at hr;simpa using hr
 repeat' first|exact zQ|with_reducible apply zJ<;>intro _|refine zK ?_
 refine B9 (a,([]:ah)) (fun g:Nat×ah=>l.length - g.1) [(3,7),(9,76)] (fun g τ β=>τ 3=I a/\τ 4= .int .u64 last/\τ 6=I g.1/\A1 β (gs+1+61) 5 1 (τ 5) (a_ g.2)/\(β gs).sz=m/\(β gs).k=0/\a<=g.1/\g.1<=l.length/\g.2.length<=128 * g.1/\cY l a last (l.length - a) a []=cY l a last (l.length - g.1) g.1 g.2) ⟨by simp[go_sem,h3],by simp[go_sem,h4],by simp[go_sem],by simp[go_sem];exact .nil _ _ _ _,hz,hk,Nat.le_refl _,ha,by simp,rfl⟩ ?_;rintro⟨n,acc⟩ τ' β' ⟨GP,h4',h6,hv,Sb,cT,han,hn,mD,hg⟩;simp only at GP h4' h6 hv Sb cT han hn mD hg;generalize hv5:τ' 5=v5 at *;have hf5:=hv.v.facts;by_cases AD:n<l.length
 ·obtain⟨s,hx⟩:∃s,l[n]? =some s:=⟨_,gE AD⟩
  obtain⟨sa,vE⟩:∃s,l[a]? =some s:=⟨_,gE oM⟩
  have mP:=hs s (mG hx);have CK:=hs sa (mG vE);have bw:=qH (at_:=a) (last:=last) (f:=l.length - n - 1) (acc:=acc) hx;rw[show l.length - n - 1+1=l.length - n by omega,<-hg,show l.getD a []=sa by rw[List.getD_eq_getElem?_getD,vE];rfl]at bw;have lE:=getD_some (s:=s) (j:=10) oM;have vr:=getD_some (s:=s) (j:=11) oM;have e1:gen s=num (s.take 4):=rfl;have e2:gen sa=num (sa.take 4):=rfl;have e3:sg s=(s.getD 10 0).toNat:=rfl;have e4:piece s=(s.drop 12).take (s.getD 11 0).toNat:=rfl;rw[e1,e2,e3,e4]at bw;have uw:gD s n=true->(s.getD 11 0).toNat<=112/\(s.getD 10 0).toNat<=3:=fun h=>by
   rw[DQ]at h;simp only[bA,decide_eq_true_eq]at h;exact⟨h.1.1.1.1.1,h.1.1.1.1.2⟩
  replace uw:Hid _:=uw;have a1:=UL (s.getD 10 0);have a2:=UM (s.getD 10 0);have hb:=(s.getD 11 0).toNat_lt;have hw:IntKind.i64.wrap ((s.getD 11 0).toNat:Int)=((s.getD 11 0).toNat:Int):=ik _ oM oM;generalize s.getD 10 0=A at *;generalize s.getD 11 0=B at *;have l1:(s.take 4).length<=8:=by simp;omega
  have l2:(sa.take 4).length<=8:=by simp;omega
  have ar:(n:Int)<(l.length:Int):=oM;have q1:decide (A.toNat % 2=1)= !decide (((A.toNat % 2:Nat):Int)=0):=by rw[Bool.eq_iff_iff];simp;omega
  have q2:decide (n=a)=decide ((n:Int)=(a:Int)):=by rw[Bool.eq_iff_iff];simp;omega
  have q3:decide (num (s.take 4)=num (sa.take 4))=decide ((num (s.take 4):Int)=(num (sa.take 4):Int)):=by rw[Bool.eq_iff_iff];simp;omega
  have q4:decide (last<=num (s.take 4))= !decide ((num (s.take 4):Int)<(last:Int)):=by rw[Bool.eq_iff_iff];simp
  rw[q1,q2,q3,q4]at bw;replace aP:Hid _:=aP;clear e1 e2 e3 e4 hg q1 q2 q3 q4;cases cX:gD s n with
  |false=>
   clear uw;rw[cX]at bw;replace bw:Hid _:=bw;repeat' first|exact zQ|with_reducible apply zJ<;>intro _|refine zK ?_
   exact aP.out bw.out
  |true=>
   rw[cX,Bool.true_and]at bw;obtain⟨hB,hA⟩:=uw.out cX;clear uw;replace bw:Hid _:=bw;have c1:(12:Int)+B.toNat<=128:=oM;have c2:(12+(B.toNat:Int)).toNat - 12=B.toNat:=oM;replace hr:Hid _:=hr;repeat' first|exact zQ|with_reducible apply zJ<;>intro _|refine zK ?_
   all_goals first|exact aP.out (by rw[bw.out,if_neg (by rw[‹((_:Bool)==_)=false›];simp)])|exact aP.out (by rw[bw.out,if_neg (by simp[*])])|skip
   have bw:=bw.out;rw[if_pos (by rw[bA,bA];exact⟨⟨‹((_:Bool)==_)=true›,by simp[*]⟩,by simp[*]⟩)]at bw;have oD:(List.take B.toNat (s.drop 12)).length<=112:=by simp;omega
   generalize List.take B.toNat (s.drop 12)=pc at *;refine adr hv (fun x' β'' aT=>?_) (by simp[ub];try omega);rw[<-iu]at aT;have kD:=aT.v.facts;have iL:IntKind.i64.wrap ((n:Int)+1)=((n+1:Nat):Int):=aD oM;have bF:gs+1<=gs+1+61:=oM;by_cases xE:2<=A.toNat
   ·rw[if_pos xE]at bw;have Nk:((A.toNat / 2 % 2 * 2:Nat):Int)=2:=oM;obtain⟨f',rfl⟩:∃f',f=f'+1:=⟨f - 1,by omega⟩
    have hr:=hr.out;rw[kO,bw]at hr;simp only at hr;have hm:((jB l).map LV)[m]? =some [I ((n+1:Nat):Int),n8 (acc++pc)]:=by
     have:((jB l).drop m)[0]? =(jB l)[m]?:=by simp
     rw[hr]at this;rw[gM,<-this];rfl
    have CB:(jB l).drop (m+1)=lM l f' (n+1) (gen (l.getD a [])):=by rw[<-List.drop_drop,hr];rfl
    rw[show gen (l.getD a [])=num (sa.take 4) by rw[List.getD_eq_getElem?_getD,vE];rfl]at CB;have JL:bn [(gs+1+61,gs+1+61)] β'' β' gs=β' gs:=by simp[bn,di];omega
    have he:(num (s.take 4):Int)=(num (sa.take 4):Int):=by assumption
    replace bw:Hid _:=bw;replace hr:Hid _:=hr;replace CB:Hid _:=CB;rcases aT with⟨iA,rfl⟩|⟨iA,e,rfl,dZ⟩
    ·rw[n8,if_pos (by simpa[a_]using iA)]at hm;repeat' first|exact zQ|with_reducible apply zJ<;>intro _|refine zK ?_
     refine sS rfl sG (by rw[JL,Sb,hm]) fun bx1=>⟨?_,?_⟩
     ·repeat' first|exact zQ|with_reducible apply zJ<;>intro _|refine zK ?_
      exact⟨(n+1,num (sa.take 4),f',m+1),by simp;omega,rfl,rfl,rfl,CB.out,by omega,by simp;omega⟩
     ·repeat' first|exact zQ|with_reducible apply zJ<;>intro _|refine zK ?_
    ·rw[n8,if_neg (by simpa[a_]using iA)]at hm;have NR:β'' (gs+1+61)=⟨e,1,1,5,a_ (acc++pc)⟩:=by rw[<-dZ];simp[bn,di]
     clear dZ;repeat' first|exact zQ|with_reducible apply zJ<;>intro _|refine zK ?_
     refine sS rfl sG (by rw[show ∀x,(ak (bn [(gs+1+61,gs+1+61)] β'' β') (gs+1+61) x) gs=β' gs from fun x=>by rw[aB oM,JL],Sb,hm]) fun bx1=>⟨?_,?_⟩
     ·repeat' first|exact zQ|with_reducible apply zJ<;>intro _|refine zK ?_
      exact⟨(n+1,num (sa.take 4),f',m+1),by simp;omega,rfl,rfl,rfl,CB.out,by omega,by simp;omega⟩
     ·repeat' first|exact zQ|with_reducible apply zJ<;>intro _|refine zK ?_
   ·rw[if_neg xE]at bw;have Nk:((A.toNat / 2 % 2 * 2:Nat):Int)=0:=oM;replace bw:Hid _:=bw;repeat' first|exact zQ|with_reducible apply zJ<;>intro _|refine zK ?_
    exact⟨(n+1,acc++pc),by simp;omega,rfl,aT,by rw[if_neg oM];exact Sb,by rw[if_neg oM];exact cT,by omega,by omega,by simp;omega,by have:=bw.out;rwa[Nat.sub_sub]at this⟩
 ·have:¬(n:Int)<(l.length:Int):=oM;rw[Kj (n:=n) oM]at hg;have aP:=aP hg;repeat' first|exact zQ|with_reducible apply zJ<;>intro _|refine zK ?_
def LW(l:List ah)(h:Fb l):xW prog 138 [.cA (.sl 1 (l.map aU)) 0] ((jB l).map LV) 78:=M_ mixed (LX l h) rfl aj rfl
instance(l:List ah):Ct 74 [.sl 1 (l.map aU)] True (.fn (.func 138) [.cA (.sl 1 (l.map aU)) 0]):=by
 refine bf f74 [] [.tmp 2] fun pre=>?_;repeat' first|exact zQ|with_reducible apply zJ<;>intro _|refine zK ?_
inductive WL:List D->List D->Prop where
 |nil:WL [] []
 |cons {x y:D} {xs ys:List D} (h:bN x y) (hs:WL xs ys):WL (x::xs) (y::ys)
theorem WL.get{xs ys:List D}(h:WL xs ys):xs.length=ys.length/\∀(i:Nat) x y,xs[i]? =some x->ys[i]? =some y->bN x y:=by
 induction h with
 |nil=>exact⟨rfl,fun i x y h=>by simp at h⟩
 |cons h hs ih=>
  refine⟨by simp[ih.1],fun i x y hx hy=>?_⟩;cases i with
  |zero=>simp at hx hy;subst hx;subst hy;exact h
  |succ i=>exact ih.2 i x y (by simpa using hx) (by simpa using hy)
def rN{xs ys:List D}(h:WL xs ys):bN (.aL xs) (.aL ys):=.aL h.get.1 h.get.2
def fF{xs ys:List D}(h:WL xs ys):bN (.agg xs) (.agg ys):=.agg h.get.1 h.get.2
def wk{a b:D}(h:bN a b:=by first|((repeat' first|exact .refl _|exact bN.nil _|exact WL.nil|refine rN ?_|refine fF ?_|refine WL.cons ?_ ?_)<;>fail)|fail):bN a b:=h
def rM(n:Nat)(w:bX):Bool:=decide (0<=w.at_)&&decide (w.at_<n)&&decide (w.data.length=128)
def dt(d:cI):Bool:=decide (1<=d.aZ.length)&&decide (d.aZ.length<=4096)&&decide (d.bC.length<=4096)&&decide (-1<=d.left)&&decide (d.left<=65536)&&d.bC.all (rM d.aZ.length)&&d.aZ.all fun b=>decide (b.length=128)
def mU(d:cI):Bool:=dt d&& !d.stop
def hasB(d:cI)(a:Int):Bool:=decide (0<=a)&&decide (a<d.aZ.length)
abbrev d0:cI:=⟨[],[],0,false⟩
abbrev okD(d:cI):Prop:=Lm d.aZ/\Lm d.bC
instance(b:ah):Ct 134 [aU b] True (.bool (decide (b.length=128))):=by
 refine bf f134 [] [.tmp 2] fun pre=>?_;repeat' first|exact zQ|with_reducible apply zJ<;>intro _|refine zK ?_
 refine ab (congrArg D.bool ?_);rw[Bool.eq_iff_iff];simp;omega
instance(b:ah):Ct 137 [aU b] True (.bool (!decide (b.length=128))):=by
 refine bf f137 [] [.tmp 2] fun pre=>?_;repeat' first|exact zQ|with_reducible apply zJ<;>intro _|refine zK ?_
instance(w:bX)(n:Nat):Ct 133 [w.d,.cA (I n) 0] True (.bool (!rM n w)):=by
 refine bf f133 [] [.tmp 3] fun pre=>?_;unfold rM;repeat' first|exact zQ|with_reducible apply zJ<;>intro _|refine zK ?_
 all_goals (refine ab (congrArg D.bool ?_);rw[Bool.eq_iff_iff];simp[*];try omega)
def qp{α:Type}(p:α->Bool)(l:List α):(l.any fun x=> !p x)= !l.all p:=by rw[List.any_eq_not_all_not];simp
instance adT(d:cI):Ct 73 [d.d] (okD d) (I (if dt d then 0 else 40)):=by
 refine bf f73 [] [.tmp 2] fun pre=>?_;obtain⟨h1,h2⟩:=pre;repeat' first|exact zQ|with_reducible apply zJ<;>intro _|refine zK ?_
 all_goals first|(refine ab (congrArg I ?_);rw[if_neg (by simp[dt];omega)];done)|skip
 refine U4 (ds':=[.sl 2 (d.bC.map bX.d),.fn (.func 133) [.cA (I d.aZ.length) 0]]) (by simp[go_sem,Bo,D.cells,D.aF,D.pure,D.one,lU,ak,dn,lv,I,Bx.none]) ?_;rw[qp];have e2:=qp (fun b:ah=>decide (b.length=128)) d.aZ;repeat' first|exact zQ|with_reducible apply zJ<;>intro _|refine zK ?_
 all_goals (refine ab (congrArg I ?_);unfold dt;first|(rw[if_pos (by simp[*];omega)];done)|(simp only[‹List.all d.aZ _=false›,Bool.and_false,Bool.false_eq_true,if_false];done)|(simp only[‹List.all d.bC _=false›,Bool.and_false,Bool.false_and,Bool.false_eq_true,if_false];done)|trace_state)
instance(d:cI):Ct 106 [d.d] (okD d) (.bool (mU d)):=by
 refine bf f106 [] [.tmp 2] fun pre=>?_;unfold mU;cases h:dt d;all_goals repeat' first|exact zQ|with_reducible apply zJ<;>intro _|refine zK ?_
instance(d:cI)(a:Int):Ct 159 [d.d,I a] True (.bool (hasB d a)):=by
 refine bf f159 [] [.tmp 4] fun pre=>?_;unfold hasB;repeat' first|exact zQ|with_reducible apply zJ<;>intro _|refine zK ?_
 all_goals (refine ab (congrArg D.bool ?_);simp[*];done)
def xp(d:cI)(n:Int):cI×Int:=if mU d then(if 0<=n/\n<=65536 then({d with left:=n},0)else(d0,1))else(d0,40)
def sj(d:cI):cI:=⟨d.aZ,[],-1,false⟩
instance(d:cI)(n:Int):Ct 60 [d.d,I n] (okD d) (.aL [(xp d n).1.d,I (xp d n).2]):=by
 refine bf f60 [] [.cell 4 39,.tmp 5] fun pre=>?_;unfold xp;repeat' first|exact zQ|with_reducible apply zJ<;>intro _|refine zK ?_
 all_goals first|exact wk|(rw[if_pos oM];exact wk)|(rw[if_neg oM];exact wk)
instance(d:cI):Ct 61 [d.d] True (sj d).d:=by
 refine bf f61 [] [.cell 2 39] fun pre=>?_;repeat' first|exact zQ|with_reducible apply zJ<;>intro _|refine zK ?_
 exact wk
def A4{n:Nat}(h:n<4294967296):dj .and .u64 (n:Int) 4294967295=(n:Int):=by
 rw[show(4294967295:Int)=((4294967295:Nat):Int)from rfl,vX .u64 rfl (by simp[IntKind.bits];omega)];have:=Nat.and_two_pow_sub_one_eq_mod n 32;simp at this;rw[this,Nat.mod_eq_of_lt h]
def L9{n:Nat}(h:n<4294967296):(n:Int).fdiv (2 ^ min 32 64)=0:=by rw[show(2:Int) ^ min 32 64=((4294967296:Nat):Int) by rfl,Int.fdiv_eq_ediv_of_nonneg _ oM];omega
instance(n:Nat):Ct 197 [.int .u64 1,.int .u64 n] (n<4294967296) (.aL [.int .u64 0,.int .u64 n]):=by
 refine bf f197 [] [.tmp 4,.tmp 5] fun pre=>?_;have a1:=A4 pre;have a2:=L9 pre;have a3:dj .and .u64 1 4294967295=1:=A4 (n:=1) oM;have a4:(1:Int).fdiv (2 ^ min 32 64)=0:=L9 (n:=1) oM;have a5:dj .and .u64 0 4294967295=0:=A4 (n:=0) oM;have a6:(0:Int).fdiv (2 ^ min 32 64)=0:=L9 (n:=0) oM;have w0:IntKind.u64.wrap 0=0:=rfl;have w1:IntKind.u64.wrap (n:Int)=n:=dq rfl (by simp[IntKind.bits];omega);repeat' first|exact zQ|with_reducible apply zJ<;>intro _|refine zK ?_
 simp only[Int.zero_mul,Int.one_mul,Int.mul_zero,Int.zero_add,Int.add_zero,a1,a2,a3,a4,a5,a6,w0,w1,ab]
instance(n:Nat):Ct 132 [.int .u64 1,.int .u64 n] (n<4294967296) (.aL [.int .u64 0,.int .u64 n]):=by
 refine bf f132 [] [.tmp 4,.tmp 5] fun pre=>?_;repeat' first|exact zQ|with_reducible apply zJ<;>intro _|refine zK ?_
def U6(b:Bx)(e sz esz o n:Nat):Option (List D):=if sz=esz/\b.ep=e/\lv b.k/\b.sz=sz/\o+n<=b.es.length then some ((b.es.drop o).take n)else none
@[go_sem] def Zd(bx:ae)(esz t e sz o n:Nat):iJ bx esz (.bE t e sz o n)=U6 (bx t) e sz esz o n:=ay
@[go_sem] def ahB(e sz ty o n:Nat)(es:List D):U6 ⟨e,1,sz,ty,es⟩ e sz sz o n=if o+n<=es.length then some ((es.drop o).take n)else none:=by simp[U6,lv]
def QM{x z:D}{k n:Nat}(h:k<=n)(h0:0<k):List.take k (List.replicate k x++List.replicate (n - k) z)++List.take (n - k) (List.replicate k x)++List.drop (k+min k (n - k)) (List.replicate k x++List.replicate (n - k) z)=List.replicate (k+min k (n - k)) x++List.replicate (n - (k+min k (n - k))) z:=by
 rw[List.take_append_of_le_length sI,List.take_of_length_le sI,List.take_replicate,List.drop_append,List.drop_of_length_le sI,List.drop_replicate,List.nil_append,List.length_replicate,List.replicate_append_replicate]
 congr 2<;>omega
instance(x:ah)(n:Nat):Ct 72 [.sl 1 [aU x],I n] (1<=n/\n<=4096) (.sl 1 ((List.replicate n x).map aU)):=by
 refine bf f72 [] [.tmp 4] fun pre=>?_;obtain⟨h1,h2⟩:=pre;have w0:IntKind.u64.wrap (1:Int)=1:=rfl;have w1:IntKind.u64.wrap (n:Int)=n:=dq rfl (by simp[IntKind.bits];omega);have w2:IntKind.u64.wrap ((1:Nat):Int)=1:=rfl;have c1:¬(n:Int)<0:=oM;have c2:¬(9223372036854775807:Int)<n:=oM;have c3:(0:Int)<=n:=oM;have c4:(n:Int)<=n:=oM;have c6:(List.replicate n D.aq).length=n:=List.length_replicate;have c5:(n:Int) * ((24:Nat):Int)<=140737488355328:=oM;repeat' first|exact zQ|with_reducible apply zJ<;>intro _|refine zK ?_
 refine ri 1 (fun k=>n - k) [(8,8),(34,46)] [(30,30)] (fun k τ β=>1<=k/\k<=n/\τ 8=I k/\β 30=⟨1,1,1,71,List.replicate k (aU x)++List.replicate (n - k) .aq⟩) ?_ ?_
 ·refine⟨Nat.le_refl _,h1,by simp[go_sem];omega,?_⟩;obtain⟨m,rfl⟩:∃m,n=m+1:=⟨n - 1,by omega⟩
  simp[go_sem,List.drop_replicate]
 ·rintro k τ β ⟨k1,k2,k3,k4⟩;by_cases hk:k<n
  ·have d1:(k:Int)<n:=oM;have e1:(List.replicate k (aU x)++List.replicate (n - k) D.aq).length=n:=by simp;omega
   have e2:(List.replicate k (aU x)++List.replicate (n - k) D.aq).take k=List.replicate k (aU x):=by simp
   have e3:(List.replicate k (aU x)).all D.one=true:=by simp[D.one]
   have e4:=QM (x:=aU x) (z:=.aq) (k:=k) (n:=n) k2 k1;have e5:(List.replicate k (aU x)).length=k:=List.length_replicate;have e6:IntKind.i64.wrap ((k:Int)+((min k (n - k):Nat):Int))=((k+min k (n - k):Nat):Int):=by rw[ik _ oM oM];omega
   have e7:k+(n - k)<=n:=oM;generalize List.replicate k (aU x)++List.replicate (n - k) D.aq=ES at *;repeat' first|exact zQ|with_reducible apply zJ<;>intro _|refine zK ?_
   exact⟨k+min k (n - k),by omega,by omega,by omega,rfl,by rw[<-e4,e2]⟩
  ·obtain rfl:k=n:=oM;have d1:¬(k:Int)<k:=oM;rw[Nat.sub_self,List.replicate_zero,List.append_nil]at k4;have d2:pX ⟨1,1,1,71,List.replicate k (aU x)⟩ 1 1 0 k=some (.sl 1 (List.replicate k (aU x))):=eK _ _ _ _ _ _ (by decide) sI (by have:=cZ aU (List.replicate k x);rw[List.map_replicate]at this;rw[this];simp[D.pure]);repeat' first|exact zQ|with_reducible apply zJ<;>intro _|refine zK ?_
   rw[List.map_replicate];exact .refl _
@[go_sem] def afP:List.replicate 128 (D.int .u8 0)=a_ cK:=by simp[cK,a_]
@[go_sem] def Ob(e ty n:Nat)(s:ah)(h:n=s.length):pX ⟨e,1,1,ty,a_ s⟩ e 1 0 n=some (.sl 1 (a_ s)):=eK _ _ _ _ _ _ (by decide) (by simp[a_,h]) (rK s)
@[go_sem] def alH:((128:Int) * ((1:Nat):Int)<=140737488355328)=True:=by simp
def jx(n:Int):cI×Int:=if 1<=n/\n<=4096 then(⟨List.replicate n.toNat cK,[],-1,false⟩,0)else(d0,1)
instance(n:Int):Ct 35 [I n] True (.aL [(jx n).1.d,I (jx n).2]):=by
 refine bf f35 [(4000004,[(1,13)])] [.cell 2 39,.tmp 3] fun pre=>?_;unfold jx;by_cases h:1<=n/\n<=4096
 ·rw[if_pos h];obtain⟨m,rfl⟩:∃m:Nat,n=m:=⟨n.toNat,by omega⟩
  have c1:¬(m:Int)<1:=oM;have c2:¬(4096:Int)<m:=oM;have c3:1<=m/\m<=4096:=oM;have c4:=nK;repeat' first|exact zQ|with_reducible apply zJ<;>intro _|refine zK ?_
  all_goals first|exact wk|trace_state
 ·rw[if_neg h];by_cases c:n<1
  ·repeat' first|exact zQ|with_reducible apply zJ<;>intro _|refine zK ?_
   exact wk
  ·have c2:(4096:Int)<n:=oM;repeat' first|exact zQ|with_reducible apply zJ<;>intro _|refine zK ?_
   exact wk
end Go.V.Jn
