/- Lemmas on plain data and programs: part VA. -/
import Derived.Test.YtkgloohlmogakaaGreatDoorVG
set_option linter.all false
set_option maxHeartbeats 8000000
namespace Go.V
universe u
open Go.RowKit
abbrev Env:=Nat->D
abbrev ae:=Nat->Bx
def Bx.none:Bx:=⟨0,0,0,0,[]⟩
def ak{α:Type}(σ:Nat->α)(t:Nat)(v:α):Nat->α:=fun x=>if x=t then v else σ x
def eC{α:Type}(σ:Nat->α)(t:Nat)(v:α):ak σ t v t=v:=by simp[ak]
def AP:Value->D
 | .int k n=> .int k n
 | .bool b=> .bool b
 | .string s=> .str s.data.toList
 | .slice none 0 0=> .aq
 |x=> .raw x
def xM:Value->D
 | .agg cs=> .agg (cs.toList.map AP)
 |x=>AP x
def evG(g:Nat):Option D->D
 |some d=> .cA d 0
 |none=> .raw (.pointer (some ⟨g,0,none⟩))
def ev(σ:Env):Operand->D
 | .tmp t=>σ t
 | .const v=>xM v
 | .global g=>evG g (Bc g)
 | .func f=> .fn (.func f) []
inductive TK where
 |none
 |bool
 |int (k:IntKind)
 |str
 |slice (e esz bytes:Nat) (adX:Bool)
 |arr (n esz:Nat) (adX:Bool)
 |struct (fs:List (Nat×Nat×Bool)) (eq:List Nat)
 |dB
 |map (kt et:TypeId)
 |other
 deriving Inhabited
structure TI where
 k:TK
 size:Nat
 agg:Bool
 zero:List D
 deriving Inhabited
def oW(P:Program)(t:TypeId):Bool:=
 match P.underlying t with
 |some (.struct _)|some (.array ..)=>true
 |_=>false
def oR(P:Program)(t:TypeId):Bool:=
 match P.underlying t with
 |some .bool|some (.int _)|some .string=>true
 |_=>false
def oT(P:Program)(t:TypeId):Nat:=
 match P.underlying t with
 |some .bool=>1
 |some (.int _)=>2
 |some .string=>3
 |_=>0
def cG(P:Program)(t:TypeId):Nat:=if(P.underlying t).isSome then((P.info? t).map (·.size)).getD 0 else 0
def Rt(P:Program)(f:Field):Option (List Nat):=
 if oR P f.type&&cG P f.type==1 then some [oT P f.type]else match P.underlying f.type with
  |some (.array n e)=>if oR P e&&cG P e==1 then some (List.replicate n (oT P e))else none
  |_=>none
def ye(P:Program):Nat->List Field->Option (List Nat)
 |_,[]=>some []
 |o,f::fs=>match Rt P f with
  |some ks=>if f.name != "_"&&f.offset==o&&cG P f.type==ks.length then (ye P (o+ks.length) fs).map (ks++·) else none
  |none=>none
def Ch(P:Program)(t:TypeId)(F:Array Field):List Nat:=match ye P 0 F.toList with
 |some ks=>if !P.stoodInHeld t&& !P.eqGuardType P.depth t then 0::ks else[]
 |none=>[]
def an(P:Program)(t:TypeId):TI:={
 k:=(match P.underlying t with
  |some .bool=> .bool
  |some (.int k)=> .int k
  |some .string=> .str
  |some (.slice e)=> .slice e (cG P e) (((P.info? e).map (·.bytes)).getD 0) (oW P e)
  |some (.array n e)=> .arr n (cG P e) (oW P e)
  |some (.struct fs)=> .struct (fs.toList.map fun f=>(f.offset,cG P f.type,oW P f.type)) (if fs.toList.all (fun f=>f.name != "_"&&oR P f.type&&cG P f.type==1)&& !P.stoodInHeld t&& !P.eqGuardType P.depth t&&(fs.toList.map (·.offset))==List.range fs.size&&cG P t==fs.size then fs.toList.map fun f=>oT P f.type else Ch P t fs)
  |some (.interface _)=> .dB
  |some (.map kt et)=> .map kt et
  |some _=> .other
  |none=> .none)
 size:=cG P t
 agg:=oW P t
 zero:=(((P.info? t).bind (·.zero)).map fun z=>z.cells.toList.map AP).getD []}
def jz(d:D)(j:Nat)(ag:Bool)(k:Nat):Option D:=
 if ag then(if j+k<=d.cells.length then some (.agg ((d.cells.drop j).take k))else none)else d.cells[j]?
def fi(d:D)(j:Nat)(cs:List D):Option D:=
 if j+cs.length<=d.cells.length then
  match d with
  | .agg ds=>some (.agg (ds.take j++cs++ds.drop (j+cs.length)))
  |_=>match cs with
   |[c]=>some c
   |_=>none
 else none
def uu:D->D->Option Bool
 | .int k a,.int k' b=>if k=k' then some (a==b)else none
 | .bool a,.bool b=>some (a==b)
 | .str a,.str b=>some (a==b)
 |_,_=>none
def jg:List D->List D->Option Bool
 |[],[]=>some true
 |a::as,b::bs=>match uu a b with
  |some true=>jg as bs
  |some false=>match jg as bs with
   |some _=>some false
   |none=>none
  |none=>none
 |_,_=>none
def cq:List Nat->List D->Bool
 |[],[]=>true
 |1::ks,.bool _::ds=>cq ks ds
 |2::ks,.int _ _::ds=>cq ks ds
 |3::ks,.str _::ds=>cq ks ds
 |_,_=>false
def FT(k:Nat)(ks:List Nat)(a b:List D):Option Bool:=if k=0/\cq ks a=true/\jg a b=some true then some true else none
def ED(ti:TI)(x y:D):Option Bool:=
 match ti.k,x,y with
 | .struct _ (k::ks),.agg a,.agg b=>if cq (k::ks) a then jg a b else FT k ks a b
 | .bool,.bool a,.bool b=>some (a==b)
 |_,_,_=>none
def KJ(op:BinOp)(a b:Int):Option D:=
 match op with
 | .eql=>some (.bool (a==b))
 | .neq=>some (.bool (a != b))
 | .lss=>some (.bool (decide (a<b)))
 | .leq=>some (.bool (decide (a<=b)))
 | .gtr=>some (.bool (decide (b<a)))
 | .geq=>some (.bool (decide (b<=a)))
 |_=>none
def dj(op:BinOp)(k:IntKind)(a b:Int):Int:=
 k.wrap ((match op with
  | .and=>BitVec.ofInt k.bits a&&& BitVec.ofInt k.bits b
  | .or=>BitVec.ofInt k.bits a|||BitVec.ofInt k.bits b
  | .xor=>BitVec.ofInt k.bits a ^^^ BitVec.ofInt k.bits b
  |_=>BitVec.ofInt k.bits a&&& ~~~(BitVec.ofInt k.bits b):BitVec k.bits).toNat:Int)
def zt(op:BinOp)(k:IntKind)(a b:Int):Option D:=
 if b<0 then none else match op with
 | .shl=>some (.int k (k.wrap (a * 2 ^ (min b.toNat k.bits))))
 | .shr=>some (.int k (a.fdiv (2 ^ (min b.toNat k.bits))))
 |_=>none
def kg(op:BinOp)(k:IntKind)(a b:Int):Option D:=
 match op with
 | .and=>some (.int k (dj .and k a b))
 | .or=>some (.int k (dj .or k a b))
 | .xor=>some (.int k (dj .xor k a b))
 | .andNot=>some (.int k (dj .andNot k a b))
 | .shl=>zt .shl k a b
 | .shr=>zt .shr k a b
 | .add=>some (.int k (k.wrap (a+b)))
 | .sub=>some (.int k (k.wrap (a - b)))
 | .mul=>some (.int k (k.wrap (a * b)))
 | .quo=>if b=0 then none else some (.int k (k.wrap (a.tdiv b)))
 | .rem=>if b=0 then none else some (.int k (a.tmod b))
 |op=>KJ op a b
def zA(op:BinOp)(a b:List UInt8):Option D:=
 match op with
 | .add=>if a.length+b.length<=9223372036854775807 then some (.str (a++b))else none
 | .eql=>some (.bool (a==b))
 | .neq=>some (.bool (!(a==b)))
 | .lss=>some (.bool (Op.bytesLess a b))
 | .leq=>some (.bool (Op.bytesLess a b||a==b))
 | .gtr=>some (.bool (!(Op.bytesLess a b||a==b)))
 | .geq=>some (.bool (!Op.bytesLess a b))
 |_=>none
def KC(ti:TI)(op:BinOp)(a b:D):Option D:=
 match op with
 | .eql=>(ED ti a b).map .bool
 | .neq=>(ED ti a b).map fun x=> .bool (!x)
 |_=>none
def y7(op:BinOp)(x:D):Option D:=match op,x with
 | .eql,.aq=>some (.bool true)
 | .neq,.aq=>some (.bool false)
 | .eql,.bE ..=>some (.bool false)
 | .neq,.bE ..=>some (.bool true)
 | .eql,.sl _ es=>some (if es.isEmpty then .gZ else .bool false)
 | .neq,.sl _ es=>some (if es.isEmpty then .gZ else .bool true)
 |_,_=>none
def D1(ti:TI)(op:BinOp)(x:D):Option D:=match ti.k with
 | .slice ..=>y7 op x
 |_=>none
def lR(ti:TI)(op:BinOp):D->D->Option D
 | .int k a,.int k' b=>if k=k' then kg op k a b else zt op k a b
 | .str a,.str b=>zA op a b
 |x,.aq=>D1 ti op x
 |a,b=>KC ti op a b
def isNil:Operand->Bool
 | .const .nilIface=>true
 |_=>false
def y6:D->Option Bool
 | .dB _ _=>some false
 | .raw .nilIface=>some true
 |_=>none
def Qz(ti:TI)(op:BinOp)(x:D):Option D:=
 match ti.k,op with
 | .dB,.eql=>(y6 x).map .bool
 | .dB,.neq=>(y6 x).map fun b=> .bool (!b)
 |_,_=>none
def A5(ti:TI)(op:BinOp)(x y:D)(c:Bool):Option D:=if c then Qz ti op x else lR ti op x y
def IB(op:UnOp):D->Option D
 | .bool b=>match op with
   | .not=>some (.bool (!b))
   |_=>none
 | .int k n=>match op with
   | .neg=>some (.int k (k.wrap (0 - n)))
   | .xor=>some (.int k (dj .xor k (if k.signed then -1 else k.max) n))
   |_=>none
 |_=>none
def kS:D->Nat->Option D
 | .loc t e i j,o=>some (.loc t e i (j+o))
 | .cA d j,o=>some (.cA d (j+o))
 |_,_=>none
def nP(ti:TI)(x:D)(i:Nat):Option D:=
 match ti.k with
 | .struct fs _=>match fs[i]? with
   |some (off,sz,_)=>if sz=0 then none else kS x off
   |none=>none
 |_=>none
def yi(ti:TI)(x:D)(i:Nat):Option D:=
 match ti.k,x with
 | .struct fs _, .agg ds=>match fs[i]? with
   |some (off,sz,ag)=>if sz=0 then none else jz (.agg ds) off ag sz
   |none=>none
 |_,_=>none
def eY(ti:TI)(x:D)(n:Int):Option D:=
 match ti.k with
 | .slice _ esz _ _=>match x with
   | .sl sz es=>if 0<=n/\sz=esz/\0<esz then(es[n.toNat]?).map fun d=> .cA d 0 else none
   | .bE t e sz o len=>if 0<=n/\n<len/\sz=esz/\0<esz then some (.loc t e (o+n.toNat) 0)else none
   | .g_ sz es=>if 0<=n/\sz=esz/\0<esz then(es[n.toNat]?).map fun d=> .cA d 0 else none
   | .fH t e i j len=>if 0<=n/\n<len/\esz=1 then some (.loc t e i (j+n.toNat))else none
   |_=>none
 | .arr len esz _=>if 0<=n/\n<len/\1<len/\0<esz then kS x (n.toNat * esz)else none
 |_=>none
def ru(ti:TI)(x:D)(n:Int):Option D:=
 match ti.k,x with
 | .str,.str s=>if 0<=n then(s[n.toNat]?).map fun b=> .int .u8 (b.toNat:Int)else none
 | .arr len esz ag,.agg ds=>if 0<=n/\n<len/\0<esz then jz (.agg ds) (n.toNat * esz) ag esz else none
 |_,_=>none
def iF(ti:TI)(bx:ae):D->Option D
 | .loc t e i j=>if(bx t).ep=e/\lv (bx t).k/\0<ti.size then((bx t).es[i]?).bind fun d=>jz d j ti.agg ti.size else none
 | .cA d j=>if 0<ti.size then jz d j ti.agg ti.size else none
 |_=>none
def lU(x:Option D)(xs:Option (List D)):Option (List D):=match x,xs with
 |some x,some xs=>some (x::xs)
 |_,_=>none
def iC(b:Bool)(x y:Prop)(_:Tok (x/\y):=⟨⟩):Prop:=if b then x else y
def Ce(d:D)(x y:Prop)(_:Tok (x/\y):=⟨⟩):Prop:=match d with
 | .bool t=>iC t x y
 | .gZ=>x/\y
 |_=>False
def vq(d:D):Option (Option Bool):=match d with
 | .bool b=>some (some b)
 | .raw (.tuple vs)=>if vs.size=0 then some none else none
 |_=>none
def pM(x:Option Oper)(σ:Env):Option (Option Bool):=match x with
 |some o=>match o.dst with
  |some d=>vq (σ d)
  |none=>none
 |none=>none
def gK(g:Option Bool)(want:Bool)(x y:Prop)(_:Tok (x/\y):=⟨⟩):Prop:=if g=some want then x else y
def qU(d a b:D):Option D:=match d with
 | .bool t=>some (if t then a else b)
 |_=>none
def oO(d:D)(f:Int->Option D):Option D:=match d with
 | .int _ n=>f n
 |_=>none
def FH(d:D)(i:Nat):Option D:=match d with
 | .aL ds=>ds[i]?
 |_=>none
def zb(a b:Option (Option Int))(f:Option Int->Option Int->Option D):Option D:=match a,b with
 |some l,some h=>f l h
 |_,_=>none
def yP(d:D):Option (Option Int):=match d with
 | .int _ n=>some (some n)
 |_=>none
def Hz(d:D):Option D:=match d with
 | .loc t e i j=>some (.loc t e i j)
 | .cA d j=>some (.cA d j)
 |_=>none
def minD:List D->Option D
 |[.int k a,.int k' b]=>if k=k' then some (.int k (if b<a then b else a))else none
 |_=>none
def wL:D->D->Option D
 | .int k a,.int k' b=>if k=k' then some (.int k (if a<b then b else a))else none
 |_,_=>none
def maxD:List D->Option D
 |[x,y]=>wL x y
 |[x,y,z]=>(wL x y).bind fun m=>wL m z
 |_=>none
def eV(σ:Env):Option Operand->Option (Option Int)
 |none=>some none
 |some x=>yP (ev σ x)
def eb(len:Nat)(lo hi:Option Int):Option (Nat×Nat):=
 let h:Int:=hi.getD len;let l:Int:=lo.getD 0
 if 0<=l/\l<=h/\h<=len then some (l.toNat,h.toNat)else none
def jW(ti:TI)(x:D)(lo hi:Option Int):Option D:=
 match ti.k,x with
 | .str,.str s=>(eb s.length lo hi).map fun p=> .str ((s.drop p.1).take (p.2 - p.1))
 | .slice _ esz _ _,.sl sz es=>if sz=esz/\0<esz then(eb es.length lo hi).map fun p=> .sl sz ((es.drop p.1).take (p.2 - p.1))else none
 | .slice _ esz _ _,.bE t e sz o n=>if sz=esz/\0<esz then(eb n lo hi).map fun p=> .bE t e sz (o+p.1) (p.2 - p.1)else none
 | .slice _ esz _ _,.g_ sz es=>if sz=esz/\0<esz then(eb es.length lo hi).map fun p=> .sl sz ((es.drop p.1).take (p.2 - p.1))else none
 | .slice _ esz _ _,.fH t e i j n=>if esz=1 then(eb n lo hi).map fun p=> .fH t e i (j+p.1) (p.2 - p.1)else none
 | .arr n esz _,.loc t e i j=>if esz=1/\n<=65536 then(eb n lo hi).map fun p=> .fH t e i (j+p.1) (p.2 - p.1)else none
 | .arr n esz _,.cA d j=>if esz=1/\n<=65536/\j+n<=d.cells.length/\d.cells.all D.one=true then(eb n lo hi).map fun p=> .sl 1 ((d.cells.drop (j+p.1)).take (p.2 - p.1))else none
 | .slice _ esz _ _,.aq=>if 0<esz then(eb 0 lo hi).map fun _=> .aq else none
 |_,_=>none
def vM(ti:TI)(x:D)(lo:Option Int)(h m:Int):Option D:=
 match ti.k,x with
 | .slice _ esz _ _,.sl sz es=>if sz=esz/\0<esz/\m=h then(eb es.length lo (some h)).map fun p=> .g_ sz ((es.drop p.1).take (p.2 - p.1))else none
 | .slice _ esz _ _,.aq=>if m=0/\h=0/\lo.getD 0=0/\0<esz then some .aq else none
 |_,_=>none
def HM(ti:TI)(x:D)(lo hi mx:Option (Option Int)):Option D:=match lo,hi,mx with
 |some l,some (some h),some (some m)=>vM ti x l h m
 |_,_,_=>none
def jc(fs:List (Nat×Nat×Bool)):List D->List (Nat×D)->Option (List D)
 |cs,[]=>some cs
 |cs,(i,d)::ps=>match fs[i]? with
  |some (off,sz,_)=>if d.cells.length=sz/\off+sz<=cs.length/\d.cells.all D.one then jc fs (cs.take off++d.cells++cs.drop (off+sz)) ps else none
  |none=>none
def mc(ti:TI)(ps:List (Nat×D)):Option D:=
 match ti.k with
 | .struct fs _=>if ti.zero.length=ti.size/\0<ti.size/\fs.all (fun f=>decide (0<f.2.1))=true then(jc fs ti.zero ps).map .agg else none
 | .arr n esz ag=>if ti.zero.length=ti.size/\0<ti.size/\0<esz then(jc ((List.range n).map fun i=>(i * esz,esz,ag)) ti.zero ps).map .agg else none
 |_=>none
mutual
def D.pure:D->Bool
 | .agg ds| .aL ds| .fn _ ds| .iw _ ds=>D.aF ds
 | .dB _ d=>d.pure
 | .loc ..| .bE ..| .fH ..| .omap ..=>false
 |_=>true
def D.aF:List D->Bool
 |[]=>true
 |d::ds=>d.pure&&D.aF ds
end
def D.uS(c:D):D:=if c.pure then c else .undef
def D.Ej:D->D
 | .agg ds=> .agg (ds.map D.uS)
 |d=>D.uS d
def mr(T:TypeId->TI)(ti:TI)(len:Nat)(ps:List (Nat×D)):Option D:=
 match ti.k with
 | .slice e esz _ _=>if ps.map (·.1)=List.range len/\ps.all (fun p=>p.2.cells.length==esz&&p.2.cells.all D.one&&p.2.pure)=true/\0<esz/\len * esz<=65536/\(T e).zero.length=esz then some (.sl esz (ps.map (·.2)))else none
 |_=>none
def tN:TK->D->Option Nat
 | .str,.str s=>some s.length
 | .slice _ _ _ _,.sl _ es=>some es.length
 | .slice _ _ _ _,.aq=>some 0
 | .slice _ _ _ _,.bE _ _ _ _ n=>some n
 | .slice _ _ _ _,.g_ _ es=>some es.length
 | .slice _ _ _ _,.fH _ _ _ _ n=>some n
 | .arr n _ _,_=>some n
 |_,_=>none
def mL(b:Builtin)(tis:List TI)(xs:List D):Option D:=
 match b,tis,xs with
 | .len,[ti],[x]=>(tN ti.k x).map fun n:Nat=>D.int .i64 (n:Int)
 | .min,_,xs=>minD xs
 | .max,_,xs=>maxD xs
 | .cap,[⟨.slice _ _ _ _,_,_,_⟩],[.aq]=>some (.int .i64 0)
 |_,_,_=>none
def jd:List D->Option (List UInt8)
 |[]=>some []
 | .int .u8 n::es=>(jd es).map (UInt8.ofNat n.toNat::·)
 |_::_=>none
def TK.qB:TK->Bool
 | .int .u8=>true
 |_=>false
def qM(T:TypeId->TI)(s d:TI):D->Option D
 | .int _ n=>match s.k,d.k with
   | .int _,.int k=>some (.int k (k.wrap n))
   |_,_=>none
 | .str x=>match s.k,d.k with
   | .str,.str=>some (.str x)
   |_,_=>none
 | .sl sz es=>match s.k,d.k with
   | .slice e _ _ _,.str=>if sz=1/\(T e).k.qB=true then(jd es).map .str else none
   |_,_=>none
 | .g_ sz es=>match s.k,d.k with
   | .slice e _ _ _,.str=>if sz=1/\(T e).k.qB=true then(jd es).map .str else none
   |_,_=>none
 | .aq=>match s.k,d.k with
   | .slice e _ _ _,.str=>if(T e).k.qB=true then some (.str [])else none
   |_,_=>none
 |_=>none
def AO(ag:Bool)(cs:List D):D:=if ag then .agg cs else cs.headD .undef
def iZ(ti:TI):Option D:=if 0<ti.size/\ti.zero.length=ti.size/\(ti.agg=true\/ti.size=1)/\ti.zero.all D.one then some (AO ti.agg ti.zero)else none
def CX(ti:TI)(t:TypeId)(x:D):Option D:=match ti.k with
 | .none| .dB=>none
 |_=>some (.dB t x)
def Du(ti:TI)(t:TypeId)(ok:Bool)(x:D):Option D:=match ti.k with
 | .none| .dB=>none
 |_=>match x with
  | .dB t' v=>if t'=t then some (if ok then .aL [v,.bool true]else v)else if ok&& !ti.zero.isEmpty then some (.aL [.undef,.bool false])else none
  | .raw .nilIface=>if ok&& !ti.zero.isEmpty then some (.aL [.undef,.bool false])else none
  |_=>none
def UR(f:Fn)(ds:List D):Option D:=match f with
 | .func g=>some (.iw g ds)
 |_=>none
def zeroV(P:Program)(t:TypeId):Option D:=((P.info? t).bind (·.zero)).map xM
def r9(ti:TI)(z:Option D):Bool:=match ti.k,z with
 | .struct [] _,some (.agg [])=>ti.size==0
 |_,_=>false
def xO(x:Option D)(b:Bool):Option D:=match x with
 |some d=>some d
 |none=>if b then some (.agg [])else none
def vJ(x:Option ae)(b:Bool)(bx:ae)(a v:D):Option ae:=match x with
 |some r=>some r
 |none=>match a with
  | .loc ..=>if b=true/\v.cells=[]then some bx else none
  |_=>none
def cQ(P:Program)(σ:Env)(bx:ae):Op->Option D
 | .move x| .assign x=>some (ev σ x)
 | .pick c a b=>qU (ev σ c) (ev σ a) (ev σ b)
 | .binOp op t x y _=>A5 (an P t) op (ev σ x) (ev σ y) (isNil y)
 | .unOp op _ x=>IB op (ev σ x)
 | .fieldAddr t x i=>nP (an P t) (ev σ x) i
 | .field t x i=>yi (an P t) (ev σ x) i
 | .indexAddr t x ix=>oO (ev σ ix) (eY (an P t) (ev σ x))
 | .index t x ix=>oO (ev σ ix) (ru (an P t) (ev σ x))
 | .load t a=>iF (an P t) bx (ev σ a)
 | .extract x i=>FH (ev σ x) i
 | .slice t x lo hi none=>zb (eV σ lo) (eV σ hi) (jW (an P t) (ev σ x))
 | .slice t x lo hi (some mx)=>HM (an P t) (ev σ x) (eV σ lo) (eV σ hi) (yP (ev σ mx))
 | .build t ps=>xO (mc (an P t) (ps.toList.map fun p=>(p.1,ev σ p.2))) (ps.toList.isEmpty&&r9 (an P t) (zeroV P t))
 | .buildSlice t n ps=>mr (an P) (an P t) n (ps.toList.map fun p=>(p.1,ev σ p.2))
 | .nilCheck x=>Hz (ev σ x)
 | .makeInterface t x=>CX (an P t) t (ev σ x)
 | .typeAssert x _ t ok=>Du (an P t) t ok (ev σ x)
 | .makeFunc f first caps=>if first.size=0 then some (.fn f (caps.toList.map (ev σ)))else if caps.size=0 then UR f (first.toList.map (ev σ))else none
 | .convert s d x=>qM (an P) (an P s) (an P d) (ev σ x)
 | .call {callee:=.builtin b,args,argTypes}=>mL b (argTypes.toList.map (an P)) (args.toList.map (ev σ))
 |_=>none
mutual
def D.bare:D->Bool
 | .agg ds| .aL ds| .fn _ ds| .iw _ ds=>D.FI ds
 | .dB _ d=>d.bare
 | .loc ..| .bE ..| .fH ..| .omap ..| .sl ..| .g_ ..| .cA ..| .undef| .fI=>false
 |_=>true
def D.FI:List D->Bool
 |[]=>true
 |d::ds=>d.bare&&D.FI ds
end
mutual
def bz(bx:ae):D->Option D
 | .loc t e i j=>if(bx t).ep=e/\lv (bx t).k then match(bx t).es[i]? with
  |some d=>if d.pure then some (.cA d j)else some (.cA d.Ej j)
  |none=>none
   else none
 | .bE t e sz o n=>if(bx t).ep=e/\lv (bx t).k/\(bx t).sz=sz/\o+n<=(bx t).es.length then
  (if D.aF (((bx t).es.drop o).take n)then some (.sl sz (((bx t).es.drop o).take n))else none)else none
 | .fH t e i j n=>if(bx t).ep=e/\lv (bx t).k then match(bx t).es[i]? with
  |some d=>if j+n<=d.cells.length/\D.aF ((d.cells.drop j).take n)=true/\((d.cells.drop j).take n).all D.one=true then some (.sl 1 ((d.cells.drop j).take n))else none
  |none=>none
   else none
 | .agg ds=>(dn bx ds).map .agg
 | .aL ds=>(dn bx ds).map .aL
 | .fn f ds=>(dn bx ds).map (.fn f)
 | .iw f ds=>(dn bx ds).map (.iw f)
 | .dB t d=>(bz bx d).map (.dB t)
 | .omap ..=>none
 |d=>some d
def dn(bx:ae):List D->Option (List D)
 |[]=>some []
 |d::ds=>lU (bz bx d) (dn bx ds)
end
mutual
def eN(bx:ae):D->ae
 | .loc t _ _ _| .bE t _ _ _ _| .fH t _ _ _ _=>ak bx t {bx t with k:=if(bx t).k=1 then 2 else(bx t).k}
 | .agg ds| .aL ds| .fn _ ds| .iw _ ds=>dO bx ds
 | .dB _ d=>eN bx d
 |_=>bx
def dO(bx:ae):List D->ae
 |[]=>bx
 |d::ds=>dO (eN bx d) ds
end
def x8(ti:TI)(v:D):Option D:=if 0<ti.size/\v.cells.length=ti.size/\v.cells.all D.one then some v else none
def put(σ:Env)(dst:Option Tmp)(v:D):Env:=
 match dst with
 |some d=>ak σ d v
 |none=>σ
def aK{α:Type}(x:Option α)(f:α->Prop)(_:Tok f:=⟨⟩):Prop:=
 match x with
 |some v=>f v
 |none=>False
def iJ(bx:ae)(esz:Nat):D->Option (List D)
 | .aq=>some []
 | .sl sz es=>if sz=esz then some es else none
 | .bE t e sz o n=>if sz=esz/\(bx t).ep=e/\lv (bx t).k/\(bx t).sz=sz/\o+n<=(bx t).es.length then some (((bx t).es.drop o).take n)else none
 | .g_ sz es=>if sz=esz then some es else none
 | .fH t e i j n=>if esz=1/\(bx t).ep=e/\lv (bx t).k then match(bx t).es[i]? with
  |some d=>if j+n<=d.cells.length/\((d.cells.drop j).take n).all D.one=true then some ((d.cells.drop j).take n)else none
  |none=>none
   else none
 |_=>none
def SB(x:D)(bx:ae):Option (D×ae):=match x with
 | .g_ sz es=>some (.sl sz es,bx)
 | .aq=>some (x,bx)
 | .bE ..=>some (x,bx)
 | .sl ..=>some (x,bx)
 |_=>none
def DJ(lo d el esz bytes:Nat)(bx:ae)(t:Nat)(b:Bx)(e sz o n:Nat)(ys:List D):Option (D×ae):=
 if lo<=t/\sz=esz/\o=0/\b.ep=e/\b.k=1/\b.sz=sz/\b.ty=el/\n<=b.es.length/\(n+ys.length) * bytes<=140737488355328/\0<esz/\0<bytes then
  some (.bE d ((bx d).ep+1) esz 0 (n+ys.length),ak (ak bx t {b with k:=0}) d ⟨(bx d).ep+1,1,esz,el,b.es.take n++ys⟩)else none
def pF(lo d el esz bytes:Nat)(bx:ae)(x:D)(ys:List D):Option (D×ae):=match x with
 | .aq=>if ys.length * bytes<=140737488355328/\0<esz/\0<bytes then
  some (.bE d ((bx d).ep+1) esz 0 ys.length,ak bx d ⟨(bx d).ep+1,1,esz,el,ys⟩)else none
 | .bE t e sz o n=>DJ lo d el esz bytes bx t (bx t) e sz o n ys
 | .g_ sz es=>if sz=esz/\(es.length+ys.length) * bytes<=140737488355328/\0<esz/\0<bytes then
  some (.bE d ((bx d).ep+1) esz 0 (es.length+ys.length),ak bx d ⟨(bx d).ep+1,1,esz,el,es++ys⟩)else none
 |_=>none
def a_(s:List UInt8):List D:=s.map fun b=> .int .u8 (b.toNat:Int)
def f_(lo:Nat)(T:TypeId->TI)(ti:TI)(dst:Option Tmp)(bx:ae)(x:D)(ys:List D):Option (D×ae):=
 match ti.k,dst with
 | .slice el esz bytes _,some d=>if ys=[]then SB x bx else if(T el).zero.length=esz then pF lo d el esz bytes bx x ys else none
 |_,_=>none
def Kz(lo:Nat)(T:TypeId->TI)(ti:TI)(dst:Option Tmp)(bx:ae)(x y:D):Option (D×ae):=match ti.k with
 | .slice _ esz _ _=>if esz=0 then none else(iJ bx esz y).bind fun ys=>f_ lo T ti dst bx x ys
 |_=>none
def FG(lo d el esz bytes:Nat)(bx:ae)(x:D)(ys:List D):Option (D×ae):=match x with
 | .aq=>if ys=[]then some (x,bx)else pF lo d el esz bytes bx x ys
 | .bE ..=>if ys=[]then some (x,bx)else pF lo d el esz bytes bx x ys
 |_=>none
def xX(lo:Nat)(T:TypeId->TI)(ti XW:TI)(dst:Option Tmp)(bx:ae)(x y:D):Option (D×ae):=match ti.k,XW.k,dst,y with
 | .slice el esz bytes _,.int _,some d,.int _ n=>if 0<=n/\n<=140737488355328/\(T el).zero.length=esz/\0<esz/\0<bytes then(iZ (T el)).bind fun z=>FG lo d el esz bytes bx x (List.replicate n.toNat z)else none
 | .slice el esz _ _,.str,some _,.str s=>if(T el).zero.length=esz/\esz=1/\(T el).k.qB=true then f_ lo T ti dst bx x (a_ s)else none
 |_,_,_,_=>none
def uV(lo:Nat)(T:TypeId->TI)(t t':TypeId)(dst:Option Tmp)(bx:ae)(x y:D):Option (D×ae):=
 if t=t' then Kz lo T (T t) dst bx x y else xX lo T (T t) (T t') dst bx x y
def FF(lo:Nat)(T:TypeId->TI)(ts:List TypeId)(dst:Option Tmp)(bx:ae)(xs:List D):Option (D×ae):=match ts,xs with
 |[t,t'],[x,y]=>uV lo T t t' dst bx x y
 |_,_=>none
def v_(bx:ae)(t:Nat)(b:Bx)(e i j:Nat)(cs:List D):Option ae:=if b.ep=e/\b.k=1 then
 match b.es[i]? with
 |some d0=>(fi d0 j cs).map fun d'=>ak bx t {b with es:=b.es.set i d'}
 |none=>none
 else none
def gB(lo:Nat)(ti:TI)(bx:ae)(a v:D):Option ae:=
 match a with
 | .loc t e i j=>if lo<=t/\v.cells.length=ti.size/\0<ti.size/\v.cells.all D.one then v_ bx t (bx t) e i j v.cells else none
 |_=>none
inductive Cl where
 |n
 |r (t:Nat)
 |w (t:Nat)
 |ra
 |wa
 |cU (d:D)
def Cl.rd:Cl->Nat->Bool
 | .n,_=>false
 | .r t,s| .w t,s=>s==t
 |_,_=>true
def Cl.wr:Cl->Nat->Bool
 | .w t,s=>s==t
 | .wa,_| .cU _,_=>true
 |_,_=>false
def nY:D->Cl
 | .loc t _ _ _=> .r t
 |_=> .n
def lB:D->Cl
 | .loc t _ _ _=> .w t
 |_=> .wa
def apart:Cl->Cl->Prop
 | .n,_|_,.n=>True
 | .r _,.r _| .ra,.r _| .r _,.ra| .ra,.ra=>True
 | .r s,.w t| .w s,.r t| .w s,.w t=>s≠t
 |_,_=>False
def BV:Option Cl->Option Cl->Prop
 |some a,some b=>apart a b
 |_,_=>False
def Et:List (Nat×Nat)->List Cl->Prop
 |[],_=>True
 |(i,j)::ps,acc=>BV acc[i]? acc[j]?/\Et ps acc
def nU:List (Nat×List (Nat×Nat))->Nat->List (Nat×Nat)
 |[],_=>[]
 |(k,ps)::r,id=>if k=id then ps else nU r id
structure gN where
 to:FuncId->List D->D->Prop
 ud:FuncId->Nat->List D->ae->(D->ae->Prop)->(D->ae->Prop)->Prop
 it:FuncId->List D->List (List D)->Nat->Prop
 AL:FuncId->Bx->List (List D)->Option D->Nat->Prop
structure Calc where
 o:gN
 tab:List (Nat×List (Nat×Nat))
 base:Nat
 bk:Nat
 lo:Nat
 yl:Option (List (List D)×Nat×Nat)
 pn:Bool
 df:Bool
def Calc.As(C:Calc):Calc:=⟨⟨C.o.to,fun _ _ _ _ _ _=>False,fun _ _ _ _=>False,fun _ _ _ _ _=>False⟩,C.tab,C.base,C.bk,C.lo,none,false,false⟩
mutual
def D.simple:D->Bool
 | .int ..| .bool _| .str _| .raw _| .aq=>true
 | .agg ds| .fn _ ds=>D.pC ds
 |_=>false
def D.pC:List D->Bool
 |[]=>true
 |d::ds=>d.simple&&D.pC ds
end
def mV:TK->D->D->Option Bool
 | .int _,.int k a,.int k' b=>if k=k' then some (a==b)else none
 | .str,.str a,.str b=>some (a==b)
 | .bool,.bool a,.bool b=>some (a==b)
 |_,_,_=>none
def mQ:TK->D->Bool
 | .int j,.int k _=>decide (k=j)
 | .str,.str _=>true
 | .bool,.bool _=>true
 |_,_=>false
def fb(tk:TK)(k:D):List D->Nat->Option (Option (Nat×D))
 |[],_=>some none
 | .aL [k',v,_]::es,i=>match mV tk k k' with
   |some true=>some (some (i,v))
   |some false=>fb tk k es (i+1)
   |none=>none
 |_,_=>none
def Bz(k v:D):D->D
 | .aL [_,_,b]=> .aL [k,v,b]
 |d=>d
def ot(tk:TK)(k v:D)(c:Int)(es:List D):Option (List D):=match fb tk k es 0 with
 |some (some (i,_))=>some (.int .i64 c::es.modify i (Bz k v))
 |some none=>some (.int .i64 (c+1)::(es++[.aL [k,v,.int .i64 c]]))
 |none=>none
def Gu(tk:TK)(k:D)(c:Int)(es:List D):Option (List D):=match fb tk k es 0 with
 |some (some (i,_))=>some (.int .i64 c::es.eraseIdx i)
 |some none=>some (.int .i64 c::es)
 |none=>none
def CW(t:Nat):List D->Option (Nat×Int×List D)
 | .int .i64 c::es=>some (t,c,es)
 |_=>none
def iW(bx:ae):D->Option (Nat×Int×List D)
 | .omap t e=>if(bx t).ep=e/\(bx t).k=3 then CW t (bx t).es else none
 |_=>none
def yR(t:Nat):List D->Option (Nat×D×Int×Int×List D)
 | .omap m k:: .int .i64 s:: .int .i64 l::seen=>some (t,.omap m k,s,l,seen)
 |_=>none
def iterAt(bx:ae):D->Option (Nat×D×Int×Int×List D)
 | .loc t e 0 0=>if(bx t).ep=e/\(bx t).k=3 then yR t (bx t).es else none
 |_=>none
def intOf:D->Int
 | .int _ n=>n
 |_=>0
def gQ:D->Int
 | .aL [_,_,.int .i64 n]=>n
 |_=>0
def r8(Z:Option D)(ok:Bool):Option (Option (Nat×D))->Option D
 |some (some (_,v))=>some (if ok then .aL [v,.bool true]else v)
 |some none=>Z.map fun z=>if ok then .aL [z,.bool false]else z
 |none=>none
def sE(P:Program)(T:TypeId->TI)(ti:TI)(bx:ae)(m k:D)(ok:Bool):Option D:=match ti.k with
 | .map kt et=>if mQ (T kt).k k=true then(iW bx m).bind fun r=>r8 (zeroV P et) ok (fb (T kt).k k r.2.2 0)else none
 |_=>none
def xo:D->Cl
 | .omap t _=> .r t
 |_=> .n
def fM(bx:ae)(t:Nat)(es:List D):ae:=ak bx t {bx t with es:=es}
def zE(T:TypeId->TI)(ti:TI)(bx:ae)(m k v:D):Option ae:=match ti.k with
 | .map kt _=>if mQ (T kt).k k=true/\v.simple=true then(iW bx m).bind fun r=>(ot (T kt).k k v r.2.1 r.2.2).map (fM bx r.1)else none
 |_=>none
def KP(T:TypeId->TI)(ti:TI)(bx:ae)(m k:D):Option ae:=match ti.k with
 | .map kt _=>if mQ (T kt).k k=true then(iW bx m).bind fun r=>(Gu (T kt).k k r.2.1 r.2.2).map (fM bx r.1)else none
 |_=>none
def zR(T:TypeId->TI)(ts:List TypeId)(bx:ae)(xs:List D):Option ae:=match ts,xs with
 |t::_,[m,k]=>KP T (T t) bx m k
 |_,_=>none
def Bh(bx:ae)(xs:List D):Option D:=match xs with
 |[m]=>(iW bx m).map fun r=> .int .i64 (r.2.2.length:Int)
 |_=>none
def BD(ti:TI)(bx:ae)(x:D):Option (List D):=match ti.k with
 | .map _ _=>(iW bx x).map fun r=>[x,.int .i64 r.2.1,.int .i64 r.2.1]
 |_=>none
def zS(seen:List D)(es:List D):Option D:=match seen.getLast? with
 |some s=>match es.find? fun e=>gQ e==intOf s with
  |some (.aL [k,v,_])=>some (.aL [k,v])
  |_=>none
 |none=>none
def tj(bx:ae)(x:D):Option D:=(iterAt bx x).bind fun i=>(iW bx i.2.1).bind fun r=>if r.2.1=i.2.2.2.1 then zS i.2.2.2.2 r.2.2 else none
def iE(seen es:List D):List D:=es.filter fun e=> !(seen.map intOf).contains (gQ e)
def wM(bx:ae)(x:D)(K:D->ae->Prop)(_:Tok (K .undef bx):=⟨⟩):Prop:=aK (iterAt bx x) fun i=>aK (iW bx i.2.1) fun r=>
 (i.2.2.2.2=[]\/r.2.2=[]\/∃e∈r.2.2,gQ e<i.2.2.2.1)/\
 (∀k v b,.aL [k,v,.int .i64 b]∈iE i.2.2.2.2 r.2.2->K (.aL [.bool true,k,v]) (fM bx i.1 (i.2.1:: .int .i64 i.2.2.1:: .int .i64 r.2.1::(i.2.2.2.2++[.int .i64 b]))))/\
 ((∀e∈iE i.2.2.2.2 r.2.2,i.2.2.1<=gQ e)->K (.aL [.bool false]) bx)
def bU(n:Nat)(bx:ae):ae:=fun s=>if s<n then bx s else .none
def qE(lo hi:Nat)(bx bx1:ae):ae:=fun s=>if lo<=s/\s<hi then bx s else bx1 s
inductive bN:D->D->Prop where
 |refl (d:D):bN d d
 |nil (sz:Nat):bN .aq (.sl sz [])
 |aL {ds ds':List D} (hl:ds.length=ds'.length) (h:∀(i:Nat) x x',ds[i]? =some x->ds'[i]? =some x'->bN x x'):bN (.aL ds) (.aL ds')
 |agg {ds ds':List D} (hl:ds.length=ds'.length) (h:∀(i:Nat) x x',ds[i]? =some x->ds'[i]? =some x'->bN x x'):bN (.agg ds) (.agg ds')
 |sl {sz:Nat} {ds ds':List D} (hl:ds.length=ds'.length) (hz:∀(i:Nat) x x',ds[i]? =some x->ds'[i]? =some x'->x.cells.length=x'.cells.length)
  (h:∀(i:Nat) x x' (j:Nat) c c',ds[i]? =some x->ds'[i]? =some x'->x.cells[j]? =some c->x'.cells[j]? =some c'->bN c c'):bN (.sl sz ds) (.sl sz ds')
def fz(C:Calc)(f:FuncId)(ds:List D)(bx:ae)(K:Cl->D->ae->Prop)(_:Tok (K .n .undef bx):=⟨⟩):Prop:=
 (∃d,D.aF ds=true/\C.o.to f ds d/\K .n d bx)\/
 (∃ds' d,dn bx ds=some ds'/\C.o.to f ds' d/\d.bare=true/\K .ra d bx)\/
 (∃ds' d,C.lo=0/\dn bx ds=some ds'/\C.o.to f ds' d/\K .wa d (dO bx ds))\/
 (∃cB Pan,C.lo=0/\C.o.ud f C.bk ds bx cB Pan/\(∀d bx',cB d bx'->K .wa d bx'\/∃r r',bz bx' d=some r/\bN r r'/\K .wa r' (dO bx' [d]))/\∀d bx',Pan d bx'->K (.cU d) .undef bx')
def qd(C:Calc)(l:Nat)(ds:List D)(bx:ae)(K:Cl->D->ae->Prop)(_:Tok (K .n .undef bx):=⟨⟩):Prop:=match C.yl with
 |some (items,gs,l')=>(l'=l/\D.aF ds=true/\items[(bx gs).sz]? =some ds)/\∀bx1:ae,
  K .wa (.bool true) (ak (qE C.lo C.bk bx bx1) gs {bx gs with sz:=(bx gs).sz+1})/\
  K .wa (.bool false) (ak (qE C.lo C.bk bx bx1) gs {bx gs with sz:=items.length+1})
 |none=>False
def lT(C:Calc)(d:D)(ds:List D)(bx:ae)(K:Cl->D->ae->Prop)(_:Tok (K .n .undef bx):=⟨⟩):Prop:=match d with
 | .fn (.func f) caps=>fz C f (ds++caps) bx K
 | .fn (.yield l) []=>qd C l ds bx K
 | .iw f fs=>fz C f (fs++ds) bx K
 |_=>False
def ed:Nat:=1000000000
def D6(d:D)(f:D->Prop)(_:Tok (f .undef):=⟨⟩):Prop:=match d with
 | .dB t v=>f (.dB t v)
 |_=>False
def C7:D->D->List D->D
 | .any l,fo,args=> .any (.aL (fo::args)::l)
 |_,fo,args=> .any [.aL (fo::args)]
def uG(T:TypeId->TI)(ti:TI)(l c:D):Option (Nat×TypeId×List D):=match ti.k,l,c with
 | .slice el esz bytes _,.int _ n,.int _ m=>if 0<=n/\n<=m/\m * bytes<=140737488355328/\0<esz/\0<bytes/\(T el).size=esz then(iZ (T el)).map fun z=>(esz,el,List.replicate n.toNat z)else none
 |_,_,_=>none
def uF(T:TypeId->TI)(ti:TI)(len:Nat)(ps:List (Nat×D)):Option (Nat×TypeId×List D):=
 match ti.k with
 | .slice e esz _ _=>if ps.map (·.1)=List.range len/\ps.all (fun p=>p.2.cells.length==esz&&p.2.cells.all D.one)=true/\0<esz/\len * esz<=65536/\(T e).zero.length=esz then some (esz,e,ps.map (·.2))else none
 |_=>none
def qS:List (Nat×List (Nat×Nat))->Nat->Bool
 |[],_=>false
 |(k,_)::r,d=>if k=1000000+d then true else qS r d
def WY(tab:List (Nat×List (Nat×Nat))):Option Tmp->Bool
 |some d=>qS tab d
 |none=>false
def kT(b:Nat):Option Tmp->Option Nat
 |some d=>some (b+d)
 |none=>none
def wm(lo:Nat)(bx:ae)(x:D)(ys:List D):Option (Nat×ae):=match x with
 | .aq=>some (0,bx)
 | .bE t e sz o n=>if lo<=t/\sz=1/\(bx t).ep=e/\(bx t).k=1/\(bx t).sz=1/\o+n<=(bx t).es.length then
  some (min ys.length n,ak bx t {bx t with es:=(bx t).es.take o++ys.take n++(bx t).es.drop (o+min ys.length n)})else none
 | .fH t e i j n=>if lo<=t/\(bx t).ep=e/\(bx t).k=1 then match(bx t).es[i]? with
  |some d=>(fi d j (ys.take n)).map fun d'=>(min ys.length n,ak bx t {bx t with es:=(bx t).es.set i d'})
  |none=>none
   else none
 |_=>none
def wj(lo:Nat)(ti XW:TI)(bx:ae)(x y:D):Option (Nat×ae):=match ti.k,XW.k with
 | .slice _ esz _ _,.slice _ _ _ _=>if esz=1 then(iJ bx 1 y).bind fun ys=>if ys.all D.one=true then wm lo bx x ys else none else none
 |_,_=>none
def yd(lo:Nat)(T:TypeId->TI)(ts:List TypeId)(bx:ae)(xs:List D):Option (Nat×ae):=match ts,xs with
 |[t,t'],[x,y]=>wj lo (T t) (T t') bx x y
 |_,_=>none
def TK.isMap:TK->Bool
 | .map ..=>true
 |_=>false
def oU(P:Program):Op->Bool
 | .makeMap ..| .mapUpdate ..| .range ..| .next ..| .entry ..=>true
 | .call {callee:= .builtin b,args:=_,argTypes}=>match b with
   | .delete=>true
   | .copy=>true
   | .len=>match argTypes.toList with
     |[T]=>(an P T).k.isMap
     |_=>false
   |_=>false
 |_=>false
def kI:Op->Bool
 | .next ..=>true
 | .call {callee:=.builtin .len,..}=>true
 |_=>false
def iq(P:Program)(C:Calc)(dst:Option Tmp)(op:Op)(σ:Env)(bx:ae)(K:Cl->Env->ae->Prop):Prop:=match op with
 | .makeMap T none=>match dst with
   |some d=>K .wa (ak σ d (.omap (C.base+d) ((bx (C.base+d)).ep+1))) (ak bx (C.base+d) ⟨(bx (C.base+d)).ep+1,3,0,T,[.int .i64 0]⟩)
   |none=>False
 | .mapUpdate T m k v=>aK (zE (an P) (an P T) bx (ev σ m) (ev σ k) (ev σ v)) fun bx'=>K .wa (put σ dst (.raw undef)) bx'
 | .range T x=>match dst with
   |some d=>aK (BD (an P T) bx (ev σ x)) fun es=>K .wa (ak σ d (.loc (C.base+d) ((bx (C.base+d)).ep+1) 0 0)) (ak bx (C.base+d) ⟨(bx (C.base+d)).ep+1,3,0,0,es⟩)
   |none=>False
 | .next it false=>wM bx (ev σ it) fun v bx'=>K .wa (put σ dst v) bx'
 | .entry it=>aK (tj bx (ev σ it)) fun v=>K .wa (put σ dst v) bx
 | .call {callee:= .builtin b,args,argTypes}=>match b with
   | .delete=>aK (zR (an P) argTypes.toList bx (args.toList.map (ev σ))) fun bx'=>K .wa (put σ dst (.raw (.tuple #[]))) bx'
   | .len=>aK (Bh bx (args.toList.map (ev σ))) fun v=>K .wa (put σ dst v) bx
   | .copy=>aK (yd C.lo (an P) argTypes.toList bx (args.toList.map (ev σ))) fun r=>K .wa (put σ dst (.int .i64 (r.1:Int))) r.2
   |_=>False
 |_=>False
def uW(lo d el esz bytes:Nat)(bx:ae)(x:D)(ys:List D):Option ((D×ae)×(D×ae)):=match x with
 | .bE t e sz o n=>if lo<=t/\sz=esz/\(bx t).ep=e/\(bx t).k=1/\(bx t).sz=sz/\(bx t).ty=el/\o+n<=(bx t).es.length/\(n+ys.length) * bytes<=140737488355328/\0<esz/\0<bytes then
  some ((.bE d ((bx d).ep+1) esz 0 (n+ys.length),ak (ak bx t {bx t with k:=0}) d ⟨(bx d).ep+1,1,esz,el,((bx t).es.drop o).take n++ys⟩),
   (.bE d ((bx d).ep+1) esz o (n+ys.length),ak (ak bx t {bx t with k:=0}) d ⟨(bx d).ep+1,1,esz,el,(bx t).es.take (o+n)++ys⟩))else none
 | .g_ sz es=>if sz=esz/\(es.length+ys.length) * bytes<=140737488355328/\0<esz/\0<bytes then
  some ((.bE d ((bx d).ep+1) esz 0 (es.length+ys.length),ak bx d ⟨(bx d).ep+1,1,esz,el,es++ys⟩),(.bE d ((bx d).ep+1) esz 0 (es.length+ys.length),ak bx d ⟨(bx d).ep+1,1,esz,el,es++ys⟩))else none
 | .aq=>if ys.length * bytes<=140737488355328/\0<esz/\0<bytes then
  some ((.bE d ((bx d).ep+1) esz 0 ys.length,ak bx d ⟨(bx d).ep+1,1,esz,el,ys⟩),(.bE d ((bx d).ep+1) esz 0 ys.length,ak bx d ⟨(bx d).ep+1,1,esz,el,ys⟩))else none
 |_=>none
def It(x:D)(bx:ae):Option ((D×ae)×(D×ae)):=match x with
 | .g_ sz es=>some ((.sl sz es,bx),(.sl sz es,bx))
 | .aq| .bE ..| .sl ..=>some ((x,bx),(x,bx))
 |_=>none
def pK(T:TypeId->TI)(t t':TypeId)(esz el:Nat)(bx:ae)(y:D):Option (List D):=if t=t' then iJ bx esz y else match(T t').k,y with
 | .str,.str s=>if(T el).k.qB=true/\esz=1 then some (a_ s)else none
 |_,_=>none
def uo(lo:Nat)(T:TypeId->TI)(ti:TI)(t t':TypeId)(dst:Option Tmp)(bx:ae)(x y:D):Option ((D×ae)×(D×ae)):=match ti.k,dst with
 | .slice el esz bytes _,some d=>if(T el).zero.length=esz/\0<esz then(pK T t t' esz el bx y).bind fun ys=>if ys=[]then It x bx else uW lo d el esz bytes bx x ys else none
 |_,_=>none
def KA(lo:Nat)(T:TypeId->TI)(ts:List TypeId)(dst:Option Tmp)(bx:ae)(xs:List D):Option ((D×ae)×(D×ae)):=match ts,xs with
 |[t,t'],[x,y]=>uo lo T (T t) t t' dst bx x y
 |_,_=>none
def FE(tab:List (Nat×List (Nat×Nat))):Option Tmp->Bool
 |some d=>qS tab (2000000+d)
 |none=>false
def sF(P:Program)(t:TypeId)(name:String):Option FuncId:=match P.info? t,P.underlying t with
 |some i,some d=>match d with
  | .pointer _=>none
  |_=>match i.methods.find? (·.name==name)with
   |some m=>if m.path.size=0 then(match m.func with
    |some (f,false)=>some f
    |_=>none)else none
   |none=>none
 |_,_=>none
def oS(P:Program)(C:Calc)(d:D)(name:String)(ds:List D)(bx:ae)(K:Cl->D->ae->Prop)(_:Tok (K .n .undef bx):=⟨⟩):Prop:=match d with
 | .dB t d=>aK (sF P t name) fun f=>fz C f (d::ds) bx K
 |_=>False
def fA(P:Program)(C:Calc)(dst:Option Tmp)(op:Op)(σ:Env)(bx:ae)(K:Cl->Env->ae->Prop):Prop:=match op with
 | .buildSlice T n ps=>if WY C.tab dst=true then (match dst with
   |some d=>aK (uF (an P) (an P T) n (ps.toList.map fun p=>(p.1,ev σ p.2))) fun r=>K (.w (C.base+d)) (ak σ d (.bE (C.base+d) ((bx (C.base+d)).ep+1) r.1 0 r.2.2.length)) (ak bx (C.base+d) ⟨(bx (C.base+d)).ep+1,1,r.1,r.2.1,r.2.2⟩)
   |none=>False)else aK (cQ P σ bx (.buildSlice T n ps)) fun v=>K .n (put σ dst v) bx
 | .lookup T m k ok=>aK (sE P (an P) (an P T) bx (ev σ m) (ev σ k) ok) fun v=>aK (some (xo (ev σ m))) fun c=>K c (put σ dst v) bx
 | .call {callee:=.invoke recv name,args,argTypes:=_}=>oS P C (ev σ recv) name (args.toList.map (ev σ)) bx fun c d bx'=>K c (put σ dst d) bx'
 |op=>if oU P op=true then(kI op=true->C.pn=true)/\C.lo=0/\iq P C dst op σ bx K else aK (cQ P σ bx op) fun v=>K .n (put σ dst v) bx
def bp(P:Program)(C:Calc)(o:Oper)(σ:Env)(bx:ae)(K:Cl->Env->ae->Prop):Prop:=
 match o.op with
 | .alloc T=>match o.dst with
   |some d=>aK (xO (iZ (an P T)) (r9 (an P T) (zeroV P T))) fun z=>aK (some (an P T).size) fun s=>K (.w (C.base+d)) (ak σ d (.loc (C.base+d) ((bx (C.base+d)).ep+1) 0 0)) (ak bx (C.base+d) ⟨(bx (C.base+d)).ep+1,1,s,T,[z]⟩)
   |none=>False
 | .box T x=>match o.dst with
   |some d=>aK (x8 (an P T) (ev σ x)) fun v=>aK (some (an P T).size) fun s=>K (.w (C.base+d)) (ak σ d (.loc (C.base+d) ((bx (C.base+d)).ep+1) 0 0)) (ak bx (C.base+d) ⟨(bx (C.base+d)).ep+1,1,s,T,[v]⟩)
   |none=>False
 | .store T a x=>aK (vJ (gB C.lo (an P T) bx (ev σ a) (ev σ x)) (r9 (an P T) (zeroV P T)) bx (ev σ a) (ev σ x)) fun bx'=>aK (some (lB (ev σ a))) fun c=>K c (put σ o.dst (.raw undef)) bx'
 | .load T a=>aK (iF (an P T) bx (ev σ a)) fun v=>aK (some (nY (ev σ a))) fun c=>K c (put σ o.dst v) bx
 | .call {callee:= .builtin .append,args,argTypes}=>if FE C.tab o.dst=true then (C.pn=true/\aK (KA C.lo (an P) argTypes.toList (kT C.base o.dst) bx (args.toList.map (ev σ))) fun r=>K .wa (put σ o.dst r.1.1) r.1.2/\K .wa (put σ o.dst r.2.1) r.2.2) else
   aK (FF C.lo (an P) argTypes.toList (kT C.base o.dst) bx (args.toList.map (ev σ))) fun r=>K .wa (put σ o.dst r.1) r.2
 | .call {callee:=.value fo,args,argTypes:=_}=>lT C (ev σ fo) (args.toList.map (ev σ)) bx fun c d bx'=>K c (put σ o.dst d) bx'
 | .panic x=>C.pn=true/\D6 (ev σ x) fun d=>K (.cU d) σ bx
 | .defer {callee:=.value fo,args,argTypes:=_}=>C.df=true/\(match ev σ fo with| .fn (.func f) caps=>K .n (put (ak σ ed (C7 (σ ed) (.fn (.func f) caps) (args.toList.map (ev σ)))) o.dst (.raw undef)) bx|_=>False)
 | .makeSlice T l c=>match o.dst with
   |some d=>aK (uG (an P) (an P T) (ev σ l) (ev σ c)) fun r=>K (.w (C.base+d)) (ak σ d (.bE (C.base+d) ((bx (C.base+d)).ep+1) r.1 0 r.2.2.length)) (ak bx (C.base+d) ⟨(bx (C.base+d)).ep+1,1,r.1,r.2.1,r.2.2⟩)
   |none=>False
 |op=>fA P C o.dst op σ bx K
def jn(c:Cl)(x y:Prop)(_:Tok (x/\y):=⟨⟩):Prop:=match c with
 | .cU _=>x
 |_=>y
def qF(P:Program)(C:Calc)(full:List Oper):List Oper->List Cl->Env->ae->(List Cl->Env->ae->Prop)->Prop
 |[],acc,σ,bx,K=>K acc σ bx
 |o::rest,acc,σ,bx,K=>
  match o.guard with
  |none=>bp P C o σ bx fun c σ' bx'=>jn c (K (c::acc) σ' bx') (qF P C full rest (c::acc) σ' bx' K)
  |some (j,want)=>aK (pM full[j]? σ) fun g=>
   gK g want (bp P C o σ bx fun c σ' bx'=>jn c (K (c::acc) σ' bx') (qF P C full rest (c::acc) σ' bx' K))
    (qF P C full rest (.n::acc) (put σ o.dst (.raw undef)) bx K)
def oZ(P:Program)(C:Calc)(full l:List Oper)(acc:List Cl)(σ:Env)(bx:ae)(K:List Cl->Env->ae->Prop)(_:Tok (full,l):=⟨⟩)(_:Tok (K acc σ bx):=⟨⟩):Prop:=qF P C full l acc σ bx K
def Hu(lo:Nat):D->Bool
 | .bE s ..| .fH s ..| .loc s ..=>decide (lo<=s)
 |x=>x.pure
def eO(bx:ae)(s:Nat)(es:List D):ae:=ak (dO bx (bx s).es) s {dO bx (bx s).es s with es:=es}
def uZ(lo t:Nat)(σ:Env)(bx:ae):Option (Env×ae):=if t<ed/\(lo=0\/Hu lo (σ t)=true)then
 (bz bx (σ t)).map fun v=>(ak σ t v,eN bx (σ t))
 else if lo=0/\2000000000<=t/\(bx (t - 2000000000)).k=1 then(dn bx (bx (t - 2000000000)).es).map fun es=>(σ,eO bx (t - 2000000000) es)else none
def qO(lo:Nat):List Nat->Env->ae->Option (Env×ae)
 |[],σ,bx=>some (σ,bx)
 |t::ts,σ,bx=>(uZ lo t σ bx).bind fun s=>qO lo ts s.1 s.2
def vb(acc:List Cl)(x y:Prop)(_:Tok (x/\y):=⟨⟩):Prop:=match acc with
 | .cU _::_=>x
 |_=>y
def pJ:List (Nat×Nat)->Nat->List Nat
 |[],_=>[]
 |(a,t)::ps,i=>if a=i then t::pJ ps i else pJ ps i
def sH(P:Program)(C:Calc)(full:List Oper)(ps:List (Nat×Nat)):Nat->List Oper->List Cl->Env->ae->(List Cl->Env->ae->Prop)->Prop
 |_,[],acc,σ,bx,K=>K acc σ bx
 |i,o::rest,acc,σ,bx,K=>aK (qO C.lo (pJ ps i) σ bx) fun s=>oZ P C full [o] acc s.1 s.2 fun rP σ' bx'=>vb rP (K rP σ' bx') (sH P C full ps (i+1) rest rP σ' bx' K)
def LF(P:Program)(C:Calc)(full:List Oper)(ps:List (Nat×Nat))(i:Nat)(l:List Oper)(acc:List Cl)(σ:Env)(bx:ae)(K:List Cl->Env->ae->Prop)(_:Tok (full,l):=⟨⟩)(_:Tok (K acc σ bx):=⟨⟩):Prop:=sH P C full ps i l acc σ bx K
def y_(P:Program)(C:Calc)(full:List Oper)(ps:List (Nat×Nat))(l:List Oper)(acc:List Cl)(σ:Env)(bx:ae)(K:List Cl->Env->ae->Prop)(_:Tok (full,l):=⟨⟩)(_:Tok (K acc σ bx):=⟨⟩):Prop:=match ps with
 |[]=>oZ P C full l acc σ bx K
 |p::ps=>sH P C full (p::ps) 0 l acc σ bx K
def ordered(b:Array Nat)(i j:Nat):Bool:=(b.getD (max i j) 0).testBit (min i j)
def tmpsOf(full:List Oper)(o:Oper):List Tmp:=
 o.dst.toList++o.looksAt full.toArray
def eQ:Op->Nat
 | .load ..| .lookup ..=>1
 | .alloc ..| .box ..| .store ..| .makeSlice ..| .buildSlice ..=>2
 | .call {callee:=.builtin .append,..}=>2
 | .call {callee:=.value _,..}=>2
 | .call {callee:=.invoke _ _,..}=>2
 | .call {callee:=.builtin .delete,..}=>2
 | .call {callee:=.builtin .copy,..}=>2
 | .makeMap ..| .mapUpdate ..| .range ..| .entry ..=>2
 |_=>0
def Cd(full:List Oper)(ps:List (Nat×Nat)):Bool:=
 let b:=Region.before full.toArray
 full.zipIdx.all fun(o,j)=>o.after.toList.all (fun e=> !Region.binds .any e||decide (e.on<j))&&
  full.zipIdx.all fun(o',i)=>i==j||ordered b i j||
   (
    (match o'.dst with|some d=> !(tmpsOf full o).contains d|none=>true)&&
    (match o.dst with|some d=> !(tmpsOf full o').contains d|none=>true)&&
    (!(eQ o.op==2&&eQ o'.op != 0)||ps.contains (full.length - 1 - j,full.length - 1 - i)||ps.contains (full.length - 1 - i,full.length - 1 - j)))
inductive qY where
 |fin
 |stop
 |bm (i:Nat) (n:qY)
 |load (i s:Nat) (n:qY)
 |both (i:Nat) (jb:List Nat) (a r:qY)
def DY(o:Oper):Bool:=match o.op with
 | .move ..| .assign ..| .pick ..| .binOp ..| .unOp ..| .fieldAddr ..| .field ..| .indexAddr ..| .index ..| .extract ..| .slice ..| .build ..| .nilCheck ..| .makeInterface ..| .typeAssert ..| .makeFunc ..| .convert ..=>true
 |_=>false
def Hv(o:Oper):Bool:=match o.op with
 | .load ..=>true
 |_=>false
def si(full:List Oper)(L:Nat->Bool)(i:Nat):Bool:= !L i&&match full[i]? with
 |some o=>o.after.toList.all fun e=> !Region.binds .any e||L e.on
 |none=>false
def mA(L:Nat->Bool)(i:Nat):Nat->Bool:=fun k=>k==i||L k
def eA(full:List Oper):(Nat->Bool)->List (Nat×Nat)->List Nat->qY->Bool
 |L,_,me,.fin=>me.isEmpty&&(List.range full.length).all fun j=> !si full L j
 |L,_,me,.stop=> !me.isEmpty&&(List.range full.length).all fun j=> !si full L j||me.contains j
 |L,F,me,.bm i n=>me.isEmpty&&si full L i&&(match full[i]? with|some o=>DY o|none=>false)&&eA full (mA L i) F [] n
 |L,F,me,.load i s n=>me.isEmpty&&si full L i&&(match full[i]? with|some o=>Hv o|none=>false)&&eA full (mA L i) ((i,s)::F) [] n
 |L,F,me,.both i jb a r=>si full L i&&(F.all fun p=>ordered (Region.before full.toArray) p.1 i||jb.contains p.2)&&eA full (mA L i) F [] a&&eA full L F (i::me) r
def Ai(full:List Oper):Bool:=
 let b:=Region.before full.toArray
 full.zipIdx.all fun(o,j)=>o.guard.isNone&&o.after.toList.all (fun e=> !Region.binds .any e||decide (e.on<j))&&
  full.zipIdx.all fun(o',i)=>i==j||ordered b i j||
   (
    (match o'.dst with|some d=> !(tmpsOf full o).contains d|none=>true)&&
    (match o.dst with|some d=> !(tmpsOf full o').contains d|none=>true))
def C0(full:List Oper)(t:qY):Bool:=Ai full&&eA full (fun _=>false) [] [] t
def oX(x:Option Oper)(f:Oper->Prop)(_:Tok f:=⟨⟩):Prop:=match x with
 |some o=>f o
 |none=>False
def wH(base:Nat)(bx bx':ae):List Nat->Prop
 |[]=>True
 |s::l=>bx' (base+s)=bx (base+s)/\wH base bx bx' l
def D5(Pn:D->ae->Prop)(c:Cl)(bx:ae)(_:Tok (Pn .undef bx):=⟨⟩):Prop:=match c with
 | .cU d=>Pn d bx
 |_=>False
def Sd(c:Cl)(t:Nat):Prop:=c= .n\/c= .r t
def zY(P:Program)(base s:Nat)(o:Oper)(σ:Env)(bx:ae)(f:Env->Prop)(_:Tok (f σ):=⟨⟩):Prop:=match o.op with
 | .load T a=>Sd (nY (ev σ a)) (base+s)/\aK (iF (an P T) bx (ev σ a)) fun v=>f (put σ o.dst v)
 |_=>False
def k_(P:Program)(C:Calc)(full:List Oper)(Pn:D->ae->Prop)(Q:Env->ae->Prop):qY->Env->ae->Prop
 | .fin,σ,bx=>Q σ bx
 | .stop,_,_=>True
 | .bm i n,σ,bx=>oX full[i]? fun o=>aK (cQ P σ bx o.op) fun v=>k_ P C full Pn Q n (put σ o.dst v) bx
 | .load i s n,σ,bx=>oX full[i]? fun o=>zY P C.base s o σ bx fun σ'=>k_ P C full Pn Q n σ' bx
 | .both i jb a r,σ,bx=>(oX full[i]? fun o=>bp P C o σ bx fun c σ' bx'=>jn c (D5 Pn c bx') (wH C.base bx bx' jb/\k_ P C full Pn Q a σ' bx'))/\k_ P C full Pn Q r σ bx
def tX(P:Program)(C:Calc)(full:List Oper)(t:qY)(Pn:D->ae->Prop)(Q:Env->ae->Prop)(σ:Env)(bx:ae)(_:Tok full:=⟨⟩)(_:Tok (Q σ bx):=⟨⟩):Prop:=k_ P C full Pn Q t σ bx
def wo(P:Program)(C:Calc)(full:List Oper)(Pn:D->ae->Prop)(Q:Env->ae->Prop)(σ:Env)(bx:ae)(_:Tok full:=⟨⟩)(_:Tok (Q σ bx):=⟨⟩):Prop:=∃t,C0 full t=true/\tX P ⟨C.o,C.tab,C.base,C.bk,C.lo,none,false,false⟩ full t Pn Q σ bx
def Ck(tab:List (Nat×List (Nat×Nat)))(id:Nat):Bool:=qS tab (1000000+id)
def dA(tab:List (Nat×List (Nat×Nat)))(N:Nat):Code->Bool
 | .region id ops draw=>ops.toList.all (fun o=>match o.dst with|some d=>decide (d<N)|none=>true)&&(!draw||Ck tab id||Cd ops.toList (nU tab id))
 | .seq a b=>dA tab N a&&dA tab N b
 | .cond _ x y=>dA tab N x&&dA tab N y
 | .block _ c=>dA tab N c
 | .loop c=>dA tab N c
 | .scope c=>dA tab N c
 | .rangeFunc _ ps a b=>ps.toList.all (fun t=>decide (t<N))&&dA tab N a&&dA tab N b
 |_=>true
inductive DX where
 |normal
 |exit (id:Nat)
 |goto (l:Nat)
 |ret
 |cU (d:D)
def vd(Q:DX->Env->ae->Prop)(acc:List Cl)(σ:Env)(bx:ae):Prop:=match acc with
 | .cU d::_=>Q (.cU d) σ bx
 |_=>Q .normal σ bx
def codeOk(tab:List (Nat×List (Nat×Nat)))(N:Nat)(c:Code):Bool:=decide (N<=1000000000)&&dA tab N c
def dG(K:Env->ae->Prop)(Q:DX->Env->ae->Prop):DX->Env->ae->Prop
 | .normal,σ,bx=>K σ bx
 |e,σ,bx=>Q e σ bx
def rb(id:Nat)(Q:DX->Env->ae->Prop):DX->Env->ae->Prop
 | .exit E0,σ,bx=>if E0=id then Q .normal σ bx else Q (.exit E0) σ bx
 |e,σ,bx=>Q e σ bx
def vL(Q:DX->Env->ae->Prop):DX->Env->ae->Prop
 | .goto _,_,_=>False
 |e,σ,bx=>Q e σ bx
def XA(C:Calc)(d:D)(K:List (List D)->Nat->Prop):Prop:=∃f caps items ext,d= .fn (.func f) caps/\D.aF caps=true/\C.o.it f caps items ext/\K items ext
def Xz(C:Calc)(d:D)(bx:ae)(K:Nat->List (List D)->Option D->Nat->Prop):Prop:=∃f t e b items pd ext,d= .fn (.func f) [.loc t e 0 0]/\t<C.bk/\bx t=⟨e,1,b.sz,b.ty,b.es⟩/\C.o.AL f b items pd ext/\K t items pd ext
def D4(Q:DX->Env->ae->Prop)(σ:Env)(bx:ae):Option D->Prop
 |none=>Q .normal σ bx
 |some d=>Q (.cU d) σ bx
def ku(σ:Env):List Tmp->List D->Env
 |t::ts,d::ds=>ku (ak σ t d) ts ds
 |_,_=>σ
def pZ(bk ext:Nat)(J:Nat->ae->Prop)(n:Nat)(Q:DX->Env->ae->Prop)(σ:Env)(bx1:ae):DX->Env->ae->Prop:=fun e _ bx'=>
 (∀s,bk<=s->s<bk+ext->bx' s=bx1 s)/\match e with
  | .normal=>J (n+1) (bU bk bx')
  | .ret=>∀bK,bU bk bK=bU bk bx'->Q .ret σ bK
  | .exit id=>∀bK,bU bk bK=bU bk bx'->Q (.exit id) σ bK
  |_=>False
def Fa:DX->Env->ae->Prop:=fun _ _ _=>False
def OX(C:Calc)(bx bx':ae):Prop:=bx'=bx\/(C.lo=0/\∃s es,(bx s).k=1/\dn bx (bx s).es=some es/\bx'=eO bx s es)
set_option linter.unusedVariables false in
def cR(P:Program):Calc->Code->(DX->Env->ae->Prop)->Env->ae->Prop
 |C,.skip,Q,σ,bx=>Q .normal σ bx
 |C,.region id ops false,Q,σ,bx=>y_ P C ops.toList (nU C.tab (4000000+id)) ops.toList [] σ bx fun acc σ' bx'=>vd Q acc σ' bx'
 |C,.region id ops true,Q,σ,bx=>if Ck C.tab id=true then wo P C ops.toList (fun d bx=>∀σ,Q (.cU d) σ bx) (Q .normal) σ bx else oZ P C.As ops.toList ops.toList [] σ bx fun acc σ' bx'=>Et (nU C.tab id) acc/\Q .normal σ' bx'
 |C,.seq a b,Q,σ,bx=>cR P C a (dG (cR P C b Q) Q) σ bx
 |C,.cond c x y,Q,σ,bx=>Ce (ev σ c) (cR P C x Q σ bx) (cR P C y Q σ bx)
 |C,.block id c,Q,σ,bx=>cR P C c (rb id Q) σ bx
 |C,.loop c,Q,σ,bx=>∃(I:Env->ae->Prop) (μ:Env->ae->Nat),I σ bx/\∀σ bx,I σ bx->∃bx0,OX C bx bx0/\cR P C c (dG (fun σ' bx'=>I σ' bx'/\μ σ' bx'<μ σ bx) Q) σ bx0
 |C,.scope c,Q,σ,bx=>cR P C c (vL Q) σ bx
 |C,.exit id,Q,σ,bx=>Q (.exit id) σ bx
 |C,.ret,Q,σ,bx=>Q .ret σ bx
 |C,.label _,Q,σ,bx=>Q .normal σ bx
 |C,.rangeFunc g ps assign body,Q,σ,bx=>C.lo=0/\C.yl=none/\((XA C (ev σ g) fun items ext=>∃J:Nat->ae->Prop,J 0 (bU C.bk bx)/\
  (∀n it bx1,items[n]? =some it->J n (bU C.bk bx1)->it.length=ps.size/\
   cR P ⟨C.o,C.tab,C.base,C.bk+ext,C.lo,C.yl,false,false⟩ assign (dG (cR P ⟨C.o,C.tab,C.base,C.bk+ext,C.lo,C.yl,false,false⟩ body (pZ C.bk ext J n Q σ bx1)) Fa) (ku σ ps.toList it) bx1)/\
  ∀bx1,J items.length (bU C.bk bx1)->Q .normal σ bx1)\/
  (Xz C (ev σ g) bx fun t items pd ext=>∃J:Nat->ae->Prop,J 0 (bU C.bk (ak bx t {bx t with k:=0}))/\
   (∀n it bx1,items[n]? =some it->J n (bU C.bk bx1)->it.length=ps.size/\
    cR P ⟨C.o,C.tab,C.base,C.bk+ext,C.lo,C.yl,false,false⟩ assign (dG (cR P ⟨C.o,C.tab,C.base,C.bk+ext,C.lo,C.yl,false,false⟩ body (pZ C.bk ext J n Q σ bx1)) Fa) (ku σ ps.toList it) bx1)/\
   ∀bx1,J items.length (bU C.bk bx1)->D4 Q σ bx1 pd))
 |_,_,_,_,_=>False
def cD(P:Program)(C:Calc)(c:Code)(Q:DX->Env->ae->Prop)(σ:Env)(bx:ae)(_:Tok c:=⟨⟩)(_:Tok (Q .normal σ bx):=⟨⟩):Prop:=cR P C c Q σ bx
def o7(P:Program)(σ:Env)(bx:ae):ResultVar->Option D
 | .tmp t=>some (σ t)
 | .cell a T=>iF (an P T) bx (σ a)
def jD(P:Program)(σ:Env)(bx:ae):List ResultVar->Option (List D)
 |[]=>some []
 |r::rs=>lU (o7 P σ bx r) (jD P σ bx rs)
def l9:List D->D
 |[d]=>d
 |ds=> .aL ds
def L5(P:Program)(rv:List ResultVar)(d:D):DX->Env->ae->Prop
 | .normal,σ,bx| .ret,σ,bx=>aK (jD P σ bx rv) fun rs=>aK (bz bx (l9 rs)) fun r=>bN r d
 |_,_,_=>False
def bB:Nat->List D->Env
 |_,[]=>fun _=> .raw undef
 |n,d::ds=>ak (bB (n+1) ds) n d
def qh(P:Program)(O:gN)(tab:List (Nat×List (Nat×Nat)))(fn:Func)(ds:List D)(d:D):Prop:=
 ∃c,fn.body=some c/\codeOk tab fn.ntmps c=true/\cD P ⟨O,tab,0,fn.ntmps,0,none,false,false⟩ c (L5 P fn.results.toList d) (bB 0 ds) (fun _=> .none)
def BC(P:Program)(rv:List ResultVar)(cB Pan:D->ae->Prop):DX->Env->ae->Prop
 | .normal,σ,bx| .ret,σ,bx=>aK (jD P σ bx rv) fun rs=>cB (l9 rs) bx
 | .cU d,_,bx=>Pan d bx
 |_,_,_=>False
def mf(P:Program)(O:gN)(tab:List (Nat×List (Nat×Nat)))(fn:Func)(base:Nat)(ds:List D)(bx:ae)(cB Pan:D->ae->Prop):Prop:=
 ∃c,fn.body=some c/\codeOk tab fn.ntmps c=true/\cD P ⟨O,tab,base,base+fn.ntmps,0,none,true,false⟩ c (BC P fn.results.toList cB Pan) (bB 0 ds) bx
def L3(gs n:Nat):DX->Env->ae->Prop
 | .normal,_,bx| .ret,_,bx=>n<=(bx gs).sz
 |_,_,_=>False
def Dc(gs n:Nat)(pd:Option D):DX->Env->ae->Prop
 | .normal,_,bx| .ret,_,bx=>n<=(bx gs).sz/\(pd=none\/n<(bx gs).sz)
 | .cU d,_,bx=>pd=some d/\(bx gs).sz=n
 |_,_,_=>False
def PK(P:Program)(O:gN)(tab:List (Nat×List (Nat×Nat)))(fn:Func)(b:Bx)(items:List (List D))(pd:Option D):Prop:=
 ∃c,fn.body=some c/\codeOk tab fn.ntmps c=true/\fn.results.toList=[]/\∀(gs l e:Nat) (bx:ae),(bx gs).k=0->(bx gs).sz=0->bx (gs+1)=⟨e,1,b.sz,b.ty,b.es⟩->
  cD P ⟨O,tab,gs+2,gs+2+fn.ntmps,gs+1,some (items,gs,l),true,false⟩ c (Dc gs items.length pd) (bB 0 [.fn (.yield l) [],.loc (gs+1) e 0 0]) bx
def RB(P:Program)(O:gN)(tab:List (Nat×List (Nat×Nat)))(fn:Func)(caps:List D)(items:List (List D)):Prop:=
 ∃c,fn.body=some c/\codeOk tab fn.ntmps c=true/\fn.results.toList=[]/\∀(gs l:Nat) (bx:ae),(bx gs).k=0->(bx gs).sz=0->
  cD P ⟨O,tab,gs+1,gs+1+fn.ntmps,gs+1,some (items,gs,l),false,false⟩ c (L3 gs items.length) (bB 0 (.fn (.yield l) []::caps)) bx
end Go.V
namespace Go.V
open Go.RowKit
def qC{α:Type}(p q:Prop)[Decidable p][Decidable q](x y:α):(if p/\q then x else y)=if p then(if q then x else y)else y:=by by_cases hp:p<;>by_cases hq:q<;>simp[hp,hq]
variable {P:Program} {C:Calc} {Q:DX->Env->ae->Prop} {σ:Env} {bx:ae}
attribute [go_sem] Nat.le_add_right Bool.false_eq_true eq_self decide_true decide_false Nat.zero_le Nat.le_refl eC List.take_succ_cons List.take_zero List.drop_succ_cons List.drop_zero List.getElem?_cons_zero List.getElem?_cons_succ List.length_cons List.length_nil Option.map_some Option.map_none Option.bind_some List.length_map gM Int.toNat_natCast mC List.map_nil List.cons_append List.nil_append List.append_nil Nat.zero_add Nat.add_zero List.set_cons_zero List.set_cons_succ Bool.not_not nT nF Int.natCast_zero
@[go_sem] def ajA{α:Type}(σ:Nat->α)(t:Nat)(v:α)(x:Nat):ak σ t v x=if x=t then v else σ x:=ay
@[go_sem] def pG{α:Type}(v:α)(f:α->Prop):aK (some v) f=f v:=ay
@[go_sem] def KL(x y:Prop):iC true x y=x:=by simp[iC]
@[go_sem] def IU(x y:Prop):iC false x y=y:=by simp[iC]
@[go_sem] def aaU(b:Bool)(x y:Prop):iC (!b) x y=iC b y x:=by cases b<;>simp[iC]
def aY{b:Bool}{x y:Prop}(h1:b=true->x)(h2:b=false->y):iC b x y:=by
 cases b
 ·exact h2 rfl
 ·exact h1 rfl
@[go_sem ↓] def agt:cD P C .skip Q σ bx=Q .normal σ bx:=ay
@[go_sem ↓] def Yg(id:Nat)(l:List Oper):cD P C (.region id l.toArray false) Q σ bx=y_ P C l (nU C.tab (4000000+id)) l [] σ bx fun acc σ' bx'=>vd Q acc σ' bx':=by simp[cD,cR]
@[go_sem ↓] def afs{full l:List Oper}{acc:List Cl}{K:List Cl->Env->ae->Prop}:y_ P C full [] l acc σ bx K=oZ P C full l acc σ bx K:=ay
@[go_sem ↓] def acz{full l:List Oper}{acc:List Cl}{K:List Cl->Env->ae->Prop}(p:Nat×Nat)(ps:List (Nat×Nat)):y_ P C full (p::ps) l acc σ bx K=LF P C full (p::ps) 0 l acc σ bx K:=ay
@[go_sem ↓] def aft{full:List Oper}{acc:List Cl}{K:List Cl->Env->ae->Prop}(ps:List (Nat×Nat))(i:Nat):LF P C full ps i [] acc σ bx K=K acc σ bx:=ay
@[go_sem ↓] def acA{full rest:List Oper}{o:Oper}{acc:List Cl}{K:List Cl->Env->ae->Prop}(ps:List (Nat×Nat))(i:Nat):LF P C full ps i (o::rest) acc σ bx K=aK (qO C.lo (pJ ps i) σ bx) fun s=>oZ P C full [o] acc s.1 s.2 fun rP σ' bx'=>vb rP (K rP σ' bx') (LF P C full ps (i+1) rest rP σ' bx' K):=ay
@[go_sem] def Zb(i:Nat):pJ [] i=[]:=ay
@[go_sem] def Yn(a t i:Nat)(ps:List (Nat×Nat)):pJ ((a,t)::ps) i=if a=i then t::pJ ps i else pJ ps i:=ay
@[go_sem] def abe(lo:Nat):qO lo [] σ bx=some (σ,bx):=ay
@[go_sem] def Zk(lo t:Nat)(ts:List Nat):qO lo (t::ts) σ bx=(uZ lo t σ bx).bind fun s=>qO lo ts s.1 s.2:=ay
@[go_sem] def ajn(acc:List Cl)(x y:Prop):vb (.n::acc) x y=y:=ay
@[go_sem] def ajo(t:Nat)(acc:List Cl)(x y:Prop):vb (.r t::acc) x y=y:=ay
@[go_sem] def ajp(t:Nat)(acc:List Cl)(x y:Prop):vb (.w t::acc) x y=y:=ay
@[go_sem] def ag3(acc:List Cl)(x y:Prop):vb (.wa::acc) x y=y:=ay
@[go_sem] def abd(t:Nat)(h:t<1000000000):uZ 0 t σ bx=(bz bx (σ t)).map fun v=>(ak σ t v,eN bx (σ t)):=by simp[uZ,ed,h]
@[go_sem] def abc(t:Nat)(h:2000000000<=t):uZ 0 t σ bx=if(bx (t - 2000000000)).k=1 then(dn bx (bx (t - 2000000000)).es).map fun es=>(σ,eO bx (t - 2000000000) es)else none:=by
 have:¬t<1000000000:=oM;simp[uZ,ed,h,this]
@[go_sem ↓] def Yh(id:Nat)(l:List Oper):cD P C (.region id l.toArray true) Q σ bx=if Ck C.tab id=true then wo P C l (fun d bx=>∀σ,Q (.cU d) σ bx) (fun σ bx=>Q .normal σ bx) σ bx else oZ P C.As l l [] σ bx fun acc σ' bx'=>Et (nU C.tab id) acc/\Q .normal σ' bx':=by simp[cD,cR,oZ]
@[go_sem] def Zc(tab:List (Nat×List (Nat×Nat)))(id:Nat):Ck tab id=qS tab (1000000+id):=ay
def iS{full:List Oper}{Pn:D->ae->Prop}{Q:Env->ae->Prop}(t:qY)(h:C0 full t=true)(hs:tX P ⟨C.o,C.tab,C.base,C.bk,C.lo,none,false,false⟩ full t Pn Q σ bx):wo P C full Pn Q σ bx:=⟨t,h,hs⟩
@[go_sem ↓] def af0{full:List Oper}{Pn:D->ae->Prop}{Q:Env->ae->Prop}:tX P C full .fin Pn Q σ bx=Q σ bx:=ay
@[go_sem ↓] def acT{full:List Oper}{Pn:D->ae->Prop}{Q:Env->ae->Prop}:tX P C full .stop Pn Q σ bx=True:=ay
@[go_sem ↓] def Z1{full:List Oper}{Pn:D->ae->Prop}{Q:Env->ae->Prop}(i:Nat)(n:qY):tX P C full (.bm i n) Pn Q σ bx=oX full[i]? fun o=>aK (cQ P σ bx o.op) fun v=>tX P C full n Pn Q (put σ o.dst v) bx:=ay
@[go_sem ↓] def acS{full:List Oper}{Pn:D->ae->Prop}{Q:Env->ae->Prop}(i s:Nat)(n:qY):tX P C full (.load i s n) Pn Q σ bx=oX full[i]? fun o=>zY P C.base s o σ bx fun σ'=>tX P C full n Pn Q σ' bx:=ay
@[go_sem ↓] def acR{full:List Oper}{Pn:D->ae->Prop}{Q:Env->ae->Prop}(i:Nat)(jb:List Nat)(a r:qY):tX P C full (.both i jb a r) Pn Q σ bx=((oX full[i]? fun o=>bp P C o σ bx fun c σ' bx'=>jn c (D5 Pn c bx') (wH C.base bx bx' jb/\tX P C full a Pn Q σ' bx'))/\tX P C full r Pn Q σ bx):=ay
@[go_sem] def aaF(o:Oper)(f:Oper->Prop):oX (some o) f=f o:=ay
@[go_sem] def acf(b:Nat)(bx bx':ae):wH b bx bx' []=True:=ay
@[go_sem] def ZJ(b s:Nat)(bx bx':ae)(l:List Nat):wH b bx bx' (s::l)=(bx' (b+s)=bx (b+s)/\wH b bx bx' l):=ay
@[go_sem] def afE(Pn:D->ae->Prop)(d:D)(bx:ae):D5 Pn (.cU d) bx=Pn d bx:=ay
@[go_sem] def ajW(s t:Nat):Sd (.r s) t=(s=t):=by simp[Sd]
@[go_sem ↓] def ae2{dst:Option Tmp}{T:TypeId}{a:Operand}{ty pos af g}(base s:Nat)(f:Env->Prop):zY P base s ⟨dst,.load T a,ty,pos,af,g⟩ σ bx f=(Sd (nY (ev σ a)) (base+s)/\aK (iF (an P T) bx (ev σ a)) fun v=>f (put σ dst v)):=ay
@[go_sem ↓] def aht(a b:Code):cD P C (.seq a b) Q σ bx=cD P C a (dG (fun σ bx=>cD P C b Q σ bx) Q) σ bx:=ay
@[go_sem] def Y_(t:Bool)(x y:Prop):Ce (.bool t) x y=iC t x y:=ay
@[go_sem ↓] def agr(c:Operand)(x y:Code):cD P C (.cond c x y) Q σ bx=Ce (ev σ c) (cD P C x Q σ bx) (cD P C y Q σ bx):=ay
@[go_sem ↓] def adF(id:Nat)(c:Code):cD P C (.block id c) Q σ bx=cD P C c (rb id Q) σ bx:=ay
@[go_sem ↓] def adH(c:Code):cD P C (.scope c) Q σ bx=cD P C c (vL Q) σ bx:=ay
@[go_sem ↓] def Um:vL Q .normal σ bx=Q .normal σ bx:=ay
@[go_sem ↓] def Z3:vL Q .ret σ bx=Q .ret σ bx:=ay
@[go_sem ↓] def YB(id:Nat):vL Q (.exit id) σ bx=Q (.exit id) σ bx:=ay
@[go_sem ↓] def ags(id:Nat):cD P C (.exit id) Q σ bx=Q (.exit id) σ bx:=ay
@[go_sem ↓] def ahs:cD P C .ret Q σ bx=Q .ret σ bx:=ay
@[go_sem ↓] def adG(l:Nat):cD P C (.label l) Q σ bx=Q .normal σ bx:=ay
def Jp{c:Code}(I:Env->ae->Prop)(μ:Env->ae->Nat)(h0:I σ bx)(h:∀σ bx,I σ bx->cD P C c (dG (fun σ' bx'=>I σ' bx'/\μ σ' bx'<μ σ bx) Q) σ bx):
 cD P C (.loop c) Q σ bx:=⟨I,μ,h0,fun σ bx hi=>⟨bx,.inl rfl,h σ bx hi⟩⟩
@[go_sem ↓] def ajr(acc:List Cl):vd Q (.n::acc) σ bx=Q .normal σ bx:=ay
@[go_sem ↓] def ajs(t:Nat)(acc:List Cl):vd Q (.r t::acc) σ bx=Q .normal σ bx:=ay
@[go_sem ↓] def ajt(t:Nat)(acc:List Cl):vd Q (.w t::acc) σ bx=Q .normal σ bx:=ay
@[go_sem ↓] def ag7(acc:List Cl):vd Q (.wa::acc) σ bx=Q .normal σ bx:=ay
@[go_sem ↓] def afO(d:D)(acc:List Cl):vd Q (.cU d::acc) σ bx=Q (.cU d) σ bx:=ay
@[go_sem ↓] def agx(x y:Prop):jn .n x y=y:=ay
@[go_sem ↓] def agy(t:Nat)(x y:Prop):jn (.r t) x y=y:=ay
@[go_sem ↓] def agz(t:Nat)(x y:Prop):jn (.w t) x y=y:=ay
@[go_sem ↓] def adQ(x y:Prop):jn .ra x y=y:=ay
@[go_sem ↓] def adR(x y:Prop):jn .wa x y=y:=ay
@[go_sem ↓] def aaV(d:D)(x y:Prop):jn (.cU d) x y=x:=ay
@[go_sem ↓] def ac_(K:Env->ae->Prop)(d:D):dG K Q (.cU d) σ bx=Q (.cU d) σ bx:=ay
@[go_sem ↓] def Y0(id:Nat)(d:D):rb id Q (.cU d) σ bx=Q (.cU d) σ bx:=ay
@[go_sem ↓] def Z2(d:D):vL Q (.cU d) σ bx=Q (.cU d) σ bx:=ay
@[go_sem ↓] def XV(K:Env->ae->Prop):dG K Q .normal σ bx=K σ bx:=ay
@[go_sem ↓] def ada(K:Env->ae->Prop):dG K Q .ret σ bx=Q .ret σ bx:=ay
@[go_sem ↓] def aao(K:Env->ae->Prop)(id:Nat):dG K Q (.exit id) σ bx=Q (.exit id) σ bx:=ay
@[go_sem ↓] def Ui(id:Nat):rb id Q .normal σ bx=Q .normal σ bx:=ay
@[go_sem ↓] def Y1(id:Nat):rb id Q .ret σ bx=Q .ret σ bx:=ay
@[go_sem ↓] def Yd(id E0:Nat):rb id Q (.exit E0) σ bx=if E0=id then Q .normal σ bx else Q (.exit E0) σ bx:=ay
def bg{p:Prop}[Decidable p]{x y:Prop}(h1:p->x)(h2:¬p->y):iC (decide p) x y:=by
 by_cases h:p
 ·simp only[h,decide_true,KL];exact h1 h
 ·simp only[h,decide_false,IU];exact h2 h
def yb{p:Prop}[Decidable p]{x y:Prop}(h:p)(h1:x):iC (decide p) x y:=bg (fun _=>h1) (fun n=>absurd h n)
def Gq{p:Prop}[Decidable p]{x y:Prop}(h:¬p)(h1:y):iC (decide p) x y:=bg (fun n=>absurd n h) (fun _=>h1)
attribute [go_sem] decide_true decide_false not_true_eq_false not_false_eq_true
@[go_sem] def aaD(n:Nat):bB n []=fun _=> .raw undef:=ay
@[go_sem] def YW(n:Nat)(d:D)(ds:List D):bB n (d::ds)=ak (bB (n+1) ds) n d:=ay
def ax{O:gN}{tab:List (Nat×List (Nat×Nat))}{fn:Func}{ds:List D}{d:D}(c:Code)(rv:List ResultVar)(n:Nat)(hc:fn.body=some c)(hr:fn.results=rv.toArray)(hn:fn.ntmps=n)(bD:codeOk tab n c=true)
 (h:cD P ⟨O,tab,0,n,0,none,false,false⟩ c (L5 P rv d) (bB 0 ds) (fun _=> .none)):qh P O tab fn ds d:=by
 subst hn;refine⟨c,hc,bD,?_⟩;rw[hr];simpa using h
def aJ{O:gN}{tab:List (Nat×List (Nat×Nat))}{fn:Func}{base:Nat}{ds:List D}{bx:ae}{cB Pan:D->ae->Prop}(c:Code)(rv:List ResultVar)(n:Nat)(hc:fn.body=some c)(hr:fn.results=rv.toArray)(hn:fn.ntmps=n)(bD:codeOk tab n c=true)
 (h:cD P ⟨O,tab,base,base+n,0,none,true,false⟩ c (BC P rv cB Pan) (bB 0 ds) bx):mf P O tab fn base ds bx cB Pan:=by
 subst hn;refine⟨c,hc,bD,?_⟩;rw[hr];simpa using h
def Na{O:gN}{tab:List (Nat×List (Nat×Nat))}{fn:Func}{caps:List D}{items:List (List D)}(c:Code)(n:Nat)(hc:fn.body=some c)(hr:fn.results= #[])(hn:fn.ntmps=n)(bD:codeOk tab n c=true)
 (h:∀(gs l:Nat) (bx:ae),(bx gs).k=0->(bx gs).sz=0->cD P ⟨O,tab,gs+1,gs+1+n,gs+1,some (items,gs,l),false,false⟩ c (L3 gs items.length) (bB 0 (.fn (.yield l) []::caps)) bx):RB P O tab fn caps items:=by
 subst hn;refine⟨c,hc,bD,by rw[hr],h⟩
@[go_sem ↓] def afS(rv:List ResultVar)(cB Pan:D->ae->Prop)(d:D):BC P rv cB Pan (.cU d) σ bx=Pan d bx:=ay
@[go_sem ↓] def afT(rv:List ResultVar)(cB Pan:D->ae->Prop):BC P rv cB Pan .ret σ bx=aK (jD P σ bx rv) fun rs=>cB (l9 rs) bx:=ay
@[go_sem ↓] def Yy(rv:List ResultVar)(cB Pan:D->ae->Prop):BC P rv cB Pan .normal σ bx=aK (jD P σ bx rv) fun rs=>cB (l9 rs) bx:=ay
@[go_sem ↓] def afU(gs n:Nat):L3 gs n .ret σ bx=(n<=(bx gs).sz):=ay
@[go_sem ↓] def Yz(gs n:Nat):L3 gs n .normal σ bx=(n<=(bx gs).sz):=ay
@[go_sem] def Y6(f:Nat)(caps ds:List D)(K:Cl->D->ae->Prop):lT C (.fn (.func f) caps) ds bx K=fz C f (ds++caps) bx K:=ay
@[go_sem] def Yi(l:Nat)(ds:List D)(K:Cl->D->ae->Prop):lT C (.fn (.yield l) []) ds bx K=qd C l ds bx K:=ay
@[go_sem] def YZ:ku σ [] []=σ:=ay
@[go_sem] def Yc(t:Nat)(ts:List Nat)(d:D)(ds:List D):ku σ (t::ts) (d::ds)=ku (ak σ t d) ts ds:=ay
@[go_sem] def agB(n s:Nat):bU n bx s=if s<n then bx s else .none:=ay
@[go_sem] def agR(lo hi s:Nat)(bx1:ae):qE lo hi bx bx1 s=if lo<=s then(if s<hi then bx s else bx1 s)else bx1 s:=by unfold qE;by_cases h1:lo<=s<;>by_cases h2:s<hi<;>simp[h1,h2]
def sS{items:List (List D)}{gs l:Nat}{ds:List D}{K:Cl->D->ae->Prop}(hy:C.yl=some (items,gs,l))(hp:D.aF ds=true)(hi:items[(bx gs).sz]? =some ds)
 (hk:∀bx1:ae,K .wa (.bool true) (ak (qE C.lo C.bk bx bx1) gs {bx gs with sz:=(bx gs).sz+1})/\K .wa (.bool false) (ak (qE C.lo C.bk bx bx1) gs {bx gs with sz:=items.length+1})):qd C l ds bx K:=by
 unfold qd;rw[hy];exact⟨⟨rfl,hp,hi⟩,hk⟩
def O6{pn df:Bool}{o:gN}{tab:List (Nat×List (Nat×Nat))}{base bk:Nat}{g:Operand}{ps:List Tmp}{assign body:Code}(f:FuncId)(caps:List D)(items:List (List D))(ext:Nat)(J:Nat->ae->Prop)(hg:ev σ g= .fn (.func f) caps)(hp:D.aF caps=true)(hit:o.it f caps items ext)
 (h0:J 0 (bU bk bx)) (hr:∀n it bx1,items[n]? =some it->J n (bU bk bx1)->it.length=ps.length/\
  cD P ⟨o,tab,base,bk+ext,0,none,false,false⟩ assign (dG (fun σ' bx'=>cD P ⟨o,tab,base,bk+ext,0,none,false,false⟩ body (pZ bk ext J n Q σ bx1) σ' bx') Fa) (ku σ ps it) bx1)
 (hq:∀bx1,J items.length (bU bk bx1)->Q .normal σ bx1):cD P ⟨o,tab,base,bk,0,none,pn,df⟩ (.rangeFunc g ps.toArray assign body) Q σ bx:=
 ⟨rfl,rfl,.inl ⟨f,caps,items,ext,hg,hp,hit,J,h0,fun n it bx1 h1 h2=>by have:=hr n it bx1 h1 h2;exact⟨by simpa using this.1,by simpa only[cD]using this.2⟩,hq⟩⟩
def Es{pn df:Bool}{o:gN}{tab:List (Nat×List (Nat×Nat))}{base bk:Nat}{g:Operand}{ps:List Tmp}{assign body:Code}(f:FuncId)(t e:Nat)(b:Bx)(items:List (List D))(pd:Option D)(ext:Nat)(J:Nat->ae->Prop)(hg:ev σ g= .fn (.func f) [.loc t e 0 0])(ht:t<bk)(hb:bx t=⟨e,1,b.sz,b.ty,b.es⟩)(hit:o.AL f b items pd ext)
 (h0:J 0 (bU bk (ak bx t {bx t with k:=0}))) (hr:∀n it bx1,items[n]? =some it->J n (bU bk bx1)->it.length=ps.length/\
  cD P ⟨o,tab,base,bk+ext,0,none,false,false⟩ assign (dG (fun σ' bx'=>cD P ⟨o,tab,base,bk+ext,0,none,false,false⟩ body (pZ bk ext J n Q σ bx1) σ' bx') Fa) (ku σ ps it) bx1)
 (hq:∀bx1,J items.length (bU bk bx1)->D4 Q σ bx1 pd):cD P ⟨o,tab,base,bk,0,none,pn,df⟩ (.rangeFunc g ps.toArray assign body) Q σ bx:=
 ⟨rfl,rfl,.inr ⟨f,t,e,b,items,pd,ext,hg,ht,hb,hit,J,h0,fun n it bx1 h1 h2=>by have:=hr n it bx1 h1 h2;exact⟨by simpa using this.1,by simpa only[cD]using this.2⟩,hq⟩⟩
def Cs{O:gN}{tab:List (Nat×List (Nat×Nat))}{fn:Func}{b:Bx}{items:List (List D)}{pd:Option D}(c:Code)(n:Nat)(hc:fn.body=some c)(hr:fn.results= #[])(hn:fn.ntmps=n)(bD:codeOk tab n c=true)
 (h:∀(gs l e:Nat) (bx:ae),(bx gs).k=0->(bx gs).sz=0->bx (gs+1)=⟨e,1,b.sz,b.ty,b.es⟩->cD P ⟨O,tab,gs+2,gs+2+n,gs+1,some (items,gs,l),true,false⟩ c (Dc gs items.length pd) (bB 0 [.fn (.yield l) [],.loc (gs+1) e 0 0]) bx):PK P O tab fn b items pd:=by
 subst hn;refine⟨c,hc,bD,by rw[hr],h⟩
@[go_sem ↓] def acP(gs n:Nat)(pd:Option D):Dc gs n pd .ret σ bx=(n<=(bx gs).sz/\(pd=none\/n<(bx gs).sz)):=ay
@[go_sem ↓] def XD(gs n:Nat)(pd:Option D):Dc gs n pd .normal σ bx=(n<=(bx gs).sz/\(pd=none\/n<(bx gs).sz)):=ay
@[go_sem ↓] def acO(gs n:Nat)(pd:Option D)(d:D):Dc gs n pd (.cU d) σ bx=(pd=some d/\(bx gs).sz=n):=ay
@[go_sem ↓] def Ul(bk ext n:Nat)(J:Nat->ae->Prop)(σ':Env)(bx1:ae):pZ bk ext J n Q σ bx1 .normal σ' bx=((∀s,bk<=s->s<bk+ext->bx s=bx1 s)/\J (n+1) (bU bk bx)):=ay
@[go_sem ↓] def afX(rv:List ResultVar)(d:D):L5 P rv d .ret σ bx=aK (jD P σ bx rv) fun rs=>aK (bz bx (l9 rs)) fun r=>bN r d:=ay
@[go_sem] def Za(x:D)(xs:List D):lU (some x) (some xs)=some (x::xs):=ay
@[go_sem] def afR:jD P σ bx []=some []:=ay
@[go_sem] def acN(r:ResultVar)(rs:List ResultVar):jD P σ bx (r::rs)=lU (o7 P σ bx r) (jD P σ bx rs):=ay
@[go_sem] def afQ(t:Nat):o7 P σ bx (.tmp t)=some (σ t):=ay
@[go_sem] def acM(t T:Nat):o7 P σ bx (.cell t T)=iF (an P T) bx (σ t):=ay
@[go_sem] def age(d:D):l9 [d]=d:=ay
@[go_sem] def agf(d e:D)(ds:List D):l9 (d::e::ds)= .aL (d::e::ds):=ay
@[go_sem] def agd:l9 []= .aL []:=ay
@[go_sem] def o0:dn bx []=some []:=by simp[dn]
@[go_sem] def dY(d:D)(ds:List D):dn bx (d::ds)=lU (bz bx d) (dn bx ds):=by simp only[dn]
@[go_sem] def afA(k:IntKind)(n:Int):bz bx (.int k n)=some (.int k n):=by simp[bz]
@[go_sem] def acD(b:Bool):bz bx (.bool b)=some (.bool b):=by simp[bz]
@[go_sem] def afD(b:List UInt8):bz bx (.str b)=some (.str b):=by simp[bz]
@[go_sem] def afC(b:Value):bz bx (.raw b)=some (.raw b):=by simp[bz]
@[go_sem] def wQ:bz bx .aq=some .aq:=by simp[bz]
@[go_sem] def ag1(sz:Nat)(es:List D):bz bx (.sl sz es)=some (.sl sz es):=by simp[bz]
@[go_sem] def tS(ds:List D):bz bx (.agg ds)=(dn bx ds).map .agg:=by simp only[bz]
@[go_sem] def HP(ds:List D):bz bx (.aL ds)=(dn bx ds).map .aL:=by simp only[bz]
@[go_sem] def ag0(f:Fn)(ds:List D):bz bx (.fn f ds)=(dn bx ds).map (.fn f):=by simp only[bz]
def LG(b:Bx)(e i j:Nat):Option D:=if b.ep=e/\lv b.k then match b.es[i]? with
 |some d=>if d.pure then some (.cA d j)else some (.cA d.Ej j)
 |none=>none
 else none
@[go_sem] def afB(t e i j:Nat):bz bx (.loc t e i j)=LG (bx t) e i j:=by simp only[bz,LG]<;>split<;>first|(cases(bx t).es[i]?<;>rfl)|rfl
def LH(x:Option D)(j:Nat):Option D:=match x with
 |some d=>if d.pure then some (.cA d j)else some (.cA d.Ej j)
 |none=>none
@[go_sem] def acE(e sz ty i j:Nat)(es:List D):LG ⟨e,1,sz,ty,es⟩ e i j=LH es[i]? j:=by
 unfold LG LH;cases es[i]?<;>simp[W0,lv2]
@[go_sem] def ZU(d:D)(j:Nat):LH (some d) j=if d.pure then some (.cA d j)else some (.cA d.Ej j):=ay
@[go_sem] def agT:Bx.none.ep=0:=ay
def pX(b:Bx)(e sz o n:Nat):Option D:=if b.ep=e/\lv b.k/\b.sz=sz/\o+n<=b.es.length then
 (if D.aF ((b.es.drop o).take n)then some (.sl sz ((b.es.drop o).take n))else none)else none
@[go_sem] def lX(t e sz o n:Nat):bz bx (.bE t e sz o n)=pX (bx t) e sz o n:=by simp only[bz,pX]
def eK(e k sz ty n:Nat)(es:List D)(hk:lv k)(hn:n=es.length)(hp:D.aF es=true):pX ⟨e,k,sz,ty,es⟩ e sz 0 n=some (.sl sz es):=by simp[pX,hk,hn,hp]
def Bo(b:Bx)(e i j n:Nat):Option D:=if b.ep=e/\lv b.k then match b.es[i]? with
 |some d=>if j+n<=d.cells.length/\D.aF ((d.cells.drop j).take n)=true/\((d.cells.drop j).take n).all D.one=true then some (.sl 1 ((d.cells.drop j).take n))else none
 |none=>none
 else none
@[go_sem] def afI(k:IntKind)(n:Int):D.pure (.int k n)=true:=by simp[D.pure]
@[go_sem] def acG(b:Bool):D.pure (.bool b)=true:=by simp[D.pure]
@[go_sem] def afJ(b:List UInt8):D.pure (.str b)=true:=by simp[D.pure]
@[go_sem] def ZY:D.pure .aq=true:=by simp[D.pure]
@[go_sem] def ag5(sz:Nat)(es:List D):D.pure (.sl sz es)=true:=by simp[D.pure]
@[go_sem] def acH(d:D)(j:Nat):D.pure (.cA d j)=true:=by simp[D.pure]
@[go_sem] def afH(ds:List D):D.pure (.agg ds)=D.aF ds:=by simp only[D.pure]
@[go_sem] def ag4(f:Fn)(ds:List D):D.pure (.fn f ds)=D.aF ds:=by simp only[D.pure]
@[go_sem] def acF:D.aF []=true:=by simp[D.aF]
@[go_sem] def ZX(d:D)(ds:List D):D.aF (d::ds)=(d.pure&&D.aF ds):=by simp only[D.aF]
theorem rH{α:Type}(f:α->D)(l:List α)(h:∀x,(f x).pure=true):D.aF (l.map f)=true:=by
 induction l with
 |nil=>simp[D.aF]
 |cons x l ih=>simp[D.aF,h,ih]
variable {full rest:List Oper} {acc:List Cl} {K:List Cl->Env->ae->Prop} {dst:Option Tmp} {ty:TypeId} {pos:String} {af:Array Edge} {g:Option (Nat×Bool)} {K1:Cl->Env->ae->Prop}
@[go_sem ↓] def afr:oZ P C full [] acc σ bx K=K acc σ bx:=ay
@[go_sem ↓] def acx(op:Op):oZ P C full (⟨dst,op,ty,pos,af,none⟩::rest) acc σ bx K=
 bp P C ⟨dst,op,ty,pos,af,none⟩ σ bx fun c σ' bx'=>jn c (K (c::acc) σ' bx') (oZ P C full rest (c::acc) σ' bx' K):=ay
@[go_sem] def agM(want:Bool)(x y:Prop):gK none want x y=y:=by simp[gK]
@[go_sem] def agN(b:Bool)(x y:Prop):gK (some b) true x y=iC b x y:=by cases b<;>simp[gK,iC]
@[go_sem] def ad6(b:Bool)(x y:Prop):gK (some b) false x y=iC b y x:=by cases b<;>simp[gK,iC]
@[go_sem ↓] def acy(op:Op)(j:Nat)(want:Bool):oZ P C full (⟨dst,op,ty,pos,af,some (j,want)⟩::rest) acc σ bx K=
 aK (pM full[j]? σ) fun g=>gK g want (bp P C ⟨dst,op,ty,pos,af,some (j,want)⟩ σ bx fun c σ' bx'=>jn c (K (c::acc) σ' bx') (oZ P C full rest (c::acc) σ' bx' K))
  (oZ P C full rest (.n::acc) (put σ dst (.raw undef)) bx K):=ay
@[go_sem] def Yq(b:Bool):vq (.bool b)=some (some b):=ay
@[go_sem] def Vk:vq (.raw undef)=some none:=by simp[vq,undef]
@[go_sem] def Yp(op:Op)(d:Nat):pM (some ⟨some d,op,ty,pos,af,g⟩) σ=vq (σ d):=ay
@[go_sem] def acX(t e i j:Nat):nY (.loc t e i j)= .r t:=ay
@[go_sem] def aae(d:D)(j:Nat):nY (.cA d j)= .n:=ay
@[go_sem] def acY(t e i j:Nat):lB (.loc t e i j)= .w t:=ay
section
variable (o:gN) (tab:List (Nat×List (Nat×Nat))) (base bk lo:Nat) (yl:Option (List (List D)×Nat×Nat)) (pn df:Bool)
@[go_sem] def agv:(Calc.mk o tab base bk lo yl pn df).pn=pn:=ay
@[go_sem] def adJ:(Calc.mk o tab base bk lo yl pn df).tab=tab:=ay
@[go_sem] def aaN:(Calc.mk o tab base bk lo yl pn df).base=base:=ay
@[go_sem] def agu:(Calc.mk o tab base bk lo yl pn df).lo=lo:=ay
@[go_sem] def adI:(Calc.mk o tab base bk lo yl pn df).As=⟨⟨o.to,fun _ _ _ _ _ _=>False,fun _ _ _ _=>False,fun _ _ _ _ _=>False⟩,tab,base,bk,lo,none,false,false⟩:=ay
end
@[go_sem] def af4(a c:Nat):(a+1<=a+2+c)=True:=by simp;omega
@[go_sem] def af5(a c:Nat):(a=a+1+c)=False:=by simp;omega
@[go_sem] def ahf(a:Nat):(a+1<=a)=False:=by simp
@[go_sem] def aad(b d:Nat):kT b (some d)=some (b+d):=ay
@[go_sem] def acp(id:Nat):nU [] id=[]:=ay
@[go_sem] def ZP(k id:Nat)(ps:List (Nat×Nat))(r:List (Nat×List (Nat×Nat))):nU ((k,ps)::r) id=if k=id then ps else nU r id:=ay
@[go_sem] def agw(acc:List Cl):Et [] acc=True:=ay
@[go_sem] def adN(i j:Nat)(ps:List (Nat×Nat))(acc:List Cl):Et ((i,j)::ps) acc=(BV acc[i]? acc[j]?/\Et ps acc):=ay
@[go_sem] def X_(a b:Cl):BV (some a) (some b)=apart a b:=ay
@[go_sem] def adm(b:Cl):apart .n b=True:=Eq.trans (by cases b<;>rfl) rfl
@[go_sem] def adn(b:Cl):apart b .n=True:=Eq.trans (by cases b<;>rfl) rfl
@[go_sem] def ado(s t:Nat):apart (.r s) (.r t)=True:=ay
@[go_sem] def adp(s t:Nat):apart (.r s) (.w t)=¬s=t:=ay
@[go_sem] def adq(s t:Nat):apart (.w s) (.w t)=¬s=t:=ay
attribute [go_sem] not_false_eq_true
@[go_sem ↓] def afL(d:Nat)(v:D):put σ (some d) v=ak σ d v:=ay
@[go_sem ↓] def afK(v:D):put σ none v=σ:=ay
@[go_sem ↓] def ahE(t:Nat):ev σ (.tmp t)=σ t:=ay
@[go_sem ↓] def adZ(v:Value):ev σ (.const v)=xM v:=ay
@[go_sem ↓] def agJ(f:Nat):ev σ (.func f)= .fn (.func f) []:=ay
@[go_sem] def agU(k:IntKind)(n:Int):xM (.int k n)= .int k n:=ay
@[go_sem] def afj(b:Bool):xM (.bool b)= .bool b:=ay
@[go_sem] def ZS(l:List UInt8):xM (.string ⟨l.toArray⟩)= .str l:=ay
@[go_sem] def agV:xM (.slice none 0 0)= .aq:=ay
@[go_sem] def Yl(x y:Prop):Ce .gZ x y=(x/\y):=ay
@[go_sem] def ady(ti:TI)(op:BinOp)(x:D):lR ti op x .aq=D1 ti op x:=by cases x<;>rfl
@[go_sem] def ZR(e sz b size:Nat)(g ag:Bool)(z:List D)(op:BinOp)(x:D):D1 ⟨.slice e sz b g,size,ag,z⟩ op x=y7 op x:=ay
@[go_sem] def agS(sz:Nat)(es:List D):y7 .eql (.sl sz es)=some (if es.isEmpty then .gZ else .bool false):=ay
@[go_sem] def afn(t e:Nat):D.one (.omap t e)=true:=ay
@[go_sem] def ach(s:List UInt8):mQ .str (.str s)=true:=ay
@[go_sem] def acg(k:IntKind)(n:Int):mQ (.int k) (.int k n)=true:=by simp[mQ]
@[go_sem] def ae6(t:Nat)(c:Int)(es:List D):CW t (.int .i64 c::es)=some (t,c,es):=ay
@[go_sem] def ace(t m k:Nat)(s l:Int)(es:List D):yR t (.omap m k:: .int .i64 s:: .int .i64 l::es)=some (t,.omap m k,s,l,es):=ay
def Lt(t e:Nat)(b:Bx):Option (Nat×Int×List D):=if b.ep=e/\b.k=3 then CW t b.es else none
@[go_sem] def ae5(t e:Nat):iW bx (.omap t e)=Lt t e (bx t):=ay
@[go_sem] def ae4(t e sz ty:Nat)(es:List D):Lt t e ⟨e,3,sz,ty,es⟩=CW t es:=by simp[Lt]
def Hl(t e:Nat)(b:Bx):Option (Nat×D×Int×Int×List D):=if b.ep=e/\b.k=3 then yR t b.es else none
@[go_sem] def acd(t e:Nat):iterAt bx (.loc t e 0 0)=Hl t e (bx t):=ay
@[go_sem] def acb(t e sz ty:Nat)(es:List D):Hl t e ⟨e,3,sz,ty,es⟩=yR t es:=by simp[Hl]
@[go_sem] def aco(T:TypeId->TI)(kt et size:Nat)(ag ok:Bool)(z:List D)(m k:D):sE P T ⟨.map kt et,size,ag,z⟩ bx m k ok=if mQ (T kt).k k=true then(iW bx m).bind fun r=>r8 (zeroV P et) ok (fb (T kt).k k r.2.2 0)else none:=ay
@[go_sem] def adg(Z:Option D)(i:Nat)(v:D):r8 Z true (some (some (i,v)))=some (.aL [v,.bool true]):=ay
@[go_sem] def aar(Z:Option D)(i:Nat)(v:D):r8 Z false (some (some (i,v)))=some v:=ay
@[go_sem] def adf(Z:Option D):r8 Z true (some none)=Z.map fun z=> .aL [z,.bool false]:=ay
@[go_sem] def aaq(Z:Option D):r8 Z false (some none)=Z:=by cases Z<;>rfl
@[go_sem] def aac(t e:Nat):xo (.omap t e)= .r t:=ay
@[go_sem] def agi(T:TypeId->TI)(kt et size:Nat)(ag:Bool)(z:List D)(m k v:D):zE T ⟨.map kt et,size,ag,z⟩ bx m k v=if mQ (T kt).k k=true then(if v.simple=true then((iW bx m).bind fun r=>(ot (T kt).k k v r.2.1 r.2.2).map (fM bx r.1))else none)else none:=by simp only[zE,qC]
@[go_sem] def adW(T:TypeId->TI)(kt et size:Nat)(ag:Bool)(z:List D)(m k:D):KP T ⟨.map kt et,size,ag,z⟩ bx m k=if mQ (T kt).k k=true then(iW bx m).bind fun r=>(Gu (T kt).k k r.2.1 r.2.2).map (fM bx r.1)else none:=ay
@[go_sem] def Z7(k:IntKind)(n:Int):D.simple (.int k n)=true:=ay
@[go_sem] def YE(b:Bool):D.simple (.bool b)=true:=ay
@[go_sem] def Z6(ds:List D):D.simple (.agg ds)=D.pC ds:=ay
@[go_sem] def YD:D.pC []=true:=ay
@[go_sem] def XL(d:D)(ds:List D):D.pC (d::ds)=(d.simple&&D.pC ds):=ay
@[go_sem] def aeU(m:D):Bh bx [m]=(iW bx m).map fun r=> .int .i64 (r.2.2.length:Int):=ay
@[go_sem] def afY(kt et size:Nat)(ag:Bool)(z:List D)(x:D):BD ⟨.map kt et,size,ag,z⟩ bx x=(iW bx x).map fun r=>[x,.int .i64 r.2.1,.int .i64 r.2.1]:=ay
@[go_sem ↓] def YM(T:Nat)(m k:Operand)(ok:Bool):bp P C ⟨dst,.lookup T m k ok,ty,pos,af,g⟩ σ bx K1=aK (sE P (an P) (an P T) bx (ev σ m) (ev σ k) ok) fun v=>aK (some (xo (ev σ m))) fun c=>K1 c (put σ dst v) bx:=ay
@[go_sem ↓] def XU(T d:Nat):bp P C ⟨some d,.makeMap T none,ty,pos,af,g⟩ σ bx K1=(C.lo=0/\aK (some (C.base+d)) fun s=>K1 .wa (ak σ d (.omap s ((bx s).ep+1))) (ak bx s ⟨(bx s).ep+1,3,0,T,[.int .i64 0]⟩)):=by simp[bp,fA,oU,iq,kI,aK]
@[go_sem ↓] def T0(T:Nat)(m k v:Operand):bp P C ⟨dst,.mapUpdate T m k v,ty,pos,af,g⟩ σ bx K1=(C.lo=0/\aK (zE (an P) (an P T) bx (ev σ m) (ev σ k) (ev σ v)) fun bx'=>K1 .wa (put σ dst (.raw undef)) bx'):=by simp[bp,fA,oU,iq,kI,aK]
@[go_sem ↓] def aal(T d:Nat)(x:Operand):bp P C ⟨some d,.range T x,ty,pos,af,g⟩ σ bx K1=(C.lo=0/\aK (BD (an P T) bx (ev σ x)) fun es=>K1 .wa (ak σ d (.loc (C.base+d) ((bx (C.base+d)).ep+1) 0 0)) (ak bx (C.base+d) ⟨(bx (C.base+d)).ep+1,3,0,0,es⟩)):=by simp[bp,fA,oU,iq,kI,aK]
@[go_sem ↓] def ac4(it:Operand):bp P C ⟨dst,.next it false,ty,pos,af,g⟩ σ bx K1=(C.pn=true/\C.lo=0/\wM bx (ev σ it) fun v bx'=>K1 .wa (put σ dst v) bx'):=by simp[bp,fA,oU,iq,kI]
@[go_sem ↓] def aai(it:Operand):bp P C ⟨dst,.entry it,ty,pos,af,g⟩ σ bx K1=(C.lo=0/\aK (tj bx (ev σ it)) fun v=>K1 .wa (put σ dst v) bx):=by simp[bp,fA,oU,iq,kI,aK]
@[go_sem ↓] def ac1(T T':Nat)(x y:Operand):bp P C ⟨dst,.call {callee:=.builtin .copy,args:= #[x,y],argTypes:= #[T,T']},ty,pos,af,g⟩ σ bx K1=(C.lo=0/\aK (wj C.lo (an P T) (an P T') bx (ev σ x) (ev σ y)) fun r=>K1 .wa (put σ dst (.int .i64 (r.1:Int))) r.2):=by simp[bp,fA,oU,iq,kI,aK,yd,wj]
@[go_sem ↓] def YK(T T':Nat)(x y:Operand):bp P C ⟨dst,.call {callee:=.builtin .delete,args:= #[x,y],argTypes:= #[T,T']},ty,pos,af,g⟩ σ bx K1=(C.lo=0/\aK (KP (an P) (an P T) bx (ev σ x) (ev σ y)) fun bx'=>K1 .wa (put σ dst (.raw (.tuple #[]))) bx'):=by simp[bp,fA,oU,iq,kI,aK,zR]
@[go_sem ↓] def YL(x:Operand)(name:String)(args:List Operand)(ts:Array TypeId):bp P C ⟨dst,.call {callee:=.invoke x name,args:=args.toArray,argTypes:=ts},ty,pos,af,g⟩ σ bx K1=oS P C (ev σ x) name (args.map (ev σ)) bx fun c d bx'=>K1 c (put σ dst d) bx':=ay
@[go_sem] def ab7(t:TypeId)(d:D)(name:String)(ds:List D)(K:Cl->D->ae->Prop):oS P C (.dB t d) name ds bx K=aK (sF P t name) fun f=>fz C f (d::ds) bx K:=ay
@[go_sem ↓] def SE(T d:Nat)(l c:Operand):bp P C ⟨some d,.makeSlice T l c,ty,pos,af,g⟩ σ bx K1=aK (uG (an P) (an P T) (ev σ l) (ev σ c)) fun r=>K1 (.w (C.base+d)) (ak σ d (.bE (C.base+d) ((bx (C.base+d)).ep+1) r.1 0 r.2.2.length)) (ak bx (C.base+d) ⟨(bx (C.base+d)).ep+1,1,r.1,r.2.1,r.2.2⟩):=ay
@[go_sem] def afd(T:TypeId->TI)(el esz bytes size:Nat)(g ag:Bool)(z:List D)(k k':IntKind)(n m:Int)(h1:0<esz)(h2:0<bytes):uG T ⟨.slice el esz bytes g,size,ag,z⟩ (.int k n) (.int k' m)=if 0<=n then(if n<=m then(if m * bytes<=140737488355328 then(if(T el).size=esz then(iZ (T el)).map fun z=>(esz,el,List.replicate n.toNat z)else none)else none)else none)else none:=by simp only[uG,h1,h2,true_and,qC]
@[go_sem] def IM(n:Int)(es:List D):jd (.int .u8 n::es)=(jd es).map (UInt8.ofNat n.toNat::·):=ay
@[go_sem] def Ym(T:TypeId->TI)(e z0 b s s':Nat)(g0 g g':Bool)(z z':List D)(es:List D):qM T ⟨.slice e z0 b g0,s,g,z⟩ ⟨.str,s',g',z'⟩ (.sl 1 es)=if(T e).k.qB=true then(jd es).map .str else none:=by simp[qM]
@[go_sem] def agP:TK.qB (.int .u8)=true:=ay
@[go_sem ↓] def YF(T d:Nat):bp P C ⟨some d,.alloc T,ty,pos,af,g⟩ σ bx K1=aK (xO (iZ (an P T)) (r9 (an P T) (zeroV P T))) fun z=>aK (some (an P T).size) fun s=>
 K1 (.w (C.base+d)) (ak σ d (.loc (C.base+d) ((bx (C.base+d)).ep+1) 0 0)) (ak bx (C.base+d) ⟨(bx (C.base+d)).ep+1,1,s,T,[z]⟩):=ay
@[go_sem ↓] def acZ(T d:Nat)(x:Operand):bp P C ⟨some d,.box T x,ty,pos,af,g⟩ σ bx K1=aK (x8 (an P T) (ev σ x)) fun v=>aK (some (an P T).size) fun s=>
 K1 (.w (C.base+d)) (ak σ d (.loc (C.base+d) ((bx (C.base+d)).ep+1) 0 0)) (ak bx (C.base+d) ⟨(bx (C.base+d)).ep+1,1,s,T,[v]⟩):=ay
@[go_sem] def afv(d:D)(b:Bool):xO (some d) b=some d:=ay
@[go_sem] def afu(b:Bool):xO none b=if b=true then some (.agg [])else none:=ay
@[go_sem] def afx(r:ae)(b:Bool)(a v:D):vJ (some r) b bx a v=some r:=ay
@[go_sem] def afw(b:Bool)(t e i j:Nat)(v:D):vJ none b bx (.loc t e i j) v=if b=true then(if v.cells=[]then some bx else none)else none:=by simp only[vJ,qC]
@[go_sem] def ahC(q:List Nat)(ag:Bool)(z:List D):r9 ⟨.struct [] q,0,ag,z⟩ (some (.agg []))=true:=ay
@[go_sem] def agj(q:List Nat)(ag:Bool)(z:List D):iZ ⟨.struct [] q,0,ag,z⟩=none:=by simp[iZ]
@[go_sem] def aaK(q:List Nat)(ag:Bool)(z:List D)(ps:List (Nat×D)):mc ⟨.struct [] q,0,ag,z⟩ ps=none:=by simp[mc]
@[go_sem] def ac7(lo:Nat)(q:List Nat)(ag:Bool)(z:List D)(a v:D):gB lo ⟨.struct [] q,0,ag,z⟩ bx a v=none:=by unfold gB;cases a<;>simp
attribute [go_sem] List.isEmpty_nil Bool.true_and
@[go_sem] def agk(k:TK)(size:Nat)(ag:Bool)(z:List D)(h:0<size):iZ ⟨k,size,ag,z⟩=if z.length=size then(if z.all D.one then(if ag then some (AO ag z)else if size=1 then some (AO ag z)else none)else none)else none:=by
 unfold iZ;cases h2:z.all D.one<;>by_cases h1:z.length=size<;>by_cases h3:size=1<;>cases ag<;>simp_all
@[go_sem] def agq(k:TK)(size:Nat)(ag:Bool)(z:List D)(v:D)(h:0<size):x8 ⟨k,size,ag,z⟩ v=if v.cells.length=size then(if v.cells.all D.one then some v else none)else none:=by
 unfold x8;cases h2:v.cells.all D.one<;>by_cases h1:v.cells.length=size<;>simp_all
@[go_sem] def agW(k:IntKind)(n:Int):D.one (.int k n)=true:=ay
@[go_sem] def afm(b:Bool):D.one (.bool b)=true:=ay
@[go_sem] def agZ(s:List UInt8):D.one (.str s)=true:=ay
@[go_sem] def acw:D.one .aq=true:=ay
@[go_sem] def ajl(sz:Nat)(es:List D):D.one (.sl sz es)=true:=ay
@[go_sem] def agY(t e sz o n:Nat):D.one (.bE t e sz o n)=true:=ay
@[go_sem] def agX(t e i j:Nat):D.one (.loc t e i j)=true:=ay
@[go_sem] def ajk(f:Fn)(ds:List D):D.one (.fn f ds)=true:=ay
@[go_sem] def afq(x:Option Addr):D.one (.raw (.pointer x))=true:=ay
@[go_sem] def afo:D.one (.raw .nilFunc)=true:=ay
@[go_sem] def afp(x:Option Nat):D.one (.raw (.map x))=true:=ay
@[go_sem] def all_nil{α:Type}(p:α->Bool):[].all p=true:=ay
@[go_sem] def all_cons{α:Type}(p:α->Bool)(x:α)(l:List α):(x::l).all p=(p x&&l.all p):=ay
attribute [go_sem] Bool.and_self Bool.and_true Bool.true_and Bool.and_false Bool.false_and true_and and_true
@[go_sem ↓] def YI(T:Nat)(a x:Operand):bp P C ⟨dst,.store T a x,ty,pos,af,g⟩ σ bx K1=aK (vJ (gB C.lo (an P T) bx (ev σ a) (ev σ x)) (r9 (an P T) (zeroV P T)) bx (ev σ a) (ev σ x)) fun bx'=>aK (some (lB (ev σ a))) fun c=>K1 c (put σ dst (.raw undef)) bx':=ay
@[go_sem ↓] def XQ(T T':Nat)(x y:Operand):bp P C ⟨dst,.call {callee:=.builtin .append,args:= #[x,y],argTypes:= #[T,T']},ty,pos,af,g⟩ σ bx K1=
 if FE C.tab dst=true then(C.pn=true/\aK (uo C.lo (an P) (an P T) T T' (kT C.base dst) bx (ev σ x) (ev σ y)) fun r=>K1 .wa (put σ dst r.1.1) r.1.2/\K1 .wa (put σ dst r.2.1) r.2.2)
 else aK (uV C.lo (an P) T T' (kT C.base dst) bx (ev σ x) (ev σ y)) fun r=>K1 .wa (put σ dst r.1) r.2:=ay
@[go_sem] def YT(tab:List (Nat×List (Nat×Nat)))(d:Tmp):FE tab (some d)=qS tab (2000000+d):=ay
@[go_sem] def Ya(lo:Nat)(T:TypeId->TI)(e esz b size d:Nat)(ag fk:Bool)(z:List D)(x y:D)(t t':Nat)(h:0<esz):uo lo T ⟨.slice e esz b ag,size,fk,z⟩ t t' (some d) bx x y=if(T e).zero.length=esz then(pK T t t' esz e bx y).bind fun ys=>if ys=[]then It x bx else uW lo d e esz b bx x ys else none:=by simp[uo,h]
@[go_sem] def Yo(T:TypeId->TI)(t esz el:Nat)(y:D):pK T t t esz el bx y=iJ bx esz y:=by simp[pK]
@[go_sem] def Ze(T:TypeId->TI)(t t' el:Nat)(s:List UInt8)(h:t≠t'):pK T t t' 1 el bx (.str s)=match(T t').k with| .str=>if(T el).k.qB=true then some (a_ s)else none|_=>none:=by simp only[pK,if_neg h];cases(T t').k<;>simp
@[go_sem] def ahc(sz:Nat)(es:List D):It (.g_ sz es) bx=some ((.sl sz es,bx),(.sl sz es,bx)):=ay
@[go_sem] def ajy(sz:Nat)(es:List D):It (.sl sz es) bx=some ((.sl sz es,bx),(.sl sz es,bx)):=ay
@[go_sem] def ahd:It .aq bx=some ((.aq,bx),(.aq,bx)):=ay
@[go_sem] def ahe(t e sz o n:Nat):It (.bE t e sz o n) bx=some ((.bE t e sz o n,bx),(.bE t e sz o n,bx)):=ay
@[go_sem] def ads(lo d el esz b:Nat)(es ys:List D)(h1:0<esz)(h2:0<b)(h3:(es.length+ys.length) * b<=140737488355328):uW lo d el esz b bx (.g_ esz es) ys=some ((.bE d ((bx d).ep+1) esz 0 (es.length+ys.length),ak bx d ⟨(bx d).ep+1,1,esz,el,es++ys⟩),(.bE d ((bx d).ep+1) esz 0 (es.length+ys.length),ak bx d ⟨(bx d).ep+1,1,esz,el,es++ys⟩)):=by simp[uW,h1,h2,h3]
@[go_sem] def Yb{lo:Nat}{T:TypeId->TI}{e esz b size d:Nat}{ag fk:Bool}{z es:List D}{y:D}{ys:List D}(h1:0<esz)(h2:0<b)(h3:(es.length+(y::ys).length) * b<=140737488355328):
 f_ lo T ⟨.slice e esz b ag,size,fk,z⟩ (some d) bx (.g_ esz es) (y::ys)=if(T e).zero.length=esz then some (.bE d ((bx d).ep+1) esz 0 (es.length+(y::ys).length),ak bx d ⟨(bx d).ep+1,1,esz,e,es++(y::ys)⟩)else none:=by
 have GP:(es.length+(ys.length+1)) * b<=140737488355328:=by simpa using h3
 simp[f_,pF,h1,h2,GP]
@[go_sem] def aaB(lo:Nat)(T:TypeId->TI)(t:TypeId)(x y:D):uV lo T t t dst bx x y=Kz lo T (T t) dst bx x y:=by simp only[uV,if_true]
@[go_sem] def YV(lo:Nat)(T:TypeId->TI)(e esz b size d Dr:Nat)(ag fk O0:Bool)(z z':List D)(k k2:IntKind)(x:D)(n:Int)(h0:0<=n)(h1:n<=140737488355328)(h2:0<esz)(h3:0<b):xX lo T ⟨.slice e esz b ag,size,fk,z⟩ ⟨.int k,Dr,O0,z'⟩ (some d) bx x (.int k2 n)=
 if(T e).zero.length=esz then(iZ (T e)).bind fun z=>FG lo d e esz b bx x (List.replicate n.toNat z)else none:=by
 simp[xX,h0,h1,h2,h3]
@[go_sem] def adt(lo:Nat)(T:TypeId->TI)(e b size d Dr:Nat)(ag fk O0:Bool)(z z':List D)(x:D)(s:List UInt8):xX lo T ⟨.slice e 1 b ag,size,fk,z⟩ ⟨.str,Dr,O0,z'⟩ (some d) bx x (.str s)=
 if(T e).zero.length=1/\(T e).k.qB=true then f_ lo T ⟨.slice e 1 b ag,size,fk,z⟩ (some d) bx x (a_ s)else none:=by
 simp[xX]
@[go_sem] def aaC(lo d e esz b:Nat)(ys:List D):FG lo d e esz b bx .aq ys=if ys=[]then some (.aq,bx)else pF lo d e esz b bx .aq ys:=ay
@[go_sem] def YU(lo:Nat)(T:TypeId->TI)(e esz b size:Nat)(ag fk:Bool)(z:List D)(x y:D):Kz lo T ⟨.slice e esz b ag,size,fk,z⟩ dst bx x y=if esz=0 then none else(iJ bx esz y).bind fun ys=>f_ lo T ⟨.slice e esz b ag,size,fk,z⟩ dst bx x ys:=ay
@[go_sem ↓] def aaf(fo:Operand)(args:List Operand)(cx:Array TypeId):bp P C ⟨dst,.call {callee:=.value fo,args:=args.toArray,argTypes:=cx},ty,pos,af,g⟩ σ bx K1=
 lT C (ev σ fo) (args.map (ev σ)) bx fun c d bx'=>K1 c (put σ dst d) bx':=by
 simp only[bp]
def av{f:Nat}{ds:List D}{K2:Cl->D->ae->Prop}{d:D}(h:C.o.to f ds d)(hp:D.aF ds=true)(hk:K2 .n d bx):fz C f ds bx K2:=.inl ⟨d,hp,h,hk⟩
def rj{f:Nat}{ds ds':List D}{K2:Cl->D->ae->Prop}{d:D}(h:C.o.to f ds' d)(ho:dn bx ds=some ds')(hb:d.bare=true)(hk:K2 .ra d bx):fz C f ds bx K2:=.inr (.inl ⟨ds',d,ho,h,hb,hk⟩)
def Gh{f:Nat}{ds ds':List D}{K2:Cl->D->ae->Prop}{d:D}(h:C.o.to f ds' d)(ho:dn bx ds=some ds')(bF:C.lo=0)(hk:K2 .wa d (dO bx ds)):fz C f ds bx K2:=.inr (.inr (.inl ⟨ds',d,bF,ho,h,hk⟩))
def aC{f:Nat}{ds:List D}{K2:Cl->D->ae->Prop}{cB:D->ae->Prop}(h:C.o.ud f C.bk ds bx cB fun _ _=>False)(bF:C.lo=0)(hk:∀d bx',cB d bx'->K2 .wa d bx'):fz C f ds bx K2:=.inr (.inr (.inr ⟨cB,_,bF,h,fun d bx' hp=> .inl (hk d bx' hp),fun _ _ h=>h.elim⟩))
def s_{f:Nat}{ds:List D}{K2:Cl->D->ae->Prop}{cB Pan:D->ae->Prop}(h:C.o.ud f C.bk ds bx cB Pan)(bF:C.lo=0)(hk:∀d bx',cB d bx'->K2 .wa d bx')(hp:∀d bx',Pan d bx'->K2 (.cU d) .undef bx'):fz C f ds bx K2:=.inr (.inr (.inr ⟨cB,Pan,bF,h,fun d bx' hp=> .inl (hk d bx' hp),hp⟩))
def wb{f:Nat}{ds:List D}{K2:Cl->D->ae->Prop}{cB Pan:D->ae->Prop}(h:C.o.ud f C.bk ds bx cB Pan)(bF:C.lo=0)(hk:∀d bx',cB d bx'->∃r r',bz bx' d=some r/\bN r r'/\K2 .wa r' (dO bx' [d]))(hp:∀d bx',Pan d bx'->K2 (.cU d) .undef bx'):fz C f ds bx K2:=.inr (.inr (.inr ⟨cB,Pan,bF,h,fun d bx' hp=> .inr (hk d bx' hp),hp⟩))
@[go_sem] def ZW(a b:D):qU (.bool true) a b=some a:=by simp[qU]
@[go_sem] def Yw(a b:D):qU (.bool false) a b=some b:=by simp[qU]
@[go_sem] def afG(t a b:Bool):qU (.bool t) (.bool a) (.bool b)=some (.bool (if t then a else b)):=by cases t<;>simp[qU]
@[go_sem] def afF(t:TypeId)(v:D)(f:D->Prop):D6 (.dB t v) f=f (.dB t v):=ay
@[go_sem ↓] def YH(x:Operand):bp P C ⟨dst,.panic x,ty,pos,af,g⟩ σ bx K1=(C.pn=true/\D6 (ev σ x) fun d=>K1 (.cU d) σ bx):=ay
@[go_sem ↓] def ac3(x:Operand):bp P C ⟨dst,.move x,ty,pos,af,g⟩ σ bx K1=aK (some (ev σ x)) fun v=>K1 .n (put σ dst v) bx:=ay
@[go_sem ↓] def YJ(x:Operand):bp P C ⟨dst,.assign x,ty,pos,af,g⟩ σ bx K1=aK (some (ev σ x)) fun v=>K1 .n (put σ dst v) bx:=ay
@[go_sem ↓] def ac5(x y z:Operand):bp P C ⟨dst,.pick x y z,ty,pos,af,g⟩ σ bx K1=aK (qU (ev σ x) (ev σ y) (ev σ z)) fun v=>K1 .n (put σ dst v) bx:=ay
@[go_sem ↓] def aag(op:BinOp)(t t':Nat)(x y:Operand):bp P C ⟨dst,.binOp op t x y t',ty,pos,af,g⟩ σ bx K1=aK (A5 (an P t) op (ev σ x) (ev σ y) (isNil y)) fun v=>K1 .n (put σ dst v) bx:=ay
@[go_sem ↓] def aca(t:Nat):isNil (.tmp t)=false:=ay
@[go_sem ↓] def ab8(k:IntKind)(n:Int):isNil (.const (.int k n))=false:=ay
@[go_sem ↓] def ab_(s:ByteArray):isNil (.const (.string s))=false:=ay
@[go_sem ↓] def ab9:isNil (.const .nilIface)=true:=ay
@[go_sem] def YY(ti:TI)(op:BinOp)(x y:D):A5 ti op x y false=lR ti op x y:=ay
@[go_sem] def adC(size:Nat)(ag:Bool)(z:List D)(x y:D):A5 ⟨.dB,size,ag,z⟩ .eql x y true=(y6 x).map .bool:=ay
@[go_sem] def adD(size:Nat)(ag:Bool)(z:List D)(x y:D):A5 ⟨.dB,size,ag,z⟩ .neq x y true=(y6 x).map fun b=> .bool (!b):=ay
@[go_sem] def afh(t:TypeId)(d:D):y6 (.dB t d)=some false:=ay
@[go_sem] def afi:y6 (.raw .nilIface)=some true:=ay
@[go_sem] def Xc:xM .nilIface= .raw .nilIface:=ay
@[go_sem ↓] def OH(t:Nat)(x:Operand):bp P C ⟨dst,.makeInterface t x,ty,pos,af,g⟩ σ bx K1=aK (CX (an P t) t (ev σ x)) fun v=>K1 .n (put σ dst v) bx:=ay
@[go_sem ↓] def SG(t t':Nat)(ok:Bool)(x:Operand):bp P C ⟨dst,.typeAssert x t' t ok,ty,pos,af,g⟩ σ bx K1=aK (Du (an P t) t ok (ev σ x)) fun v=>K1 .n (put σ dst v) bx:=ay
def TK.KK:TK->Bool
 | .none| .dB=>false
 |_=>true
@[go_sem] def adO(k:IntKind):TK.KK (.int k)=true:=ay
@[go_sem] def Yk(fs:List (Nat×Nat×Bool))(eq:List Nat):TK.KK (.struct fs eq)=true:=ay
@[go_sem] def afc(k:TK)(size:Nat)(ag:Bool)(z:List D)(t:TypeId)(x:D):CX ⟨k,size,ag,z⟩ t x=if k.KK then some (.dB t x)else none:=by cases k<;>rfl
@[go_sem] def ac9(k:TK)(size:Nat)(ag:Bool)(z:List D)(t t':TypeId)(ok:Bool)(v:D):Du ⟨k,size,ag,z⟩ t ok (.dB t' v)=if k.KK then(if t'=t then some (if ok then .aL [v,.bool true]else v)else if ok&& !z.isEmpty then some (.aL [.undef,.bool false])else none)else none:=by cases k<;>rfl
@[go_sem] def isEmpty_cons{α:Type}(x:α)(l:List α):(x::l).isEmpty=false:=ay
@[go_sem ↓] def ac6(op:UnOp)(t:Nat)(x:Operand):bp P C ⟨dst,.unOp op t x,ty,pos,af,g⟩ σ bx K1=aK (IB op (ev σ x)) fun v=>K1 .n (put σ dst v) bx:=ay
@[go_sem ↓] def TY(t i:Nat)(x:Operand):bp P C ⟨dst,.fieldAddr t x i,ty,pos,af,g⟩ σ bx K1=aK (nP (an P t) (ev σ x) i) fun v=>K1 .n (put σ dst v) bx:=ay
@[go_sem ↓] def aaj(t i:Nat)(x:Operand):bp P C ⟨dst,.field t x i,ty,pos,af,g⟩ σ bx K1=aK (yi (an P t) (ev σ x) i) fun v=>K1 .n (put σ dst v) bx:=ay
@[go_sem] def aaE(k:IntKind)(n:Int)(f:Int->Option D):oO (.int k n) f=f n:=ay
@[go_sem ↓] def TZ(t:Nat)(x y:Operand):bp P C ⟨dst,.indexAddr t x y,ty,pos,af,g⟩ σ bx K1=aK (oO (ev σ y) (eY (an P t) (ev σ x))) fun v=>K1 .n (put σ dst v) bx:=ay
@[go_sem ↓] def aak(t:Nat)(x y:Operand):bp P C ⟨dst,.index t x y,ty,pos,af,g⟩ σ bx K1=aK (oO (ev σ y) (ru (an P t) (ev σ x))) fun v=>K1 .n (put σ dst v) bx:=ay
@[go_sem ↓] def ac2(t:Nat)(x:Operand):bp P C ⟨dst,.load t x,ty,pos,af,g⟩ σ bx K1=aK (iF (an P t) bx (ev σ x)) fun v=>aK (some (nY (ev σ x))) fun c=>K1 c (put σ dst v) bx:=ay
@[go_sem] def aaG(ds:List D)(i:Nat):FH (.aL ds) i=ds[i]?:=ay
@[go_sem ↓] def XT(x:Operand)(i:Nat):bp P C ⟨dst,.extract x i,ty,pos,af,g⟩ σ bx K1=aK (FH (ev σ x) i) fun v=>K1 .n (put σ dst v) bx:=ay
@[go_sem] def acC(a b:Option Int)(f:Option Int->Option Int->Option D):zb (some a) (some b) f=f a b:=ay
@[go_sem] def aeL(k:IntKind)(n:Int):yP (.int k n)=some (some n):=ay
@[go_sem] def Yt:eV σ none=some none:=ay
@[go_sem] def Yu(x:Operand):eV σ (some x)=yP (ev σ x):=ay
@[go_sem ↓] def aam(t:Nat)(x:Operand)(lo hi:Option Operand):bp P C ⟨dst,.slice t x lo hi none,ty,pos,af,g⟩ σ bx K1=aK (zb (eV σ lo) (eV σ hi) (jW (an P t) (ev σ x))) fun v=>K1 .n (put σ dst v) bx:=ay
@[go_sem ↓] def YN(t:Nat)(x m:Operand)(lo hi:Option Operand):bp P C ⟨dst,.slice t x lo hi (some m),ty,pos,af,g⟩ σ bx K1=aK (HM (an P t) (ev σ x) (eV σ lo) (eV σ hi) (yP (ev σ m))) fun v=>K1 .n (put σ dst v) bx:=ay
@[go_sem] def acB(l:Option Int)(h m:Int)(x:D)(ti:TI):HM ti x (some l) (some (some h)) (some (some m))=vM ti x l h m:=ay
@[go_sem] def Z8(e esz b size:Nat)(ag fk:Bool)(z:List D)(es:List D)(lo:Option Int)(h:Int)(hz:0<esz):vM ⟨.slice e esz b ag,size,fk,z⟩ (.sl esz es) lo h h=(eb es.length lo (some h)).map fun p=> .g_ esz ((es.drop p.1).take (p.2 - p.1)):=by simp[vM,hz]
@[go_sem ↓] def aah(t:Nat)(ps:List (Nat×Operand)):bp P C ⟨dst,.build t ps.toArray,ty,pos,af,g⟩ σ bx K1=aK (xO (mc (an P t) (ps.map fun p=>(p.1,ev σ p.2))) (ps.isEmpty&&r9 (an P t) (zeroV P t))) fun v=>K1 .n (put σ dst v) bx:=ay
@[go_sem ↓] def SF(t n d:Nat)(ps:List (Nat×Operand)):bp P C ⟨some d,.buildSlice t n ps.toArray,ty,pos,af,g⟩ σ bx K1=if qS C.tab d=true then(aK (uF (an P) (an P t) n (ps.map fun p=>(p.1,ev σ p.2))) fun r=>K1 (.w (C.base+d)) (ak σ d (.bE (C.base+d) ((bx (C.base+d)).ep+1) r.1 0 r.2.2.length)) (ak bx (C.base+d) ⟨(bx (C.base+d)).ep+1,1,r.1,r.2.1,r.2.2⟩))else aK (mr (an P) (an P t) n (ps.map fun p=>(p.1,ev σ p.2))) fun v=>K1 .n (put σ (some d) v) bx:=ay
@[go_sem] def acm(d:Nat):qS [] d=false:=ay
@[go_sem] def ZN(k d:Nat)(l:List (Nat×Nat))(r:List (Nat×List (Nat×Nat))):qS ((k,l)::r) d=if k=1000000+d then true else qS r d:=ay
attribute [go_sem] Bool.false_eq_true
@[go_sem] def afg(t e i j:Nat):Hz (.loc t e i j)=some (.loc t e i j):=ay
@[go_sem ↓] def Uo(x:Operand):bp P C ⟨dst,.nilCheck x,ty,pos,af,g⟩ σ bx K1=aK (Hz (ev σ x)) fun v=>K1 .n (put σ dst v) bx:=ay
@[go_sem ↓] def Un(f:Fn)(caps:List Operand):bp P C ⟨dst,.makeFunc f #[] caps.toArray,ty,pos,af,g⟩ σ bx K1=aK (some (.fn f (caps.map (ev σ)))) fun v=>K1 .n (put σ dst v) bx:=ay
@[go_sem ↓] def XS(s d:Nat)(x:Operand):bp P C ⟨dst,.convert s d x,ty,pos,af,g⟩ σ bx K1=aK (qM (an P) (an P s) (an P d) (ev σ x)) fun v=>K1 .n (put σ dst v) bx:=ay
def Hr(C:Calc)(ti:TI)(x:D)(bx:ae)(K:Cl->D->Prop)(_:Tok (K .n .undef):=⟨⟩):Prop:=match ti.k with
 | .map _ _=>C.pn=true/\C.lo=0/\aK (Bh bx [x]) (K .wa)
 |_=>aK (mL .len [ti] [x]) (K .n)
@[go_sem ↓] def af6(T:Nat)(x:Operand):bp P C ⟨dst,.call {callee:=.builtin .len,args:= #[x],argTypes:= #[T]},ty,pos,af,g⟩ σ bx K1=Hr C (an P T) (ev σ x) bx fun c v=>K1 c (put σ dst v) bx:=by
 simp only[bp,fA,oU,Hr,iq,cQ,mC,List.map_nil];cases(an P T).k<;>simp[TK.isMap,kI]
section
variable (size:Nat) (ag:Bool) (z:List D) (x:D) (K:Cl->D->Prop)
@[go_sem] def aeW:Hr C ⟨.str,size,ag,z⟩ x bx K=aK (mL .len [⟨.str,size,ag,z⟩] [x]) fun v=>K .n v:=ay
@[go_sem] def ZM(e sz b:Nat)(g:Bool):Hr C ⟨.slice e sz b g,size,ag,z⟩ x bx K=aK (mL .len [⟨.slice e sz b g,size,ag,z⟩] [x]) fun v=>K .n v:=ay
@[go_sem] def aeV(kt et:Nat):Hr C ⟨.map kt et,size,ag,z⟩ x bx K=(C.pn=true/\C.lo=0/\aK (Bh bx [x]) fun v=>K .wa v):=ay
end
@[go_sem ↓] def af8(ts:Array TypeId)(x:List Operand):bp P C ⟨dst,.call {callee:=.builtin .min,args:=x.toArray,argTypes:=ts},ty,pos,af,g⟩ σ bx K1=aK (minD (x.map (ev σ))) fun v=>K1 .n (put σ dst v) bx:=ay
@[go_sem ↓] def af7(ts:Array TypeId)(x:List Operand):bp P C ⟨dst,.call {callee:=.builtin .max,args:=x.toArray,argTypes:=ts},ty,pos,af,g⟩ σ bx K1=aK (maxD (x.map (ev σ))) fun v=>K1 .n (put σ dst v) bx:=ay
@[go_sem ↓] def aas(x:Operand):cQ P σ bx (.assign x)=some (ev σ x):=ay
@[go_sem ↓] def adh(op:BinOp)(t t':Nat)(x y:Operand):cQ P σ bx (.binOp op t x y t')=A5 (an P t) op (ev σ x) (ev σ y) (isNil y):=ay
@[go_sem ↓] def Uq(t i:Nat)(x:Operand):cQ P σ bx (.fieldAddr t x i)=nP (an P t) (ev σ x) i:=ay
@[go_sem ↓] def Ur(t:Nat)(x y:Operand):cQ P σ bx (.indexAddr t x y)=oO (ev σ y) (eY (an P t) (ev σ x)):=ay
@[go_sem ↓] def adj(t:Nat)(x:Operand)(lo hi:Option Operand):cQ P σ bx (.slice t x lo hi none)=zb (eV σ lo) (eV σ hi) (jW (an P t) (ev σ x)):=ay
@[go_sem ↓] def adi(t:Nat)(ps:List (Nat×Operand)):cQ P σ bx (.build t ps.toArray)=xO (mc (an P t) (ps.map fun p=>(p.1,ev σ p.2))) (ps.isEmpty&&r9 (an P t) (zeroV P t)):=ay
@[go_sem ↓] def XX(x:Operand):cQ P σ bx (.nilCheck x)=Hz (ev σ x):=ay
@[go_sem ↓] def YP(s d:Nat)(x:Operand):cQ P σ bx (.convert s d x)=qM (an P) (an P s) (an P d) (ev σ x):=ay
variable {ti:TI}
@[go_sem] def adx(op:BinOp)(k:IntKind)(a b:Int):lR ti op (.int k a) (.int k b)=kg op k a b:=by simp[lR]
@[go_sem] def adB(op:BinOp)(a b:List UInt8):lR ti op (.str a) (.str b)=zA op a b:=by simp[lR]
@[go_sem] def aey(k:IntKind)(a b:Int):kg .add k a b=some (.int k (k.wrap (a+b))):=ay
@[go_sem] def aeJ(k:IntKind)(a b:Int):kg .sub k a b=some (.int k (k.wrap (a - b))):=ay
@[go_sem] def aeF(k:IntKind)(a b:Int):kg .mul k a b=some (.int k (k.wrap (a * b))):=ay
@[go_sem] def aeH(k:IntKind)(a b:Int)(h:b≠0):kg .quo k a b=some (.int k (k.wrap (a.tdiv b))):=by simp[kg,h]
@[go_sem] def aeI(k:IntKind)(a b:Int)(h:b≠0):kg .rem k a b=some (.int k (a.tmod b)):=by simp[kg,h]
@[go_sem] def aeA(k:IntKind)(a b:Int):kg .eql k a b=some (.bool (decide (a=b))):=by simp[kg,KJ];rfl
@[go_sem] def aeG(k:IntKind)(a b:Int):kg .neq k a b=some (.bool (!decide (a=b))):=by simp[kg,KJ,bne];rfl
@[go_sem] def aeE(k:IntKind)(a b:Int):kg .lss k a b=some (.bool (decide (a<b))):=ay
@[go_sem] def aeD(k:IntKind)(a b:Int):kg .leq k a b=some (.bool (decide (a<=b))):=ay
@[go_sem] def aeC(k:IntKind)(a b:Int):kg .gtr k a b=some (.bool (decide (b<a))):=ay
@[go_sem] def aeB(k:IntKind)(a b:Int):kg .geq k a b=some (.bool (decide (b<=a))):=ay
@[go_sem] def af9(a b:List UInt8):zA .eql a b=some (.bool (decide (a=b))):=by by_cases h:a=b<;>simp[zA,h]
@[go_sem] def af_(a b:List UInt8):zA .neq a b=some (.bool (!decide (a=b))):=by by_cases h:a=b<;>simp[zA,h]
@[go_sem] def US(a b:List D):lR ti .neq (.agg a) (.agg b)=(ED ti (.agg a) (.agg b)).map fun x=> .bool (!x):=ay
@[go_sem] def Ug(size:Nat)(ag:Bool)(z:List D)(a b:Bool):lR ⟨.bool,size,ag,z⟩ .eql (.bool a) (.bool b)=some (.bool (a==b)):=ay
@[go_sem] def Uh(size:Nat)(ag:Bool)(z:List D)(a b:Bool):lR ⟨.bool,size,ag,z⟩ .neq (.bool a) (.bool b)=some (.bool (!(a==b))):=ay
@[go_sem] def agF(fs:List (Nat×Nat×Bool))(k:Nat)(ks:List Nat)(size:Nat)(ag:Bool)(z a b:List D):ED ⟨.struct fs (k::ks),size,ag,z⟩ (.agg a) (.agg b)=if cq (k::ks) a then jg a b else FT k ks a b:=ay
@[go_sem] def aci(ks:List Nat)(ds:List D):cq (0::ks) ds=false:=by cases ds<;>simp[cq]
@[go_sem] def Ys:cq [] []=true:=by simp[cq]
@[go_sem] def acj(ks:List Nat)(k:IntKind)(n:Int)(ds:List D):cq (2::ks) (.int k n::ds)=cq ks ds:=by simp[cq]
@[go_sem] def ack(ks:List Nat)(s:List UInt8)(ds:List D):cq (3::ks) (.str s::ds)=cq ks ds:=by simp[cq]
def F7(a:Bool)(x:Option Bool):Option Bool:=x.map fun b=>a&&b
@[go_sem] def aaA(a b:Bool):F7 a (some b)=some (a&&b):=ay
@[go_sem] def agH:jg [] []=some true:=by simp[jg]
@[go_sem] def agG(k:IntKind)(m n:Int)(xs ys:List D):jg (.int k m::xs) (.int k n::ys)=F7 (decide (m=n)) (jg xs ys):=by
 simp only[jg,uu,if_true,F7];by_cases h:m=n
 ·subst h;cases jg xs ys<;>simp
 ·have:(m==n)=false:=by simp[h]
  simp only[this,h,decide_false];cases jg xs ys<;>simp
@[go_sem] def agI(m n:List UInt8)(xs ys:List D):jg (.str m::xs) (.str n::ys)=F7 (decide (m=n)) (jg xs ys):=by
 simp only[jg,uu,F7];by_cases h:m=n
 ·subst h;cases jg xs ys<;>simp
 ·have:(m==n)=false:=by simp[h]
  simp only[this,h,decide_false];cases jg xs ys<;>simp
@[go_sem] def aez(k:IntKind)(a b:Int):kg .and k a b=some (.int k (dj .and k a b)):=ay
@[go_sem] def agO(k:IntKind)(a b:Int):kg .or k a b=some (.int k (dj .or k a b)):=ay
@[go_sem] def aeK(k:IntKind)(a b:Int):kg .xor k a b=some (.int k (dj .xor k a b)):=ay
@[go_sem ↓] def adz(k k':IntKind)(a b:Int):lR ti .shl (.int k a) (.int k' b)=zt .shl k a b:=by simp only[lR];split<;>rfl
@[go_sem ↓] def adA(k k':IntKind)(a b:Int):lR ti .shr (.int k a) (.int k' b)=zt .shr k a b:=by simp only[lR];split<;>rfl
@[go_sem] def aha(k:IntKind)(a b:Int)(h:0<=b):zt .shl k a b=some (.int k (k.wrap (a * 2 ^ (min b.toNat k.bits)))):=by unfold zt;rw[if_neg oM]
@[go_sem] def ahb(k:IntKind)(a b:Int)(h:0<=b):zt .shr k a b=some (.int k (a.fdiv (2 ^ (min b.toNat k.bits)))):=by unfold zt;rw[if_neg oM]
@[go_sem] def ahi(k:IntKind)(n:Int):IB .xor (.int k n)=some (.int k (dj .xor k (if k.signed then -1 else k.max) n)):=ay
@[go_sem] def ahh(b:Bool):IB .not (.bool b)=some (.bool (!b)):=ay
@[go_sem] def ahg(k:IntKind)(n:Int):IB .neg (.int k n)=some (.int k (k.wrap (0 - n))):=ay
def wrap_i64{n:Int}(h1: -9223372036854775808<=n)(h2:n<=9223372036854775807):IntKind.i64.wrap n=n:=IntWalk.i64_in n ⟨by omega,by omega⟩
@[go_sem] def Z5(t e i j o:Nat):kS (.loc t e i j) o=some (.loc t e i (j+o)):=ay
@[go_sem] def YC(d:D)(j o:Nat):kS (.cA d j) o=some (.cA d (j+o)):=ay
def Vc(x:D):Option (Nat×Nat×Bool)->Option D
 |some (off,sz,_)=>if sz=0 then none else kS x off
 |none=>none
@[go_sem] def aa_(x:D)(off sz:Nat)(b:Bool):Vc x (some (off,sz,b))=if sz=0 then none else kS x off:=ay
@[go_sem] def OV(fs:List (Nat×Nat×Bool))(eq:List Nat)(size:Nat)(ag:Bool)(z:List D)(x:D)(i:Nat):nP ⟨.struct fs eq,size,ag,z⟩ x i=Vc x fs[i]?:=ay
def Vd(ds:List D):Option (Nat×Nat×Bool)->Option D
 |some (off,sz,ag)=>if sz=0 then none else jz (.agg ds) off ag sz
 |none=>none
@[go_sem] def aba(x:List D)(off sz:Nat)(b:Bool):Vd x (some (off,sz,b))=if sz=0 then none else jz (.agg x) off b sz:=ay
@[go_sem] def Uj(fs:List (Nat×Nat×Bool))(eq:List Nat)(size:Nat)(ag:Bool)(z:List D)(ds:List D)(i:Nat):yi ⟨.struct fs eq,size,ag,z⟩ (.agg ds) i=Vd ds fs[i]?:=ay
@[go_sem] def Yv(d:D)(j k:Nat):jz d j false k=d.cells[j]?:=by simp[jz]
@[go_sem] def ZV(d:D)(j k:Nat):jz d j true k=if j+k<=d.cells.length then some (.agg ((d.cells.drop j).take k))else none:=by simp[jz]
@[go_sem] def aaO(ds:List D):(D.agg ds).cells=ds:=ay
@[go_sem] def aaP(k:IntKind)(n:Int):(D.int k n).cells=[.int k n]:=ay
@[go_sem] def Y8(b:Bool):(D.bool b).cells=[.bool b]:=ay
@[go_sem] def aaS(s:List UInt8):(D.str s).cells=[.str s]:=ay
@[go_sem] def Yj:D.aq.cells=[.aq]:=ay
@[go_sem] def adM(sz:Nat)(es:List D):(D.sl sz es).cells=[.sl sz es]:=ay
@[go_sem] def aaR(t e sz o n:Nat):(D.bE t e sz o n).cells=[.bE t e sz o n]:=ay
@[go_sem] def aaQ(t e i j:Nat):(D.loc t e i j).cells=[.loc t e i j]:=ay
@[go_sem] def adL(f:Fn)(ds:List D):(D.fn f ds).cells=[.fn f ds]:=ay
@[go_sem] def Uk(e esz b size:Nat)(ag fk:Bool)(z:List D)(es:List D)(n:Int)(h:0<=n)(h2:0<esz):eY ⟨.slice e esz b ag,size,fk,z⟩ (.sl esz es) n=(es[n.toNat]?).map fun d=> .cA d 0:=by simp[eY,h,h2]
@[go_sem] def Ts(e esz b size:Nat)(ag fk:Bool)(z:List D)(t e' o len:Nat)(n:Int)(h:0<=n)(h':n<len)(h2:0<esz):eY ⟨.slice e esz b ag,size,fk,z⟩ (.bE t e' esz o len) n=some (.loc t e' (o+n.toNat) 0):=by simp[eY,h,h',h2]
@[go_sem] def ZI(size:Nat)(ag:Bool)(z:List D)(s:List UInt8)(n:Int)(h:0<=n):ru ⟨.str,size,ag,z⟩ (.str s) n=(s[n.toNat]?).map fun b=> .int .u8 (b.toNat:Int):=by simp[ru,h]
@[go_sem] def ZO(k:TK)(size:Nat)(ag:Bool)(z:List D)(d:D)(j:Nat)(h:0<size):iF ⟨k,size,ag,z⟩ bx (.cA d j)=jz d j ag size:=by simp[iF,h]
def KD(b:Bx)(e i:Nat)(f:D->Option D):Option D:=if b.ep=e/\lv b.k then(b.es[i]?).bind f else none
@[go_sem] def acn(k:TK)(size:Nat)(ag:Bool)(z:List D)(t e i j:Nat)(h:0<size):iF ⟨k,size,ag,z⟩ bx (.loc t e i j)=KD (bx t) e i fun d=>jz d j ag size:=by simp[iF,KD,h]
@[go_sem] def aaM(e sz ty i:Nat)(es:List D)(f:D->Option D):KD ⟨e,1,sz,ty,es⟩ e i f=(es[i]?).bind f:=by simp[KD,W0,lv2]
@[go_sem] def aan(lo:Nat)(k:TK)(size:Nat)(ag:Bool)(z:List D)(t e i j:Nat)(v:D)(h:0<size):gB lo ⟨k,size,ag,z⟩ bx (.loc t e i j) v=if lo<=t then(if v.cells.length=size then(if v.cells.all D.one then v_ bx t (bx t) e i j v.cells else none)else none)else none:=by
 unfold gB;cases h2:v.cells.all D.one<;>by_cases h1:v.cells.length=size<;>by_cases h3:lo<=t<;>simp_all
def B7(bx:ae)(t e sz ty i:Nat)(es:List D)(x:Option D):Option ae:=x.map fun d'=>ak bx t ⟨e,1,sz,ty,es.set i d'⟩
@[go_sem] def Y5(t e sz ty i j:Nat)(es cs:List D):v_ bx t ⟨e,1,sz,ty,es⟩ e i j cs=B7 bx t e sz ty i es ((es[i]?).bind fun d0=>fi d0 j cs):=by
 simp only[v_,B7];cases es[i]?<;>simp
@[go_sem] def Yf(t e sz ty i:Nat)(es:List D)(d':D):B7 bx t e sz ty i es (some d')=some (ak bx t ⟨e,1,sz,ty,es.set i d'⟩):=by simp[B7]
@[go_sem] def af1(ds cs:List D)(j:Nat):fi (.agg ds) j cs=if j+cs.length<=ds.length then some (.agg (ds.take j++cs++ds.drop (j+cs.length)))else none:=by simp[fi,D.cells]
@[go_sem] def af2(k:IntKind)(n:Int)(c:D):fi (.int k n) 0 [c]=some c:=by simp[fi,D.cells]
@[go_sem] def acU(b:Bool)(c:D):fi (.bool b) 0 [c]=some c:=by simp[fi,D.cells]
@[go_sem] def Ir(s:List UInt8)(c:D):fi (.str s) 0 [c]=some c:=by simp[fi,D.cells]
@[go_sem] def af3(x:Value)(c:D):fi (.raw x) 0 [c]=some c:=by simp[fi,D.cells]
@[go_sem] def Z4(c:D):fi .aq 0 [c]=some c:=by simp[fi,D.cells]
@[go_sem] def ag9(sz:Nat)(es:List D)(c:D):fi (.sl sz es) 0 [c]=some c:=by simp[fi,D.cells]
@[go_sem] def afb(cs:List D):AO true cs= .agg cs:=by simp[AO]
@[go_sem] def acu(c:D)(cs:List D):AO false (c::cs)=c:=by simp[AO]
@[go_sem] def ago(e sz b size:Nat)(g ag:Bool)(z:List D):mL .cap [⟨.slice e sz b g,size,ag,z⟩] [.aq]=some (.int .i64 0):=ay
@[go_sem] def Z_(e esz b size:Nat)(ag fk:Bool)(z:List D)(lo hi:Option Int)(hz:0<esz):jW ⟨.slice e esz b ag,size,fk,z⟩ .aq lo hi=(eb 0 lo hi).map fun _=> .aq:=by simp[jW,hz]
@[go_sem] def agp(ti:TI)(x:D):mL .len [ti] [x]=(tN ti.k x).map fun n:Nat=>D.int .i64 (n:Int):=ay
@[go_sem] def aeT(s:List UInt8):tN .str (.str s)=some s.length:=ay
@[go_sem] def agQ(e z b:Nat)(ag:Bool)(sz:Nat)(es:List D):tN (.slice e z b ag) (.sl sz es)=some es.length:=ay
@[go_sem] def aeR(e z b:Nat)(ag:Bool):tN (.slice e z b ag) .aq=some 0:=ay
@[go_sem] def aeS(e z b:Nat)(ag:Bool)(t e' sz o n:Nat):tN (.slice e z b ag) (.bE t e' sz o n)=some n:=ay
@[go_sem] def ae8(k:IntKind)(a b:Int):minD [.int k a,.int k b]=some (.int k (min a b)):=by
 simp only[minD,if_true]
 congr 2
 split<;>omega
def Hw(k:IntKind)(a b:Int):wL (.int k a) (.int k b)=some (.int k (max a b)):=by
 simp only[wL,if_true]
 congr 2
 split<;>omega
@[go_sem] def ae7(k:IntKind)(a b:Int):maxD [.int k a,.int k b]=some (.int k (max a b)):=Hw k a b
@[go_sem] def acr(k:IntKind)(a b c:Int):maxD [.int k a,.int k b,.int k c]=some (.int k (max (max a b) c)):=by simp only[maxD,Hw,Option.bind_some]
@[go_sem] def aaX(T:TypeId->TI)(k k':IntKind)(s s':Nat)(g g':Bool)(z z':List D)(k0:IntKind)(n:Int):qM T ⟨.int k0,s,g,z⟩ ⟨.int k,s',g',z'⟩ (.int k' n)=some (.int k (k.wrap n)):=ay
@[go_sem] def acW(e esz b size:Nat)(ag fk:Bool)(z:List D)(es:List D)(lo hi:Option Int)(hz:0<esz):jW ⟨.slice e esz b ag,size,fk,z⟩ (.sl esz es) lo hi=(eb es.length lo hi).map fun p=> .sl esz ((es.drop p.1).take (p.2 - p.1)):=by simp[jW,hz]
@[go_sem] def aaa(e esz b size:Nat)(ag fk:Bool)(z:List D)(t e' o n:Nat)(lo hi:Option Int)(hz:0<esz):jW ⟨.slice e esz b ag,size,fk,z⟩ (.bE t e' esz o n) lo hi=(eb n lo hi).map fun p=> .bE t e' esz (o+p.1) (p.2 - p.1):=by simp[jW,hz]
@[go_sem] def ZH(len esz size:Nat)(ag fk:Bool)(z ds:List D)(n:Int)(h0:0<=n)(h1:n<(len:Int))(hz:0<esz):ru ⟨.arr len esz ag,size,fk,z⟩ (.agg ds) n=jz (.agg ds) (n.toNat * esz) ag esz:=by simp[ru,h0,h1,hz]
@[go_sem] def Z9(m size:Nat)(ag fk:Bool)(z:List D)(t e i j:Nat)(lo hi:Option Int)(h:m<=65536):jW ⟨.arr m 1 ag,size,fk,z⟩ (.loc t e i j) lo hi=(eb m lo hi).map fun p=> .fH t e i (j+p.1) (p.2 - p.1):=by simp[jW,h]
@[go_sem] def aeQ(e z b:Nat)(ag:Bool)(t e' i j n:Nat):tN (.slice e z b ag) (.fH t e' i j n)=some n:=ay
@[go_sem] def aeP(e z b:Nat)(ag:Bool)(sz:Nat)(es:List D):tN (.slice e z b ag) (.g_ sz es)=some es.length:=ay
@[go_sem] def Tr(e b size:Nat)(ag fk:Bool)(z:List D)(t e' i j len:Nat)(n:Int)(h:0<=n)(h':n<len):eY ⟨.slice e 1 b ag,size,fk,z⟩ (.fH t e' i j len) n=some (.loc t e' i (j+n.toNat)):=by simp[eY,h,h']
@[go_sem] def afz(t e i j n:Nat):bz bx (.fH t e i j n)=Bo (bx t) e i j n:=by simp only[bz,Bo]
@[go_sem] def aab(size:Nat)(ag:Bool)(z:List D)(s:List UInt8)(lo hi:Option Int):jW ⟨.str,size,ag,z⟩ (.str s) lo hi=(eb s.length lo hi).map fun p=> .str ((s.drop p.1).take (p.2 - p.1)):=by simp[jW]
@[go_sem] def agC(len:Nat)(h:Int)(h0:0<=h)(h1:h<=len):eb len none (some h)=some (0,h.toNat):=by simp[eb,h0,h1]
@[go_sem] def agD(len:Nat)(l:Int)(h0:0<=l)(h1:l<=len):eb len (some l) none=some (l.toNat,len):=by simp[eb,h0,h1]
@[go_sem] def aa2(len:Nat)(l h:Int)(h0:0<=l)(h1:l<=h)(h2:h<=len):eb len (some l) (some h)=some (l.toNat,h.toNat):=by simp[eb,h0,h1,h2]
def KW(b:Bx):Bx:={b with k:=if b.k=1 then 2 else b.k}
@[go_sem] def ad0(e sz ty:Nat)(es:List D):KW ⟨e,1,sz,ty,es⟩=⟨e,2,sz,ty,es⟩:=by simp[KW]
@[go_sem] def ad5:dO bx []=bx:=by simp[dO]
@[go_sem] def abb(d:D)(ds:List D):dO bx (d::ds)=dO (eN bx d) ds:=by simp[dO]
@[go_sem] def ad3(t e sz o n:Nat):eN bx (.bE t e sz o n)=ak bx t (KW (bx t)):=by simp[eN,KW]
@[go_sem] def ad1(ds:List D):eN bx (.agg ds)=dO bx ds:=by simp[eN]
@[go_sem] def ad2(k:IntKind)(n:Int):eN bx (.int k n)=bx:=by simp[eN]
@[go_sem] def ad4(x:List UInt8):eN bx (.str x)=bx:=by simp[eN]
@[go_sem] def Zj:eN bx .aq=bx:=by simp[eN]
@[go_sem] def adS(lo e e' adY b b' size Dr:Nat)(ag ag2 fk adl:Bool)(z z':List D)(x y:D):wj lo ⟨.slice e 1 b ag,size,ag2,z⟩ ⟨.slice e' adY b' fk,Dr,adl,z'⟩ bx x y=(iJ bx 1 y).bind fun ys=>if ys.all D.one=true then wm lo bx x ys else none:=by simp[wj]
def FK(bx:ae)(t e o n:Nat)(ys:List D)(b:Bx):Option (Nat×ae):=if b.ep=e/\b.k=1/\b.sz=1/\o+n<=b.es.length then
 some (min ys.length n,ak bx t {b with es:=b.es.take o++ys.take n++b.es.drop (o+min ys.length n)})else none
@[go_sem] def aa1(t e o n:Nat)(ys:List D):wm 0 bx (.bE t e 1 o n) ys=FK bx t e o n ys (bx t):=by simp[wm,FK]
@[go_sem] def aaY(t e o n ty:Nat)(ys es:List D)(h:o+n<=es.length):FK bx t e o n ys ⟨e,1,1,ty,es⟩=some (min ys.length n,ak bx t ⟨e,1,1,ty,es.take o++ys.take n++es.drop (o+min ys.length n)⟩):=by simp[FK,h]
def FL(bx:ae)(t e i j n:Nat)(ys:List D)(b:Bx):Option (Nat×ae):=if b.ep=e/\b.k=1 then match b.es[i]? with
 |some d=>(fi d j (ys.take n)).map fun d'=>(min ys.length n,ak bx t {b with es:=b.es.set i d'})
 |none=>none
 else none
@[go_sem] def aa0(t e i j n:Nat)(ys:List D):wm 0 bx (.fH t e i j n) ys=FL bx t e i j n ys (bx t):=by simp[wm,FL]
@[go_sem] def aaZ(t e i j n sz ty:Nat)(ys es:List D):FL bx t e i j n ys ⟨e,1,sz,ty,es⟩=(es[i]?).bind fun d=>(fi d j (ys.take n)).map fun d'=>(min ys.length n,ak bx t ⟨e,1,sz,ty,es.set i d'⟩):=by simp only[FL];cases es[i]?<;>simp
@[go_sem] def aa7(esz:Nat)(es:List D):iJ bx esz (.sl esz es)=some es:=by simp[iJ]
@[go_sem] def aaL(fs:List (Nat×Nat×Bool))(eq:List Nat)(size:Nat)(ag:Bool)(z:List D)(ps:List (Nat×D))(h:0<size):mc ⟨.struct fs eq,size,ag,z⟩ ps=if z.length=size then(if fs.all (fun f=>decide (0<f.2.1))=true then(jc fs z ps).map .agg else none)else none:=by simp only[mc,h,true_and,qC]
@[go_sem] def Y2(n esz:Nat)(eag:Bool)(size:Nat)(ag:Bool)(z:List D)(ps:List (Nat×D))(h:0<size)(h2:0<esz):mc ⟨.arr n esz eag,size,ag,z⟩ ps=if z.length=size then(jc ((List.range n).map fun i=>(i * esz,esz,eag)) z ps).map .agg else none:=by simp only[mc,h,h2,and_true]
def O4(fs:List (Nat×Nat×Bool))(cs:List D)(d:D)(ps:List (Nat×D)):Option (Nat×Nat×Bool)->Option (List D)
 |some (off,sz,_)=>if d.cells.length=sz then(if off+sz<=cs.length then(if d.cells.all D.one then jc fs (cs.take off++d.cells++cs.drop (off+sz)) ps else none)else none)else none
 |none=>none
@[go_sem] def Y3(fs:List (Nat×Nat×Bool))(cs:List D):jc fs cs []=some cs:=ay
@[go_sem] theorem Ye(fs:List (Nat×Nat×Bool))(cs:List D)(i:Nat)(d:D)(ps:List (Nat×D)):jc fs cs ((i,d)::ps)=O4 fs cs d ps fs[i]?:=by
 simp only[jc,O4];cases fs[i]? with
 |none=>rfl
 |some x=>
  obtain⟨off,sz,g⟩:=x;simp only;cases h2:d.cells.all D.one<;>by_cases h1:d.cells.length=sz<;>by_cases h3:off+sz<=cs.length<;>simp_all
@[go_sem] def aaJ(fs:List (Nat×Nat×Bool))(cs:List D)(d:D)(ps:List (Nat×D))(off sz:Nat)(g:Bool):O4 fs cs d ps (some (off,sz,g))=if d.cells.length=sz then(if off+sz<=cs.length then(if d.cells.all D.one then jc fs (cs.take off++d.cells++cs.drop (off+sz)) ps else none)else none)else none:=ay
@[go_sem] def SS(T:TypeId->TI)(e esz b size:Nat)(ag fk:Bool)(z:List D)(len:Nat)(ps:List (Nat×D))(h3:0<esz)(h4:len * esz<=65536):mr T ⟨.slice e esz b ag,size,fk,z⟩ len ps=if ps.map (·.1)=List.range len then(if ps.all (fun p=>p.2.cells.length==esz&&p.2.cells.all D.one&&p.2.pure)=true then(if(T e).zero.length=esz then some (.sl esz (ps.map (·.2)))else none)else none)else none:=by simp only[mr,h3,h4,true_and,qC]
@[go_sem] def aeZ(T:TypeId->TI)(e esz b size:Nat)(ag fk:Bool)(z:List D)(len:Nat)(ps:List (Nat×D))(h3:0<esz)(h4:len * esz<=65536):uF T ⟨.slice e esz b ag,size,fk,z⟩ len ps=if ps.map (·.1)=List.range len then(if ps.all (fun p=>p.2.cells.length==esz&&p.2.cells.all D.one)=true then(if(T e).zero.length=esz then some (esz,e,ps.map (·.2))else none)else none)else none:=by simp only[uF,h3,h4,true_and,qC]
@[go_sem] def ag6:List.range 0=[]:=ay
attribute [go_sem] beq_self_eq_true
def aX(bx:ae)(ts:List Nat)(el esz:Nat)(x:D)(xs:List D):Prop:=
 (x= .aq/\xs=[])\/∃t e,t∈ts/\x= .bE t e esz 0 xs.length/\bx t=⟨e,1,esz,el,xs⟩
theorem aX.nil(bx:ae)(ts:List Nat)(el esz:Nat):aX bx ts el esz .aq []:=.inl ⟨rfl,rfl⟩
theorem aX.mk{bx:ae}{ts:List Nat}{el esz t e:Nat}{xs:List D}(ht:t∈ts)(h:bx t=⟨e,1,esz,el,xs⟩):aX bx ts el esz (.bE t e esz 0 xs.length) xs:=.inr ⟨t,e,ht,rfl,h⟩
theorem aX.of{bx bx':ae}{ts:List Nat}{el esz:Nat}{x:D}{xs:List D}(h:aX bx ts el esz x xs)(hb:∀t,t∈ts->bx' t=bx t):aX bx' ts el esz x xs:=by
 rcases h with h|⟨t,e,ht,hx,h⟩
 ·exact .inl h
 ·exact .inr ⟨t,e,ht,hx,by rw[hb t ht];exact h⟩
theorem aX.len{bx:ae}{ts:List Nat}{el esz:Nat}{x:D}{xs:List D}(h:aX bx ts el esz x xs)(e b:Nat)(ag:Bool):tN (.slice e esz b ag) x=some xs.length:=by rcases h with⟨rfl,rfl⟩|⟨t,e',_,rfl,_⟩<;>rfl
def gP{lo:Nat}{T:TypeId->TI}{e esz b size d:Nat}{ag fk:Bool}{z:List D}{x:D}{xs ys:List D}{ts:List Nat}{K2:D×ae->Prop}(hx:aX bx ts e esz x xs)(bq:ys≠[])(hz:(T e).zero.length=esz)
 (h1:(xs.length+ys.length) * b<=140737488355328) (h2:0<esz) (h3:0<b) (bF:∀t,t∈ts->lo<=t)
 (hk:∀(e':Nat) (bx':ae),bx' d=⟨e',1,esz,e,xs++ys⟩->(∀s,s≠d->s∉ts->bx' s=bx s)->K2 (.bE d e' esz 0 (xs++ys).length,bx')):
 aK (f_ lo T ⟨.slice e esz b ag,size,fk,z⟩ (some d) bx x ys) K2:=by
 rcases hx with⟨rfl,rfl⟩|⟨t,e',ht,rfl,hb⟩
 ·simp only[f_,bq,if_false,hz,if_true,pF];rw[if_pos ⟨by simpa using h1,h2,h3⟩,pG];have:=hk ((bx d).ep+1) (ak bx d ⟨(bx d).ep+1,1,esz,e,ys⟩) (by simp[ak]) (fun s hs _=>by simp[ak,hs]);simpa using this
 ·simp only[f_,bq,if_false,hz,if_true,pF,DJ,hb];rw[if_pos ⟨bF t ht,trivial,trivial,trivial,trivial,trivial,trivial,Nat.le_refl _,h1,h2,h3⟩,pG];have:=hk ((bx d).ep+1) (ak (ak bx t ⟨e',0,esz,e,xs⟩) d ⟨(bx d).ep+1,1,esz,e,xs++ys⟩) (by simp[ak]) (fun s hs bw=>by
   have:s≠t:=by rintro rfl;exact bw ht
   simp[ak,hs,this])
  simpa using this
def iB{lo:Nat}{T:TypeId->TI}{e esz b size d:Nat}{ag fk:Bool}{z:List D}{x:D}{xs:List D}{ts:List Nat}{K2:D×ae->Prop}(hx:aX bx ts e esz x xs)(hk:K2 (x,bx)):
 aK (f_ lo T ⟨.slice e esz b ag,size,fk,z⟩ (some d) bx x []) K2:=by
 rcases hx with⟨rfl,rfl⟩|⟨t,e',ht,rfl,hb⟩<;>simpa[f_,SB,pG]using hk
end Go.V
namespace Go.V
open Go.RowKit
structure Place where
 b:Nat
 cap:Nat
 sz:Nat
 ty:TypeId
structure cM where
 at_:Nat->Nat->Option Place
 hold:Nat->Option Obj
instance:CoeFun cM (fun _=>Nat->Nat->Option Place):=⟨cM.at_⟩
def Obj.nk:Obj->Bool
 | .cells ..=>true
 |_=>false
def mJ(w w':World)(b:Nat):Prop:=∀o,w.heap[b]? =some o->Obj.nk o=true->w'.heap[b]? =some o
theorem mJ.of_eq{w w':World}{b:Nat}(h:w'.heap[b]? =w.heap[b]?):mJ w w' b:=fun _ ho _=>h.trans ho
theorem mJ.cell{w w':World}{b o:Nat}{v:Value}(h:mJ w w' b)(hc:w.cell? ⟨b,o,none⟩=some v):w'.cell? ⟨b,o,none⟩=some v:=by
 unfold World.cell? at hc⊢;split at hc
 ·rename_i hb;have:=h _ hb rfl;simp only at this hb⊢;rw[this];exact hc
 ·cases hc
inductive br(w:World)(S:Nat->Prop):D->Value->Prop where
 |undef (v:Value):br w S .undef v
 |any (ds:List D) (v:Value):br w S (.any ds) v
 |fI (v:Value) (h:∀b d,Bc b=some d->br w S (.cA d 0) (.pointer (some ⟨b,0,none⟩))) (hc:∀b cs,KZ b=some cs->S b/\∃ty sp,w.heap[b]? =some (.cells cs ty sp)):br w S .fI v
 |int (k:IntKind) (n:Int):br w S (.int k n) (.int k n)
 |bool (b:Bool):br w S (.bool b) (.bool b)
 |str (l:List UInt8):br w S (.str l) (.string ⟨l.toArray⟩)
 |raw (x:Value):br w S (.raw x) x
 |aq:br w S .aq (.slice none 0 0)
 |agg {ds:List D} {vs:Array Value} (hl:vs.size=ds.length) (h:∀(i:Nat) d v,ds[i]? =some d->vs[i]? =some v->br w S d v):br w S (.agg ds) (.agg vs)
 |aL {ds:List D} {vs:Array Value} (hl:vs.size=ds.length) (h:∀(i:Nat) d v,ds[i]? =some d->vs[i]? =some v->br w S d v):br w S (.aL ds) (.tuple vs)
 |sl {sz:Nat} {es:List D} {A:Option Addr} {n cap b off:Nat} {us:Nat->Nat->Value} (hn:n=es.length) (dF:n<=cap) (ja:cap<=maxLen) (hA:es≠[]->A=some ⟨b,off,none⟩/\S b)
  (bP:∀(i:Nat) d,es[i]? =some d->d.cells.length=sz)
  (hc:∀(i:Nat) d (j:Nat) c,es[i]? =some d->d.cells[j]? =some c->w.cell? ⟨b,off+i * sz+j,none⟩=some (us i j))
  (h1:∀(i:Nat) d (j:Nat) c,es[i]? =some d->d.cells[j]? =some c->(us i j).oneCell'=true)
  (hr:∀(i:Nat) d (j:Nat) c,es[i]? =some d->d.cells[j]? =some c->br w S c (us i j)):br w S (.sl sz es) (.slice A n cap)
 |g_ {sz:Nat} {es:List D} {A:Option Addr} {n:Nat} (h:br w S (.sl sz es) (.slice A n n)):br w S (.g_ sz es) (.slice A n n)
 |cA {d:D} {j b off p:Nat} {us:Nat->Value} (hS:S b) (hp:p=off+j)
  (hc:∀(m:Nat) c,d.cells[m]? =some c->w.cell? ⟨b,off+m,none⟩=some (us m))
  (h1:∀(m:Nat) c,d.cells[m]? =some c->(us m).oneCell'=true)
  (hr:∀(m:Nat) c,d.cells[m]? =some c->br w S c (us m)):br w S (.cA d j) (.pointer (some ⟨b,p,none⟩))
 |fn {f:Fn} {caps:List D} {vs:Array Value} (hl:vs.size=caps.length) (h:∀(i:Nat) d v,caps[i]? =some d->vs[i]? =some v->br w S d v):br w S (.fn f caps) (.func f #[] vs)
 |iw {f:FuncId} {caps:List D} {vs:Array Value} (hl:vs.size=caps.length) (h:∀(i:Nat) d v,caps[i]? =some d->vs[i]? =some v->br w S d v):br w S (.iw f caps) (.func (.func f) vs #[])
 |dB {t:TypeId} {d:D} {v:Value} (h:br w S d v):br w S (.dB t d) (.iface t v)
 |gZ (b:Bool):br w S .gZ (.bool b)
theorem br.fc{w w':World}{S S':Nat->Prop}{d:D}{v:Value}(h:br w S d v)(hw:∀b,S b->mJ w w' b)(hS:∀b,S b->S' b):br w' S' d v:=by
 induction h with
 |undef v=>exact .undef v
 |any ds v=>exact .any ds v
 |fI v _ hc ih=>exact .fI v ih fun b cs h=>let ⟨h1,ty,sp,h2⟩:=hc b cs h;⟨hS b h1,ty,sp,hw b h1 _ h2 rfl⟩
 |int k n=>exact .int k n
 |bool b=>exact .bool b
 |gZ b=>exact .gZ b
 |str l=>exact .str l
 |raw x=>exact .raw x
 |aq=>exact .aq
 |agg hl _ ih=>exact .agg hl ih
 |aL hl _ ih=>exact .aL hl ih
 |@sl sz es A n cap b off us hn dF ja hA bP hc h1 _ ih=>
  refine .sl (b:=b) (off:=off) (us:=us) hn dF ja (fun bq=>⟨(hA bq).1,hS _ (hA bq).2⟩) bP (fun i d j c hi hj=>?_) h1 ih;have bq:es≠[]:=by rintro rfl;simp at hi
  exact(hw b (hA bq).2).cell (hc i d j c hi hj)
 |g_ _ ih=>exact .g_ ih
 |@cA d j b off p us hb hp hc h1 _ ih=>
  refine .cA (us:=us) (hS _ hb) hp (fun m c hm=>?_) h1 ih;exact(hw b hb).cell (hc m c hm)
 |fn hl _ ih=>exact .fn hl ih
 |iw hl _ ih=>exact .iw hl ih
 |dB _ ih=>exact .dB ih
theorem br.rC{w:World}{S:Nat->Prop}{sz:Nat}{es:List D}{v:Value}(h:br w S (.g_ sz es) v):br w S (.sl sz es) v:=by cases h;assumption
theorem br.vl{w:World}{S:Nat->Prop}{sz:Nat}{es:List D}{v:Value}(h:br w S (.g_ sz es) v):∃A,v= .slice A es.length es.length:=by
 cases h with
 |g_ h=>cases h with|sl hn=>subst hn;exact⟨_,rfl⟩
theorem br.mono{w w':World}{S S':Nat->Prop}{d:D}{v:Value}(h:br w S d v)(hw:∀b,S b->w'.heap[b]? =w.heap[b]?)(hS:∀b,S b->S' b):br w' S' d v:=
 h.fc (fun b hb=> .of_eq (hw b hb)) hS
inductive aH(w:World)(S:Nat->Prop)(ρ:cM):D->Value->Prop where
 |pure {d:D} {v:Value} (h:br w S d v):aH w S ρ d v
 |loc {t e i j q:Nat} {p:Place} (hp:ρ t e=some p) (hq:q=i * p.sz+j):aH w S ρ (.loc t e i j) (.pointer (some ⟨p.b,q,none⟩))
 |bE {t e sz o n off cap:Nat} {p:Place} (hp:ρ t e=some p) (bP:p.sz=sz) (h0:o=0->off=0/\cap=p.cap) (dQ:0<cap->off=o * sz) (hn:n<=cap) (dF:o+cap<=p.cap/\p.cap<=maxLen):
  aH w S ρ (.bE t e sz o n) (.slice (some ⟨p.b,off,none⟩) n cap)
 |fH {t e i j n off cap:Nat} {p:Place} (hp:ρ t e=some p) (dQ:0<cap->off=i * p.sz+j) (hn:n<=cap) (dF:cap<=65536):aH w S ρ (.fH t e i j n) (.slice (some ⟨p.b,off,none⟩) n cap)
 |omap {t e:Nat} {p:Place} (hp:ρ t e=some p):aH w S ρ (.omap t e) (.map (some p.b))
 |agg {ds:List D} {vs:Array Value} (hl:vs.size=ds.length) (h:∀(i:Nat) d v,ds[i]? =some d->vs[i]? =some v->aH w S ρ d v):aH w S ρ (.agg ds) (.agg vs)
 |aL {ds:List D} {vs:Array Value} (hl:vs.size=ds.length) (h:∀(i:Nat) d v,ds[i]? =some d->vs[i]? =some v->aH w S ρ d v):aH w S ρ (.aL ds) (.tuple vs)
 |fn {f:Fn} {caps:List D} {vs:Array Value} (hl:vs.size=caps.length) (h:∀(i:Nat) d v,caps[i]? =some d->vs[i]? =some v->aH w S ρ d v):aH w S ρ (.fn f caps) (.func f #[] vs)
 |iw {f:FuncId} {caps:List D} {vs:Array Value} (hl:vs.size=caps.length) (h:∀(i:Nat) d v,caps[i]? =some d->vs[i]? =some v->aH w S ρ d v):aH w S ρ (.iw f caps) (.func (.func f) vs #[])
 |dB {t:TypeId} {d:D} {v:Value} (h:aH w S ρ d v):aH w S ρ (.dB t d) (.iface t v)
theorem aH.fc{w w':World}{S S':Nat->Prop}{ρ ρ':cM}{d:D}{v:Value}(h:aH w S ρ d v)(hw:∀b,S b->mJ w w' b)(hS:∀b,S b->S' b)(hρ:∀t e p,ρ t e=some p->ρ' t e=some p):aH w' S' ρ' d v:=by
 induction h with
 |pure h=>exact .pure (h.fc hw hS)
 |loc hp hq=>exact .loc (hρ _ _ _ hp) hq
 |bE hp bP h0 dQ hn dF=>exact .bE (hρ _ _ _ hp) bP h0 dQ hn dF
 |fH hp dQ hn dF=>exact .fH (hρ _ _ _ hp) dQ hn dF
 |omap hp=>exact .omap (hρ _ _ _ hp)
 |agg hl _ ih=>exact .agg hl ih
 |aL hl _ ih=>exact .aL hl ih
 |fn hl _ ih=>exact .fn hl ih
 |iw hl _ ih=>exact .iw hl ih
 |dB _ ih=>exact .dB ih
theorem aH.mono{w w':World}{S S':Nat->Prop}{ρ ρ':cM}{d:D}{v:Value}(h:aH w S ρ d v)(hw:∀b,S b->w'.heap[b]? =w.heap[b]?)(hS:∀b,S b->S' b)(hρ:∀t e p,ρ t e=some p->ρ' t e=some p):aH w' S' ρ' d v:=
 h.fc (fun b hb=> .of_eq (hw b hb)) hS hρ
section
variable {w:World} {S:Nat->Prop} {ρ:cM} {d:D} {v:Value}
theorem aH.one(h:aH w S ρ d v)(ho:d.one=true):v.oneCell'=true:=by
 cases h with
 |pure h=>cases h<;>first|rfl|(simp[D.one]at ho;done)|exact ho
 |agg=>simp[D.one]at ho
 |aL=>simp[D.one]at ho
 |_=>rfl
def MO{v:Value}(h:v.oneCell'=true):v.cells= #[v]:=by cases v<;>first|rfl|(simp[Value.oneCell']at h)
def gh{d:D}(h:d.one=true):d.cells=[d]:=by cases d<;>first|rfl|(simp[D.one]at h)
theorem aH.cells(h:aH w S ρ d v)(ho:d.cells.all D.one=true):v.cells.size=d.cells.length/\∀(j:Nat) c,d.cells[j]? =some c->∃u,v.cells[j]? =some u/\aH w S ρ c u/\u.oneCell'=true:=by
 have agg:∀(ds:List D) (vs:Array Value),vs.size=ds.length->(∀(i:Nat) d v,ds[i]? =some d->vs[i]? =some v->aH w S ρ d v)->ds.all D.one=true->
  (Value.agg vs).cells.size=(D.agg ds).cells.length/\∀(j:Nat) c,(D.agg ds).cells[j]? =some c->∃u,(Value.agg vs).cells[j]? =some u/\aH w S ρ c u/\u.oneCell'=true:=by
  intro ds vs hl h ho;refine⟨hl,fun j c hj=>?_⟩;have pj:j<ds.length:=(gS.1 hj).1;have hv:vs[j]? =some vs[j]:=Array.getElem?_eq_getElem oM;have hr:=h j c _ hj hv;exact⟨_,hv,hr,hr.one (List.all_eq_true.1 ho _ (mG hj))⟩
 have single:d.one=true->d.cells=[d]->v.cells.size=d.cells.length/\∀(j:Nat) c,d.cells[j]? =some c->∃u,v.cells[j]? =some u/\aH w S ρ c u/\u.oneCell'=true:=by
  intro h1 hd;have hv:=MO (h.one h1);rw[hd,hv];refine⟨rfl,fun j c hj=>?_⟩;cases j with
  |zero=>simp at hj;subst hj;exact⟨v,rfl,h,h.one h1⟩
  |succ j=>simp at hj
 cases d with
 |agg ds=>
  cases h with
  |pure h=>cases h with|agg hl h=>exact agg ds _ hl (fun i d v hd hv=> .pure (h i d v hd hv)) ho
  |agg hl h=>exact agg ds _ hl h ho
 |_=>exact single (by simpa[D.cells]using ho) rfl
theorem aH.fy(h:aH w S ρ d v)(hp:d.pure=true):br w S d v:=by
 have inL:∀(ds:List D),D.aF ds=true->∀(i:Nat) d,ds[i]? =some d->d.pure=true:=by
  intro ds;induction ds with
  |nil=>intro _ i d hd;simp at hd
  |cons x xs ih=>
   intro hp i d hd;simp only[D.aF,bA]at hp;cases i with
   |zero=>simp at hd;subst hd;exact hp.1
   |succ i=>exact ih hp.2 i d (by simpa using hd)
 induction h with
 |pure h=>exact h
 |loc=>simp[D.pure]at hp
 |bE=>simp[D.pure]at hp
 |fH=>simp[D.pure]at hp
 |omap=>simp[D.pure]at hp
 |agg hl _ ih=>exact .agg hl fun i d v hd hv=>ih i d v hd hv (inL _ (by simpa only[D.pure]using hp) i d hd)
 |aL hl _ ih=>exact .aL hl fun i d v hd hv=>ih i d v hd hv (inL _ (by simpa only[D.pure]using hp) i d hd)
 |fn hl _ ih=>exact .fn hl fun i d v hd hv=>ih i d v hd hv (inL _ (by simpa only[D.pure]using hp) i d hd)
 |iw hl _ ih=>exact .iw hl fun i d v hd hv=>ih i d v hd hv (inL _ (by simpa only[D.pure]using hp) i d hd)
 |dB _ ih=>exact .dB (ih (by simpa only[D.pure]using hp))
theorem tV:∀(ds:List D),D.aF ds=true->∀d∈ds,d.pure=true
 |[],_,d,hd=>by simp at hd
 |x::xs,hp,d,hd=>by
  simp only[D.aF,bA]at hp;rcases List.mem_cons.1 hd with rfl|hd
  ·exact hp.1
  ·exact tV xs hp.2 d hd
theorem sK{d:D}(h:d.pure=true):∀c∈d.cells,c.pure=true:=by
 intro c hc;cases d with
 |agg ds=>exact tV ds (by simpa only[D.pure]using h) c hc
 |_=>simp only[D.cells,List.mem_singleton]at hc;subst hc;exact h
def mz(v:Value):br w S (AP v) v:=by
 unfold AP;split
 ·exact .int _ _
 ·exact .bool _
 ·rename_i s;exact .str s.data.toList
 ·exact .aq
 ·exact .raw _
def Ea(v:Value):br w S (xM v) v:=by
 unfold xM;split
 ·rename_i cs;refine .agg sI fun i d u hd hu=>?_;simp only[gM,aG,hu,Option.map_some,sJ]at hd;subst hd;exact mz u
 ·exact mz _
theorem aH.ve{d d':D}{v:Value}(hw:bN d d'):br w S d v->br w S d' v:=by
 induction hw generalizing v with
 |refl=>exact id
 |nil sz=>intro h;cases h;exact .sl (b:=0) (off:=0) (us:=fun _ _=>undef) rfl sI (by simp[maxLen]) (fun h=>absurd rfl h) sI sI sI sI
 |aL hl _ ih=>
  intro h;cases h with
  |aL xI h=>
   refine .aL (xI.trans hl) fun i x' v hx hv=>?_;have hi:i<_:=(gS.1 hx).1;exact ih i _ x' (gE (hl▸hi)) hx (h i _ v (gE (hl▸hi)) hv)
 |agg hl _ ih=>
  intro h;cases h with
  |agg xI h=>
   refine .agg (xI.trans hl) fun i x' v hx hv=>?_;have hi:i<_:=(gS.1 hx).1;exact ih i _ x' (gE (hl▸hi)) hx (h i _ v (gE (hl▸hi)) hv)
 |@sl sz ds ds' hl hz _ ih=>
  intro h;cases h with
  |@sl _ _ A n cap b off us hn dF ja hA bP hc h1 hr=>
   have at_:∀(i:Nat) d',ds'[i]? =some d'->∃d,ds[i]? =some d:=fun i d' n_=>by
    have hi:=(gS.1 n_).1;exact⟨_,gE (hl▸hi)⟩
   have cell:∀(i:Nat) d d' (j:Nat) c',ds[i]? =some d->ds'[i]? =some d'->d'.cells[j]? =some c'->∃c,d.cells[j]? =some c:=fun i d d' j c' hd n_ fO=>by
    have hj:=(gS.1 fO).1;exact⟨_,gE (by rw[hz i d d' hd n_];exact hj)⟩
   refine .sl (A:=A) (b:=b) (off:=off) (us:=us) (hn.trans hl) dF ja (fun bq=>hA fun e=>bq (List.eq_nil_of_length_eq_zero (by rw[<-hl,e];rfl))) (fun i d' n_=>?_) (fun i d' j c' n_ fO=>?_) (fun i d' j c' n_ fO=>?_) (fun i d' j c' n_ fO=>?_)
   ·obtain⟨d,hd⟩:=at_ i d' n_;rw[<-hz i d d' hd n_];exact bP i d hd
   ·obtain⟨d,hd⟩:=at_ i d' n_;obtain⟨c,jh⟩:=cell i d d' j c' hd n_ fO;exact hc i d j c hd jh
   ·obtain⟨d,hd⟩:=at_ i d' n_;obtain⟨c,jh⟩:=cell i d d' j c' hd n_ fO;exact h1 i d j c hd jh
   ·obtain⟨d,hd⟩:=at_ i d' n_;obtain⟨c,jh⟩:=cell i d d' j c' hd n_ fO;exact ih i d d' j c c' hd n_ jh fO (hr i d j c hd jh)
end
inductive fT:D->Value->Prop where
 |int (k:IntKind) (n:Int):fT (.int k n) (.int k n)
 |bool (b:Bool):fT (.bool b) (.bool b)
 |str (l:List UInt8):fT (.str l) (.string ⟨l.toArray⟩)
 |raw (x:Value):fT (.raw x) x
 |aq:fT .aq (.slice none 0 0)
 |agg {ds:List D} {vs:Array Value} (hl:vs.size=ds.length) (h:∀(i:Nat) d v,ds[i]? =some d->vs[i]? =some v->fT d v):fT (.agg ds) (.agg vs)
 |fn {f:Fn} {caps:List D} {vs:Array Value} (hl:vs.size=caps.length) (h:∀(i:Nat) d v,caps[i]? =some d->vs[i]? =some v->fT d v):fT (.fn f caps) (.func f #[] vs)
theorem fT.rep{w:World}{S:Nat->Prop}{d:D}{v:Value}(h:fT d v):br w S d v:=by
 induction h with
 |int k n=>exact .int k n
 |bool b=>exact .bool b
 |str l=>exact .str l
 |raw x=>exact .raw x
 |aq=>exact .aq
 |agg hl _ ih=>exact .agg hl ih
 |fn hl _ ih=>exact .fn hl ih
theorem p_:∀(ds:List D),D.pC ds=true->∀(i:Nat) d,ds[i]? =some d->d.simple=true
 |[],_,i,d,hd=>by simp at hd
 |x::xs,hp,i,d,hd=>by
  simp only[D.pC,bA]at hp;cases i with
  |zero=>simp at hd;subst hd;exact hp.1
  |succ i=>exact p_ xs hp.2 i d (by simpa using hd)
theorem br.simple{w:World}{S:Nat->Prop}{d:D}{v:Value}(h:br w S d v)(hs:d.simple=true):fT d v:=by
 induction h with
 |int k n=>exact .int k n
 |bool b=>exact .bool b
 |str l=>exact .str l
 |raw x=>exact .raw x
 |aq=>exact .aq
 |agg hl _ ih=>exact .agg hl fun i d v hd hv=>ih i d v hd hv (p_ _ (by simpa only[D.simple]using hs) i d hd)
 |fn hl _ ih=>exact .fn hl fun i d v hd hv=>ih i d v hd hv (p_ _ (by simpa only[D.simple]using hs) i d hd)
 |_=>simp[D.simple]at hs
theorem aH.simple{w:World}{S:Nat->Prop}{ρ:cM}{d:D}{v:Value}(h:aH w S ρ d v)(hs:d.simple=true):fT d v:=by
 induction h with
 |pure h=>exact h.simple hs
 |agg hl _ ih=>exact .agg hl fun i d v hd hv=>ih i d v hd hv (p_ _ (by simpa only[D.simple]using hs) i d hd)
 |fn hl _ ih=>exact .fn hl fun i d v hd hv=>ih i d v hd hv (p_ _ (by simpa only[D.simple]using hs) i d hd)
 |_=>simp[D.simple]at hs
inductive gf:List D->List MapEntry->Prop where
 |nil:gf [] []
 |cons {k v:D} {e:MapEntry} {ds:List D} {es:List MapEntry} (hk:fT k e.key) (hv:fT v e.val) (t:gf ds es):gf (.aL [k,v,.int .i64 (e.born:Int)]::ds) (e::es)
inductive oq(ρ:cM):Obj->List D->Prop where
 |map {en:Array MapEntry} {clock:Nat} {es:List D} (h:gf es en.toList):oq ρ (.map en clock) (.int .i64 (clock:Int)::es)
 |iter {m k:Nat} {p:Place} {since last:Nat} {seen:Array Nat} (hp:ρ m k=some p):oq ρ (.mapIter (some p.b) since seen last) (.omap m k:: .int .i64 (since:Int):: .int .i64 (last:Int)::seen.toList.map fun n:Nat=> .int .i64 (n:Int))
theorem oq.mono{ρ ρ':cM}{o:Obj}{es:List D}(h:oq ρ o es)(hρ:∀t e p,ρ t e=some p->ρ' t e=some p):oq ρ' o es:=by
 cases h with
 |map h=>exact .map h
 |iter hp=>exact .iter (hρ _ _ _ hp)
def Obj.E1:Obj->Bool
 | .map ..| .mapIter ..=>true
 |_=>false
theorem oq.E1{ρ:cM}{o:Obj}{es:List D}(h:oq ρ o es):Obj.E1 o=true:=by cases h<;>rfl
theorem oq.nk{ρ:cM}{o:Obj}{es:List D}(h:oq ρ o es):Obj.nk o=false/\∀x,o≠ .deferred x:=by
 cases h with
 |map h=>exact⟨rfl,fun _ e=>by cases e⟩
 |iter hp=>exact⟨rfl,fun _ e=>by cases e⟩
structure Holds(w:World)(S:Nat->Prop)(ρ:cM)(p:Place)(es:List D):Prop where
 ex:∃cur,w.heap[p.b]? =some (.cells cur p.ty (0,0))/\cur.size=p.cap * p.sz/\
  ∃us:Nat->Nat->Value,∀(i:Nat) d (j:Nat) c,es[i]? =some d->d.cells[j]? =some c->cur[i * p.sz+j]? =some (us i j)/\aH w S ρ c (us i j)/\(us i j).oneCell'=true
 len:es.length<=p.cap
 max:p.cap<=maxLen
 sz:∀(i:Nat) d,es[i]? =some d->d.cells.length=p.sz
theorem Holds.fc{w w':World}{S S':Nat->Prop}{ρ ρ':cM}{p:Place}{es:List D}(h:Holds w S ρ p es)(hb:mJ w w' p.b)(hw:∀b,S b->mJ w w' b)(hS:∀b,S b->S' b)
 (hρ:∀t e p,ρ t e=some p->ρ' t e=some p):Holds w' S' ρ' p es:=by
 obtain⟨⟨cur,hc,hs,us,hu⟩,hl,hm,hz⟩:=h;exact⟨⟨cur,hb _ hc rfl,hs,us,fun i d j c hi hj=>⟨(hu i d j c hi hj).1,(hu i d j c hi hj).2.1.fc hw hS hρ,(hu i d j c hi hj).2.2⟩⟩,hl,hm,hz⟩
theorem Holds.mono{w w':World}{S S':Nat->Prop}{ρ ρ':cM}{p:Place}{es:List D}(h:Holds w S ρ p es)(hb:w'.heap[p.b]? =w.heap[p.b]?)(hw:∀b,S b->w'.heap[b]? =w.heap[b]?)(hS:∀b,S b->S' b)
 (hρ:∀t e p,ρ t e=some p->ρ' t e=some p):Holds w' S' ρ' p es:=h.fc (.of_eq hb) (fun b hb=> .of_eq (hw b hb)) hS hρ
theorem Holds.cell{w:World}{S:Nat->Prop}{ρ:cM}{p:Place}{es:List D}(h:Holds w S ρ p es){i:Nat}{d:D}{j:Nat}{c:D}(hi:es[i]? =some d)(hj:d.cells[j]? =some c):
 ∃u,w.cell? ⟨p.b,i * p.sz+j,none⟩=some u/\aH w S ρ c u/\u.oneCell'=true:=by
 obtain⟨⟨cur,hc,hs,us,hu⟩,hl,hm,hz⟩:=h;obtain⟨h1,h2,h3⟩:=hu i d j c hi hj;exact⟨us i j,by simp[World.cell?,hc,h1],h2,h3⟩
end Go.V
namespace Go.V
open Go.RowKit
structure Fr(M:Nat->Prop)(w w':World):Prop where
 os:w'.os=w.os
 tape:w'.tape=w.tape
 output:w'.output=w.output
 size:w.heap.size<=w'.heap.size
 block:∀k,k<w.heap.size->¬M k->w'.heap[k]? =w.heap[k]?
theorem Fr.refl(M:Nat->Prop)(w:World):Fr M w w:=⟨rfl,rfl,rfl,Nat.le_refl _,fun _ _ _=>rfl⟩
theorem Fr.step{M M':Nat->Prop}{a b c:World}(h:Fr M a b)(k:Fr M' b c)(hM:∀n,n<a.heap.size->M' n->M n):Fr M a c:=
 ⟨k.os.trans h.os,k.tape.trans h.tape,k.output.trans h.output,Nat.le_trans h.size k.size,fun i hi hm=>(k.block i (Nat.lt_of_lt_of_le hi h.size) (fun tB=>hm (hM i hi tB))).trans (h.block i hi hm)⟩
theorem Fr.tR{M:Nat->Prop}{w w':World}(h:Below w.heap.size w w'):Fr M w w':=⟨h.os,h.tape,h.output,h.size,fun k hk _=>h.block k hk⟩
theorem Fr.alloc(M:Nat->Prop)(w:World)(o:Obj):Fr M w (w.alloc o):=.tR ((Below.refl _ _).alloc (Nat.le_refl _) o)
theorem Fr.HG{w w':World}{row:Option Nat}(h:w.grownBy w' row):Fr (fun b=>some b=row) w w':=⟨h.os,h.tape,h.output,h.size,fun k hk hm=>h.block k hk hm⟩
structure Ctx where
 w0:World
 S0:Nat->Prop
 n0:Nat
 M:Nat->Prop
 E:Nat->Prop
 N:Nat
 r0:cM
 ml:Nat
 lo:Nat
 Y:ae->(Nat->Option Obj)->Prop
 md:Nat
def kx{n:Nat}{bx bx':ae}(h:∀s,s<n->bx' s=bx s):bU n bx'=bU n bx:=by
 funext s;unfold bU;by_cases hs:s<n
 ·simp[hs,h s hs]
 ·simp[hs]
def ic(r:Nat):Deferred:={target:=.collected r,args:= #[]}
def az(X:Ctx)(ρ:cM)(bx:ae)(w:World)(b:Nat):Prop:=
 b<w.heap.size/\(X.S0 b\/X.n0<=b)/\∀t,(bx t).k=1->∀p,ρ t (bx t).ep=some p->p.b≠b
def pY:D->List D
 | .any l=>l
 |_=>[]
inductive Defs(w:World)(S:Nat->Prop)(ρ:cM)(m:Nat):List D->List Deferred->Prop where
 |nil:Defs w S ρ m [] []
 |mark {l:List D} {r:Nat} {ds:List Deferred} (h:ρ.hold r=some (.deferred (some []))) (hm:m<=r) (hn:ic r∉ds) (t:Defs w S ρ m l ds):Defs w S ρ m l (ic r::ds)
 |call {f:FuncId} {caps args l:List D} {vc va:Array Value} {ds:List Deferred} (hc:vc.size=caps.length) (xF:∀(i:Nat) d v,caps[i]? =some d->vc[i]? =some v->aH w S ρ d v)
  (ha:va.size=args.length) (har:∀(i:Nat) d v,args[i]? =some d->va[i]? =some v->aH w S ρ d v) (t:Defs w S ρ m l ds):Defs w S ρ m (.aL (.fn (.func f) caps::args)::l) ({target:=.fn (.func f) vc,args:=va}::ds)
def Mk(w:World)(S:Nat->Prop)(ρ:cM)(md ml:Nat)(d:D)(ds:List Deferred):Prop:=md=1\/(Defs w S ρ ml (if md=0 then[]else pY d) ds/\(md=3->ds=[]))
theorem Defs.fc{w w':World}{S S':Nat->Prop}{ρ ρ':cM}{m:Nat}{l:List D}{ds:List Deferred}(h:Defs w S ρ m l ds)(hw:∀b,S b->mJ w w' b)(hS:∀b,S b->S' b)(hρ:∀t e p,ρ t e=some p->ρ' t e=some p)
 (hh:∀r,ic r∈ds->ρ.hold r=some (.deferred (some []))->ρ'.hold r=some (.deferred (some []))):Defs w' S' ρ' m l ds:=by
 induction h with
 |nil=>exact .nil
 |mark h hm hn _ ih=>exact .mark (hh _ (List.mem_cons_self ..) h) hm hn (ih fun r hr=>hh r (List.mem_cons_of_mem _ hr))
 |call hc xF ha har _ ih=>exact .call hc (fun i d v hd hv=>(xF i d v hd hv).fc hw hS hρ) ha (fun i d v hd hv=>(har i d v hd hv).fc hw hS hρ) (ih fun r hr=>hh r (List.mem_cons_of_mem _ hr))
theorem Mk.fc{w w':World}{S S':Nat->Prop}{ρ ρ':cM}{md m:Nat}{l:D}{ds:List Deferred}(h:Mk w S ρ md m l ds)(hw:∀b,S b->mJ w w' b)(hS:∀b,S b->S' b)(hρ:∀t e p,ρ t e=some p->ρ' t e=some p)
 (hh:∀r,ic r∈ds->ρ.hold r=some (.deferred (some []))->ρ'.hold r=some (.deferred (some []))):Mk w' S' ρ' md m l ds:=h.imp id fun h=>⟨h.1.fc hw hS hρ hh,h.2⟩
theorem Mk.mono{w w':World}{S S':Nat->Prop}{ρ ρ':cM}{md m:Nat}{l:D}{ds:List Deferred}(h:Mk w S ρ md m l ds)(hw:∀b,S b->w'.heap[b]? =w.heap[b]?)(hS:∀b,S b->S' b)(hρ:∀t e p,ρ t e=some p->ρ' t e=some p)
 (hh:∀r,ρ.hold r=some (.deferred (some []))->ρ'.hold r=some (.deferred (some []))):Mk w' S' ρ' md m l ds:=h.fc (fun b hb=> .of_eq (hw b hb)) hS hρ fun r _=>hh r
theorem Mk.nil{w:World}{S:Nat->Prop}{ρ:cM}{md m:Nat}{l:D}(h:md=0\/md=1\/pY l=[]):Mk w S ρ md m l []:=by
 rcases h with h|h|h
 ·exact .inr ⟨by rw[if_pos h];exact .nil,fun _=>rfl⟩
 ·exact .inl h
 ·exact .inr ⟨by rw[h,ite_self];exact .nil,fun _=>rfl⟩
structure Maps(X:Ctx)(ρ:cM)(bx:ae):Prop where
 has:∀t,(bx t).k=3->∃p o,ρ t (bx t).ep=some p/\ρ.hold p.b=some o/\(X.E p.b\/X.w0.heap.size<=p.b)/\oq ρ o (bx t).es
 inj:∀t t' p p',(bx t).k=3->(bx t').k=3->t≠t'->ρ t (bx t).ep=some p->ρ t' (bx t').ep=some p'->p.b≠p'.b
theorem Maps.of{X X':Ctx}{ρ ρ':cM}{bx bx':ae}(h:Maps X ρ bx)(hb:∀t,(bx' t).k=3->(bx t).k=3/\(bx' t).ep=(bx t).ep/\(bx' t).es=(bx t).es)(hρ:∀t e p,ρ t e=some p->ρ' t e=some p)
 (hh:∀t p o,(bx t).k=3->ρ t (bx t).ep=some p->ρ.hold p.b=some o->ρ'.hold p.b=some o) (hX:∀b,X.E b\/X.w0.heap.size<=b->X'.E b\/X'.w0.heap.size<=b):Maps X' ρ' bx':=by
 refine⟨fun t ht=>?_,fun t t' p p' ht oG hn hp bJ=>?_⟩
 ·obtain⟨h1,h2,h3⟩:=hb t ht;obtain⟨p,o,g1,g2,g3,g4⟩:=h.has t h1;exact⟨p,o,by rw[h2];exact hρ _ _ _ g1,hh t p o h1 g1 g2,hX _ g3,by rw[h3];exact g4.mono hρ⟩
 ·obtain⟨h1,h2,_⟩:=hb t ht;obtain⟨k1,k2,_⟩:=hb t' oG;obtain⟨q,o,g1,_⟩:=h.has t h1;obtain⟨q',o',g1',_⟩:=h.has t' k1;rw[h2,hρ _ _ _ g1]at hp;rw[k2,hρ _ _ _ g1']at bJ;injection hp with hp;injection bJ with bJ;subst hp;subst bJ;exact h.inj t t' q q' h1 k1 hn g1 g1'
structure aA(X:Ctx)(ρ:cM)(σ:Env)(bx:ae)(a:Act)(w:World):Prop where
 fr:Fr (fun b=>X.M b\/X.E b) X.w0 w
 s0:∀b,X.S0 b->b<X.n0
 nb:X.n0<=X.w0.heap.size
 mb:∀b,X.M b->X.n0<=b
 ec:∀b,X.E b->∀o,X.w0.heap[b]? =some o->Obj.nk o=false
 size:a.tmps.size=X.N
 marks:Mk w (az X ρ bx w) ρ X.md X.ml (σ ed) a.defers
 pU:X.N<=ed
 rA:X.ml<=X.w0.heap.size
 tmps:∀t,aH w (az X ρ bx w) ρ (σ t) (a.tmps.getD t undef)
 fI:aH w (az X ρ bx w) ρ .fI undef
 box:∀t,lv (bx t).k->∃p,ρ t (bx t).ep=some p/\p.sz=(bx t).sz/\p.ty=(bx t).ty/\(X.n0<=p.b/\((bx t).k=1->X.w0.heap.size<=p.b\/X.M p.b))/\Holds w (az X ρ bx w) ρ p (bx t).es
 inj:∀t t' p p',(bx t).k=1->lv (bx t').k->t≠t'->ρ t (bx t).ep=some p->ρ t' (bx t').ep=some p'->p.b≠p'.b
 n9:∀t e p,ρ t e=some p->e<=(bx t).ep
 r0:∀t e p,X.r0 t e=some p->ρ t e=some p
 hold:∀b o,ρ.hold b=some o->w.heap[b]? =some o/\Obj.nk o=false
 gy:∀b o,X.r0.hold b=some o->¬X.E b->ρ.hold b=some o
 yc:∀c h h',X.Y c h->(∀b o,h b=some o->h' b=some o)->X.Y c h'
 inv:X.Y (bU X.lo bx) ρ.hold
 y0:X.lo=0->∀c h,X.Y c h
 kf:∀b o,X.r0.hold b=some o->b<X.w0.heap.size
 maps:Maps X ρ bx
variable {X:Ctx} {ρ:cM} {σ:Env} {bx:ae} {a:Act} {w:World}
theorem Holds.nk{S:Nat->Prop}{p:Place}{es:List D}(h:Holds w S ρ p es):∃o,w.heap[p.b]? =some o/\Obj.nk o=true:=by
 obtain⟨⟨cur,hc,_⟩,_⟩:=h;exact⟨_,hc,rfl⟩
theorem Holds.lt{S:Nat->Prop}{p:Place}{es:List D}(h:Holds w S ρ p es):p.b<w.heap.size:=by
 obtain⟨⟨cur,hc,_⟩,_⟩:=h;exact(Array.getElem?_eq_some_iff.1 hc).1
theorem aA.ext{w':World}(h:aA X ρ σ bx a w)(hb:Below w.heap.size w w'):aA X ρ σ bx a w':=by
 have hS:∀b,az X ρ bx w b->az X ρ bx w' b:=fun b eg=>⟨Nat.lt_of_lt_of_le eg.1 hb.size,eg.2⟩
 have hw:∀b,az X ρ bx w b->w'.heap[b]? =w.heap[b]?:=fun b eg=>hb.block b eg.1;exact⟨h.fr.step (Fr.tR (M:=fun _=>False) hb) (fun _ _ h=>h.elim),h.s0,h.nb,h.mb,h.ec,h.size,h.marks.mono hw hS (fun _ _ _ h=>h) (fun _ h=>h),h.pU,h.rA,fun t=>(h.tmps t).mono hw hS (fun _ _ _ h=>h),h.fI.mono hw hS (fun _ _ _ h=>h),
  fun t ht=>let ⟨p,h1,h2,h3,h4,h5⟩:=h.box t ht;⟨p,h1,h2,h3,h4,h5.mono (hb.block _ h5.lt) hw hS (fun _ _ _ h=>h)⟩,h.inj,h.n9,h.r0,
  fun b o ho=>⟨(hb.block b (Array.getElem?_eq_some_iff.1 (h.hold b o ho).1).1).trans (h.hold b o ho).1,(h.hold b o ho).2⟩,h.gy,h.yc,h.inv,h.y0,h.kf,h.maps⟩
theorem aA.put{dst:Option Tmp}{d:D}{v:Value}(h:aA X ρ σ bx a w)(hd:∀t,dst=some t->t<X.N)(hr:aH w (az X ρ bx w) ρ d v):aA X ρ (put σ dst d) bx (a.put dst v) w:=by
 cases dst with
 |none=>exact h
 |some t=>
  have ht:=hd t rfl;have nf:ed≠t:=by
   intro e;exact absurd (hd t rfl) (by rw[<-e];exact Nat.not_lt.2 h.pU)
  refine⟨h.fr,h.s0,h.nb,h.mb,h.ec,by simp[Act.put,h.size],by simpa[Act.put,V.put,ak,nf]using h.marks,h.pU,h.rA,fun x=>?_,h.fI,h.box,h.inj,h.n9,h.r0,h.hold,h.gy,h.yc,h.inv,h.y0,h.kf,h.maps⟩;simp only[V.put,ak,Act.put];by_cases hx:x=t
  ·subst hx;simp only[if_true];have:(a.tmps.setIfInBounds x v).getD x undef=v:=by simp[Array.getD,h.size,ht]
   rw[this];exact hr
  ·simp only[hx,if_false];have:(a.tmps.setIfInBounds t v).getD x undef=a.tmps.getD x undef:=by simp only[Array.getD_eq_getD_getElem?,Array.getElem?_setIfInBounds_ne (Ne.symm hx)]
   rw[this];exact h.tmps x
theorem aA.ev(h:aA X ρ σ bx a w)(x:Operand):aH w (az X ρ bx w) ρ (ev σ x) (a.eval x):=by
 cases x with
 |tmp t=>exact h.tmps t
 |const v=>exact .pure (Ea v)
 |global g=>
  show aH w (az X ρ bx w) ρ (evG g (Bc g)) (.pointer (some ⟨g,0,none⟩));cases hg:Bc g with
  |none=>exact .pure (.raw _)
  |some d=>
   have h:=h.fI.fy rfl;cases h with
   |fI _ h _=>exact .pure (h g d hg)
 |func f=>exact .pure (.fn rfl sI)
theorem aA.own{w':World}{t:Nat}{p:Place}{es:List D}{bx1:ae}(h:aA X ρ σ bx a w)
 (bF:X.lo<=t) (h1:∀s,bx1 s=bx s\/((bx1 s).k=0/\(bx1 s).ep=(bx s).ep/\X.lo<=s)) {Old:Nat->Prop} (hg:Fr Old w w')
 (hO:∀b,Old b->∃t0 p0,(bx t0).k=1/\ρ t0 (bx t0).ep=some p0/\p0.b=b/\(t0=t\/(bx1 t0).k=0)) (hp:w.heap.size<=p.b\/Old p.b)
 (hh:∀S' ρ',(∀b,az X ρ bx w b->S' b)->(∀s e q,ρ s e=some q->ρ' s e=some q)->Holds w' S' ρ' p es):
 aA X ⟨fun s e=>if s=t/\e=(bx t).ep+1 then some p else ρ s e,ρ.hold⟩ σ (ak bx1 t ⟨(bx t).ep+1,1,p.sz,p.ty,es⟩) a w':=by
 have hnO:∀b,az X ρ bx w b->¬Old b:=by
  intro b hb e;obtain⟨t0,p0,hk,hr,gJ,_⟩:=hO b e;exact hb.2.2 t0 hk p0 hr gJ
 have bq:∀b,az X ρ bx w b->b≠p.b:=by
  intro b hb e;rcases hp with hp|hp
  ·have:=hb.1;omega
  ·exact hnO b hb (e▸hp)
 have hρ:∀s e q,ρ s e=some q->(if s=t/\e=(bx t).ep+1 then some p else ρ s e)=some q:=by
  intro s e q hq;rw[if_neg]
  ·exact hq
  ·rintro⟨rfl,rfl⟩;have:=h.n9 _ _ _ hq;omega
 have hw:∀b,az X ρ bx w b->w'.heap[b]? =w.heap[b]?:=fun b hb=>hg.block b hb.1 (hnO b hb);have live:∀s,s≠t->lv (ak bx1 t ⟨(bx t).ep+1,1,p.sz,p.ty,es⟩ s).k->ak bx1 t ⟨(bx t).ep+1,1,p.sz,p.ty,es⟩ s=bx s:=by
  intro s hs hk;simp only[ak,hs,if_false]at hk⊢;rcases h1 s with e|⟨e,_⟩
  ·exact e
  ·exact absurd e hk.1
 have hS:∀b,az X ρ bx w b->az X ⟨fun s e=>if s=t/\e=(bx t).ep+1 then some p else ρ s e,ρ.hold⟩ (ak bx1 t ⟨(bx t).ep+1,1,p.sz,p.ty,es⟩) w' b:=by
  intro b hb;refine⟨Nat.lt_of_lt_of_le hb.1 hg.size,hb.2.1,fun s hs q hq=>?_⟩;by_cases bw:s=t
  ·subst bw;simp only[ak,if_true,and_self]at hq;injection hq with hq;subst hq;exact(bq b hb).symm
  ·have hl:=live s bw (by rw[hs];decide);rw[hl]at hs hq;simp only[bw,false_and,if_false]at hq;exact hb.2.2 s hs q hq
 have hOM:∀b,Old b->X.w0.heap.size<=b\/X.M b:=by
  intro b hb;obtain⟨t0,p0,hk,hr,gJ,_⟩:=hO b hb;obtain⟨p1,oe,_,_,hb,_⟩:=h.box t0 (by rw[hk];decide);rw[hr]at oe;injection oe with oe;subst oe;rw[gJ]at hb;exact hb.2 hk
 have hOC:∀b o,Old b->w.heap[b]? =some o->Obj.nk o=true:=by
  intro b o hb ho;obtain⟨t0,p0,hk,hr,gJ,_⟩:=hO b hb;obtain⟨p1,oe,_,_,_,hh⟩:=h.box t0 (by rw[hk];decide);rw[hr]at oe;injection oe with oe;subst oe;obtain⟨o',jM,hc⟩:=hh.nk;rw[gJ,ho]at jM;injection jM with jM;subst jM;exact hc
 have gJ:X.w0.heap.size<=p.b\/X.M p.b:=by
  rcases hp with hp|hp
  ·exact .inl (Nat.le_trans h.fr.size hp)
  ·exact hOM _ hp
 have otherO:∀s q,s≠t->lv (bx s).k->ak bx1 t ⟨(bx t).ep+1,1,p.sz,p.ty,es⟩ s=bx s->ρ s (bx s).ep=some q->¬Old q.b:=by
  intro s q bw hk hl hq e;obtain⟨t0,p0,iz,oF,aen,h0⟩:=hO _ e;by_cases NP:s=t0
  ·subst NP;rcases h0 with h0|h0
   ·exact bw h0
   ·simp only[ak,bw,if_false]at hl;rw[hl]at h0;exact hk.1 h0
  ·exact h.inj t0 s p0 q iz hk (Ne.symm NP) oF hq aen
 have other:∀s q,s≠t->lv (bx s).k->ak bx1 t ⟨(bx t).ep+1,1,p.sz,p.ty,es⟩ s=bx s->ρ s (bx s).ep=some q->q.b≠p.b:=by
  intro s q bw hk hl hq e;rcases hp with hp|hp
  ·obtain⟨q',jG,_,_,_,JM⟩:=h.box s hk;rw[hq]at jG;injection jG with jG;subst jG;have:=JM.lt;omega
  ·exact otherO s q bw hk hl hq (e▸hp)
 refine⟨h.fr.step hg (fun n hn hm=>?_),h.s0,h.nb,h.mb,h.ec,h.size,h.marks.mono hw hS hρ (fun _ h=>h),h.pU,h.rA,fun x=>(h.tmps x).mono hw hS hρ,h.fI.mono hw hS hρ,fun s hs=>?_,fun s s' q q' hs dW sd hq jG=>?_,fun s e q hq=>?_,fun s e q hq=>hρ s e q (h.r0 s e q hq),fun b o ho=>?_,h.gy,h.yc,?_,h.y0,h.kf,h.maps.of (fun s hs=>?_) hρ (fun _ _ _ _ _ h=>h) (fun _ h=>h)⟩
 ·rcases hOM n hm with gJ|gJ
  ·omega
  ·exact .inl gJ
 ·by_cases bw:s=t
  ·subst bw;simp only[ak,if_true];exact⟨p,by simp,rfl,rfl,⟨gJ.elim (fun h'=>Nat.le_trans h.nb h') (h.mb _),fun _=>gJ⟩,hh _ _ hS hρ⟩
  ·have hl:=live s bw hs;rw[hl]at hs⊢;obtain⟨q,hq,h2,h3,h4,h5⟩:=h.box s hs;refine⟨q,by simp only[bw,false_and,if_false];exact hq,h2,h3,h4,h5.mono (hg.block _ h5.lt (otherO s q bw hs hl hq)) hw hS hρ⟩
 ·by_cases bw:s=t
  ·subst bw;simp only[ak,if_true,and_self]at hq;injection hq with hq;subst hq;have hl:=live s' (Ne.symm sd) dW;rw[hl]at dW jG;simp only[Ne.symm sd,false_and,if_false]at jG;exact(other s' q' (Ne.symm sd) dW hl jG).symm
  ·have hl:=live s bw (by rw[hs];decide);rw[hl]at hs hq;simp only[bw,false_and,if_false]at hq;by_cases Ql:s'=t
   ·subst Ql;simp only[ak,if_true,and_self]at jG;injection jG with jG;subst jG;exact other s q bw (by rw[hs];decide) hl hq
   ·have xI:=live s' Ql dW;rw[xI]at dW jG;simp only[Ql,false_and,if_false]at jG;exact h.inj s s' q q' hs dW sd hq jG
 ·by_cases bw:s=t
  ·subst bw;simp only[ak,if_true];by_cases he:e=(bx s).ep+1
   ·omega
   ·simp only[he,and_false,if_false]at hq;have:=h.n9 _ _ _ hq;omega
  ·simp only[bw,false_and,if_false]at hq;have:=h.n9 _ _ _ hq;simp only[ak,bw,if_false];rcases h1 s with e1|⟨_,e1,_⟩
   ·rw[e1];exact this
   ·rw[e1];exact this
 ·obtain⟨g1,g2⟩:=h.hold b o ho;refine⟨(hg.block b (Array.getElem?_eq_some_iff.1 g1).1 (fun hb=>?_)).trans g1,g2⟩;have:=hOC b o hb g1;rw[g2]at this;cases this
 ·rw[kx (bx:=bx) (fun s hs=>?_)]
  ·exact h.inv
  ·have:s≠t:=oM;simp only[ak,this,if_false];rcases h1 s with e1|⟨_,_,e1⟩
   ·exact e1
   ·omega
 ·by_cases bw:s=t
  ·subst bw;simp[ak]at hs
  ·simp only[ak,bw,if_false]at hs⊢;rcases h1 s with e1|⟨e1,_⟩
   ·rw[e1]at hs⊢;exact⟨hs,rfl,rfl⟩
   ·rw[e1]at hs;cases hs
theorem aA.stored{w':World}{t:Nat}{p:Place}{es:List D}(h:aA X ρ σ bx a w)(bF:X.lo<=t)(hk:(bx t).k=1)(hr:ρ t (bx t).ep=some p)(hg:Fr (fun b=>b=p.b) w w')
 (hh:Holds w' (az X ρ bx w) ρ p es):aA X ρ σ (ak bx t {bx t with es:=es}) a w':=by
 have cT:∀s,(ak bx t {bx t with es:=es} s).k=(bx s).k:=fun s=>by by_cases hs:s=t<;>simp[ak,hs]
 have G1:∀s,(ak bx t {bx t with es:=es} s).ep=(bx s).ep:=fun s=>by by_cases hs:s=t<;>simp[ak,hs]
 have bq:∀b,az X ρ bx w b->b≠p.b:=fun b hb e=>hb.2.2 t hk p hr e.symm;have hw:∀b,az X ρ bx w b->w'.heap[b]? =w.heap[b]?:=fun b hb=>hg.block b hb.1 (bq b hb);have hS:∀b,az X ρ bx w b->az X ρ (ak bx t {bx t with es:=es}) w' b:=fun b hb=>⟨Nat.lt_of_lt_of_le hb.1 hg.size,hb.2.1,fun s hs q hq=>by rw[cT]at hs;rw[G1]at hq;exact hb.2.2 s hs q hq⟩
 obtain⟨p0,oF,JZ,ht0,qi,hh0⟩:=h.box t (by rw[hk];decide);rw[hr]at oF;injection oF with oF;subst oF;refine⟨h.fr.step hg (fun n hn hm=>?_),h.s0,h.nb,h.mb,h.ec,h.size,h.marks.mono hw hS (fun _ _ _ h=>h) (fun _ h=>h),h.pU,h.rA,fun x=>(h.tmps x).mono hw hS (fun _ _ _ h=>h),h.fI.mono hw hS (fun _ _ _ h=>h),fun s hs=>?_,fun s s' q q' hs dW sd hq jG=>?_,fun s e q hq=>by rw[G1];exact h.n9 s e q hq,h.r0,fun b o ho=>?_,h.gy,h.yc,?_,h.y0,h.kf,h.maps.of (fun s hs=>?_) (fun _ _ _ h=>h) (fun _ _ _ _ _ h=>h) (fun _ h=>h)⟩
 ·subst hm;rcases qi.2 hk with qi|qi
  ·omega
  ·exact .inl qi
 ·by_cases bw:s=t
  ·subst bw;simp only[ak,if_true];exact⟨p,hr,JZ,ht0,⟨qi.1,qi.2⟩,hh.mono rfl (fun _ _=>rfl) hS (fun _ _ _ h=>h)⟩
  ·rw[cT]at hs;obtain⟨q,hq,h2,h3,h4,h5⟩:=h.box s hs;simp only[ak,bw,if_false];exact⟨q,hq,h2,h3,h4,h5.mono (hg.block _ h5.lt (h.inj t s p q hk hs (Ne.symm bw) hr hq).symm) hw hS (fun _ _ _ h=>h)⟩
 ·rw[cT]at hs dW;rw[G1]at hq jG;exact h.inj s s' q q' hs dW sd hq jG
 ·obtain⟨g1,g2⟩:=h.hold b o ho;refine⟨(hg.block b (Array.getElem?_eq_some_iff.1 g1).1 (fun hb=>?_)).trans g1,g2⟩;obtain⟨o',jM,hc⟩:=hh0.nk;rw[<-hb,g1]at jM;injection jM with jM;subst jM;rw[g2]at hc;cases hc
 ·rw[kx (bx:=bx) (fun s hs=>?_)]
  ·exact h.inv
  ·have:s≠t:=oM;simp[ak,this]
 ·by_cases bw:s=t
  ·subst bw;rw[cT,hk]at hs;cases hs
  ·simp only[ak,bw,if_false]at hs⊢;exact⟨hs,trivial,trivial⟩
theorem aA.less{bx':ae}(h:aA X ρ σ bx a w)(hl:∀s,(bx' s)=bx s\/(X.lo<=s/\(bx' s).k≠1/\(bx' s).ep=(bx s).ep/\(lv (bx' s).k->lv (bx s).k/\(bx' s).sz=(bx s).sz/\(bx' s).ty=(bx s).ty/\(bx' s).es=(bx s).es)/\((bx' s).k=3->(bx s).k=3/\(bx' s).es=(bx s).es))):aA X ρ σ bx' a w:=by
 have he:∀s,(bx' s).ep=(bx s).ep:=fun s=>by
  rcases hl s with e|e
  ·rw[e]
  ·exact e.2.2.1
 have h1:∀s,(bx' s).k=1->(bx s).k=1:=fun s hs=>by
  rcases hl s with e|e
  ·rw[e]at hs;exact hs
  ·exact absurd hs e.2.1
 have h0:∀s,lv (bx' s).k->lv (bx s).k/\(bx' s).sz=(bx s).sz/\(bx' s).ty=(bx s).ty/\(bx' s).es=(bx s).es:=fun s hs=>by
  rcases hl s with e|e
  ·rw[e]at hs⊢;exact⟨hs,rfl,rfl,rfl⟩
  ·exact e.2.2.2.1 hs
 have hS:∀b,az X ρ bx w b->az X ρ bx' w b:=fun b hb=>⟨hb.1,hb.2.1,fun s hs q hq=>by rw[he]at hq;exact hb.2.2 s (h1 s hs) q hq⟩
 refine⟨h.fr,h.s0,h.nb,h.mb,h.ec,h.size,h.marks.mono (fun _ _=>rfl) hS (fun _ _ _ h=>h) (fun _ h=>h),h.pU,h.rA,fun x=>(h.tmps x).mono (fun _ _=>rfl) hS (fun _ _ _ h=>h),h.fI.mono (fun _ _=>rfl) hS (fun _ _ _ h=>h),fun s hs=>?_,fun s s' q q' hs dW sd hq jG=>?_,fun s e q hq=>by rw[he];exact h.n9 s e q hq,h.r0,h.hold,h.gy,h.yc,?_,h.y0,h.kf,h.maps.of (fun s hs=>?_) (fun _ _ _ h=>h) (fun _ _ _ _ _ h=>h) (fun _ h=>h)⟩
 ·obtain⟨g1,g2,g3,g4⟩:=h0 s hs;obtain⟨q,hq,k2,k3,k4,k5⟩:=h.box s g1;exact⟨q,by rw[he];exact hq,by rw[g2];exact k2,by rw[g3];exact k3,⟨k4.1,fun hk=>k4.2 (h1 s hk)⟩,by rw[g4];exact k5.mono rfl (fun _ _=>rfl) hS (fun _ _ _ h=>h)⟩
 ·rw[he]at hq jG;exact h.inj s s' q q' (h1 s hs) (h0 s' dW).1 sd hq jG
 ·rw[kx (bx:=bx) (fun s hs=>?_)]
  ·exact h.inv
  ·rcases hl s with e1|⟨e1,_⟩
   ·exact e1
   ·omega
 ·rcases hl s with e|e
  ·rw[e]at hs⊢;exact⟨hs,rfl,rfl⟩
  ·exact⟨(e.2.2.2.2 hs).1,e.2.2.1,(e.2.2.2.2 hs).2⟩
def Bj(ρ:cM)(bx:ae)(b:Nat):Prop:=∃t p,(bx t).k=3/\ρ t (bx t).ep=some p/\p.b=b
def Ctx.sub(X:Ctx)(ρ:cM)(bx:ae)(w:World)(E:Nat->Prop)(N ml md:Nat):Ctx:=
 {w0:=w,S0:=X.S0,n0:=X.n0,M:=fun b=>∃t p,(bx t).k=1/\ρ t (bx t).ep=some p/\p.b=b,E:=fun b=>E b\/Bj ρ bx b,N:=N,r0:=ρ,ml:=ml,lo:=0,Y:=fun _ _=>True,md:=md}
theorem aA.HA(h:aA X ρ σ bx a w){b:Nat}{o:Obj}(hb:ρ.hold b=some o)(hn:Obj.E1 o=false):¬Bj ρ bx b:=by
 rintro⟨t,p,h1,h2,rfl⟩;obtain⟨q,o',g1,g2,_,g4⟩:=h.maps.has t h1;rw[h2]at g1;injection g1 with g1;subst g1;rw[hb]at g2;injection g2 with g2;subst g2;rw[g4.E1]at hn;cases hn
theorem aA.sub(h:aA X ρ σ bx a w){E:Nat->Prop}{N ml md:Nat}{σ':Env}{a':Act}(hN:N<=ed)(hE:∀b,E b->∀o,w.heap[b]? =some o->Obj.nk o=false)(hs:a'.tmps.size=N)(hm:Mk w (az X ρ bx w) ρ md ml (σ' ed) a'.defers)(RX:ml<=w.heap.size)
 (ht:∀t,aH w (az X ρ bx w) ρ (σ' t) (a'.tmps.getD t undef)):aA (X.sub ρ bx w E N ml md) ρ σ' bx a' w:=by
 have Cw:∀b,E b\/Bj ρ bx b->∀o,w.heap[b]? =some o->Obj.nk o=false:=fun b hb o ho=>by
  rcases hb with hb|⟨t,p,h1,h2,rfl⟩
  ·exact hE b hb o ho
  ·obtain⟨q,o',g1,g2,_,g4⟩:=h.maps.has t h1;rw[h2]at g1;injection g1 with g1;subst g1;have:=(h.hold _ _ g2).1;rw[ho]at this;injection this with this;subst this;exact g4.nk.1
 refine⟨.refl _ _,h.s0,Nat.le_trans h.nb h.fr.size,?_,Cw,hs,hm,hN,RX,ht,h.fI,fun t hk=>?_,h.inj,h.n9,fun _ _ _ h=>h,h.hold,fun _ _ h _=>h,fun _ _ _ _ _=>trivial,trivial,fun _ _ _=>trivial,fun b o ho=>(Array.getElem?_eq_some_iff.1 (h.hold b o ho).1).1,⟨fun t ht=>let ⟨p,o,g1,g2,_,g4⟩:=h.maps.has t ht;⟨p,o,g1,g2,.inl (.inr ⟨t,p,ht,g1,rfl⟩),g4⟩,h.maps.inj⟩⟩
 ·rintro b ⟨t,p,hk,hp,rfl⟩;obtain⟨p',bJ,_,_,hb,_⟩:=h.box t (by rw[hk];decide);rw[hp]at bJ;injection bJ with bJ;subst bJ;exact hb.1
 ·obtain⟨p,hp,h2,h3,hb,hh⟩:=h.box t hk;exact⟨p,hp,h2,h3,⟨hb.1,fun ji=> .inr ⟨t,p,ji,hp,rfl⟩⟩,hh⟩
theorem aA.back{X':Ctx}{ρ2:cM}{σ':Env}{bK:ae}{a':Act}{w2:World}{E:Nat->Prop}{N ml md:Nat}(h:aA X' ρ σ bx a w)(hS:X'.S0=X.S0)(hn:X'.n0=X.n0)(k:aA (X.sub ρ bx w E N ml md) ρ2 σ' bK a' w2)
 (hE:∀b,E b->X'.E b\/X'.w0.heap.size<=b) (hd:∀b,E b->ρ.hold b≠some (.deferred (some []))) (h0:∀b,E b->X'.r0.hold b=none\/X'.E b) (hY:X'.Y (bU X'.lo bK) ρ2.hold):aA X' ρ2 σ bK a w2:=by
 have bw:∀ρ' bx' w',az X' ρ' bx' w'=az (X.sub ρ bx w E N ml md) ρ' bx' w':=fun ρ' bx' w'=>by funext b;simp only[az,Ctx.sub,hS,hn]
 have Cw:∀b,E b\/Bj ρ bx b->X'.E b\/X'.w0.heap.size<=b:=fun b hb=>by
  rcases hb with hb|⟨t,p,h1,h2,rfl⟩
  ·exact hE b hb
  ·obtain⟨q,o',g1,g2,g3,g4⟩:=h.maps.has t h1;rw[h2]at g1;injection g1 with g1;subst g1;exact g3
 have n_:∀b,E b\/Bj ρ bx b->ρ.hold b≠some (.deferred (some [])):=fun b hb=>by
  rcases hb with hb|⟨t,p,h1,h2,rfl⟩
  ·exact hd b hb
  ·obtain⟨q,o',g1,g2,g3,g4⟩:=h.maps.has t h1;rw[h2]at g1;injection g1 with g1;subst g1;rw[g2];intro e;injection e with e;exact g4.nk.2 _ e
 have JC:∀b,E b\/Bj ρ bx b->X'.r0.hold b=none\/X'.E b:=fun b hb=>by
  rcases hb with hb|hb
  ·exact h0 b hb
  ·rcases Cw b (.inr hb)with g|g
   ·exact .inr g
   ·left;cases ho:X'.r0.hold b with
    |none=>rfl
    |some o=>have:=h.kf b o ho;omega
 have wE:∀b,az X' ρ bx w b->¬(X.sub ρ bx w E N ml md).M b:=by
  rintro b hb ⟨t,p,hk,hp,rfl⟩;exact hb.2.2 t hk p hp rfl
 have hw:∀b,az X' ρ bx w b->mJ w w2 b:=by
  intro b hb o ho hc;refine(k.fr.block b hb.1 (fun hm=>?_)).trans ho;rcases hm with hm|hm
  ·exact wE b hb hm
  ·have:=k.ec b hm o ho;rw[hc]at this;cases this
 have JE:∀b,az X' ρ bx w b->az X' ρ2 bK w2 b:=by
  intro b hb;refine⟨Nat.lt_of_lt_of_le hb.1 k.fr.size,hb.2.1,fun t ht p hp e=>?_⟩;obtain⟨p',bJ,_,_,gJ,_⟩:=k.box t (by rw[ht];decide);rw[hp]at bJ;injection bJ with bJ;subst bJ;rcases gJ.2 ht with h1|h1
  ·have:=hb.1;simp only[Ctx.sub]at h1;omega
  ·exact wE b hb (e▸h1)
 refine⟨h.fr.step k.fr (fun n AD hm=>?_),h.s0,h.nb,h.mb,h.ec,h.size,h.marks.fc hw JE k.r0 (fun r _ hr=>k.gy r _ hr (fun he=>n_ r he hr)),h.pU,h.rA,fun t=>(h.tmps t).fc hw JE k.r0,h.fI.fc hw JE k.r0,fun t hk=>?_,k.inj,k.n9,fun t e p hp=>k.r0 t e p (h.r0 t e p hp),k.hold,fun b o ho xK=>?_,h.yc,hY,h.y0,h.kf,⟨fun t ht=>let ⟨p,o,g1,g2,g3,g4⟩:=k.maps.has t ht;⟨p,o,g1,g2,g3.elim (fun g=>Cw _ g) (fun g=> .inr (Nat.le_trans h.fr.size g)),g4⟩,k.maps.inj⟩⟩
 ·rcases hm with⟨t,p,hk,hp,rfl⟩|hm
  ·obtain⟨p',bJ,_,_,gJ,_⟩:=h.box t (by rw[hk];decide);rw[hp]at bJ;injection bJ with bJ;subst bJ;rcases gJ.2 hk with h1|h1
   ·omega
   ·exact .inl h1
  ·rcases Cw n hm with h1|h1
   ·exact .inr h1
   ·omega
 ·obtain⟨p,hp,h2,h3,gJ,hh⟩:=k.box t hk;refine⟨p,hp,h2,h3,⟨by rw[hn];exact gJ.1,fun ji=>?_⟩,by rw[bw];exact hh⟩;rcases gJ.2 ji with h1|⟨s,q,hs,hq,e⟩
  ·exact .inl (Nat.le_trans h.fr.size h1)
  ·obtain⟨q',jG,_,_,hqb,_⟩:=h.box s (by rw[hs];decide);rw[hq]at jG;injection jG with jG;subst jG;rw[<-e];exact hqb.2 hs
 ·refine k.gy b o (h.gy b o ho xK) (fun he=>?_);rcases JC b he with h1|h1
  ·rw[ho]at h1;cases h1
  ·exact xK h1
theorem aA.Ee{b:Nat}{o o':Obj}(h:aA X ρ σ bx a w)(hb:ρ.hold b=some o)(hE:X.E b\/X.w0.heap.size<=b)(h0:X.r0.hold b=none\/X.E b)(hd:o≠ .deferred (some []))(hn:Obj.E1 o=false)(ho:Obj.nk o'=false){w':World}(hw:Fr (fun k=>k=b) w w')(j_:w'.heap[b]? =some o')(hY:X.Y (bU X.lo bx) (fun k=>if k=b then some o' else ρ.hold k)):
 aA X ⟨ρ.at_,fun k=>if k=b then some o' else ρ.hold k⟩ σ bx a w':=by
 obtain⟨g1,g2⟩:=h.hold b o hb;have fL:∀k,mJ w w' k:=by
  intro k o1 dV hc;refine(hw.block k (Array.getElem?_eq_some_iff.1 dV).1 (fun e=>?_)).trans dV;subst e;rw[g1]at dV;injection dV with dV;subst dV;rw[g2]at hc;cases hc
 have hS:∀k,az X ρ bx w k->az X ⟨ρ.at_,fun k=>if k=b then some o' else ρ.hold k⟩ bx w' k:=fun k hk=>⟨Nat.lt_of_lt_of_le hk.1 hw.size,hk.2.1,hk.2.2⟩
 refine⟨h.fr.step hw (fun n hn hm=>?_),h.s0,h.nb,h.mb,h.ec,h.size,h.marks.fc (fun k _=>fL k) hS (fun _ _ _ h=>h) (fun r _ hr=>?_),h.pU,h.rA,fun t=>(h.tmps t).fc (fun k _=>fL k) hS (fun _ _ _ h=>h),h.fI.fc (fun k _=>fL k) hS (fun _ _ _ h=>h),fun t hk=>?_,h.inj,h.n9,h.r0,fun k o1 dV=>?_,fun k o1 dV xK=>?_,h.yc,hY,h.y0,h.kf,h.maps.of (fun t ht=>⟨ht,rfl,rfl⟩) (fun _ _ _ h=>h) (fun t p o1 ht hp dV=>?_) (fun _ h=>h)⟩
 ·subst hm;rcases hE with h1|h1
  ·exact .inr h1
  ·omega
 ·show(if r=b then some o' else ρ.hold r)=_;rw[if_neg]
  ·exact hr
  ·intro e;subst e;rw[hb]at hr;injection hr with hr;exact hd hr
 ·obtain⟨p,hp,h2,h3,h4,h5⟩:=h.box t hk;exact⟨p,hp,h2,h3,h4,h5.fc (fL _) (fun k _=>fL k) hS (fun _ _ _ h=>h)⟩
 ·by_cases e:k=b
  ·subst e;simp only[if_true,sJ]at dV;subst dV;exact⟨j_,ho⟩
  ·simp only[e,if_false]at dV;obtain⟨k1,k2⟩:=h.hold k o1 dV;exact⟨(hw.block k (Array.getElem?_eq_some_iff.1 k1).1 e).trans k1,k2⟩
 ·show(if k=b then some o' else ρ.hold k)=_;by_cases e:k=b
  ·subst e;rcases h0 with h1|h1
   ·rw[dV]at h1;cases h1
   ·exact absurd h1 xK
  ·rw[if_neg e];exact h.gy k o1 dV xK
 ·show(if p.b=b then some o' else ρ.hold p.b)=_;rw[if_neg]
  ·exact dV
  ·intro e;obtain⟨q,o2,g1,g2,_,g4⟩:=h.maps.has t ht;rw[hp]at g1;injection g1 with g1;subst g1;rw[e,hb]at g2;injection g2 with g2;subst g2;rw[g4.E1]at hn;cases hn
theorem aA.zZ{o:Obj}(h:aA X ρ σ bx a w)(ho:Obj.nk o=false):aA X ⟨ρ.at_,fun k=>if k=w.heap.size then some o else ρ.hold k⟩ σ bx a (w.alloc o):=by
 have hx:=h.ext ((Below.refl w.heap.size w).alloc (Nat.le_refl _) o);have ar:∀k o1,ρ.hold k=some o1->k≠w.heap.size:=fun k o1 h1 e=>by
  have:=(Array.getElem?_eq_some_iff.1 (h.hold k o1 h1).1).1;omega
 have fL:∀k o1,ρ.hold k=some o1->(if k=w.heap.size then some o else ρ.hold k)=some o1:=fun k o1 h1=>by rw[if_neg (ar k o1 h1)];exact h1
 refine⟨hx.fr,hx.s0,hx.nb,hx.mb,hx.ec,hx.size,hx.marks.mono (fun _ _=>rfl) (fun _ h=>h) (fun _ _ _ h=>h) (fun r hr=>fL r _ hr),hx.pU,hx.rA,fun t=>(hx.tmps t).mono (fun _ _=>rfl) (fun _ h=>h) (fun _ _ _ h=>h),hx.fI.mono (fun _ _=>rfl) (fun _ h=>h) (fun _ _ _ h=>h),fun t hk=>?_,hx.inj,hx.n9,hx.r0,fun k o1 dV=>?_,fun k o1 dV xK=>fL k o1 (h.gy k o1 dV xK),h.yc,h.yc _ _ _ h.inv fL,h.y0,h.kf,h.maps.of (fun t ht=>⟨ht,rfl,rfl⟩) (fun _ _ _ h=>h) (fun t p o1 ht hp dV=>fL _ o1 dV) (fun _ h=>h)⟩
 ·obtain⟨p,hp,h2,h3,h4,h5⟩:=hx.box t hk;exact⟨p,hp,h2,h3,h4,h5.mono rfl (fun _ _=>rfl) (fun _ h=>h) (fun _ _ _ h=>h)⟩
 ·by_cases e:k=w.heap.size
  ·subst e;simp only[if_true,sJ]at dV;subst dV;exact⟨heap_alloc_new w o,ho⟩
  ·simp only[e,if_false]at dV;exact hx.hold k o1 dV
theorem aA.switch{σ':Env}{a':Act}(h:aA X ρ σ bx a w)(hs:a'.tmps.size=X.N)(hm:Mk w (az X ρ bx w) ρ X.md X.ml (σ' ed) a'.defers)(ht:∀t,aH w (az X ρ bx w) ρ (σ' t) (a'.tmps.getD t undef)):aA X ρ σ' bx a' w:=
 {h with size:=hs,marks:=hm,tmps:=ht}
theorem Defs.mem{S:Nat->Prop}{m:Nat}{l:List D}{ds:List Deferred}(h:Defs w S ρ m l ds):∀r,ic r∈ds->ρ.hold r=some (.deferred (some [])):=by
 induction h with
 |nil=>intro r hr;simp at hr
 |@mark l r0 ds h0 hm hn _ ih=>
  intro r hr;rcases List.mem_cons.1 hr with e|hr
  ·have:r=r0:=by simp only[ic,Deferred.mk.injEq,Target.collected.injEq]at e;exact e.1
   subst this;exact h0
  ·exact ih r hr
 |call _ _ _ _ _ ih=>
  intro r hr;rcases List.mem_cons.1 hr with e|hr
  ·simp[ic]at e
  ·exact ih r hr
theorem aA.Mb{r:Nat}{ds:List Deferred}(h:aA X ρ σ bx a w)(hd:a.defers=ic r::ds)(RX:X.ml=X.w0.heap.size)(mM:X.md≠1){w':World}(hw:Fr (fun k=>k=r) w w')(j_:w'.heap[r]? =some (.deferred none))(bF:X.lo=0):
 ∃ρ',aA X ρ' σ bx {a with defers:=ds} w'/\(∀b o,ρ.hold b=some o->o≠ .deferred (some [])->ρ'.hold b=some o)/\∀d v,aH w (az X ρ bx w) ρ d v->aH w' (az X ρ' bx w') ρ' d v:=by
 obtain⟨l,hl,hm⟩:∃l,(l=if X.md=0 then[]else pY (σ ed))/\Defs w (az X ρ bx w) ρ X.ml l (ic r::ds):=by
  have hm:=h.marks;rw[hd]at hm;exact⟨_,rfl,(hm.resolve_left mM).1⟩
 have V9:X.md≠3:=by
  intro h3;have:=(h.marks.resolve_left mM).2 h3;rw[hd]at this;cases this
 have hh:=hm.mem r (List.mem_cons_self ..);obtain⟨Ax,hn,oB⟩:X.ml<=r/\ic r∉ds/\Defs w (az X ρ bx w) ρ X.ml l ds:=by
  generalize hx:ic r::ds=dd at hm;cases hm with
  |nil=>cases hx
  |@mark _ q _ h1 h2 h3 h4=>
   injection hx with e1 e2;have:r=q:=by simp only[ic,Deferred.mk.injEq,Target.collected.injEq]at e1;exact e1.1
   subst this;subst e2;exact⟨h2,h3,h4⟩
  |call=>injection hx with e1 e2;simp[ic]at e1
 obtain⟨g1,g2⟩:=h.hold r _ hh;have fL:∀k,mJ w w' k:=by
  intro k o1 dV hc;refine(hw.block k (Array.getElem?_eq_some_iff.1 dV).1 (fun e=>?_)).trans dV;subst e;rw[g1]at dV;injection dV with dV;subst dV;rw[g2]at hc;cases hc
 have hS:∀k,az X ρ bx w k->az X ⟨ρ.at_,fun k=>if k=r then some (.deferred none)else ρ.hold k⟩ bx w' k:=fun k hk=>⟨Nat.lt_of_lt_of_le hk.1 hw.size,hk.2.1,hk.2.2⟩
 have hmarks:Mk w' (az X ⟨ρ.at_,fun k=>if k=r then some (.deferred none)else ρ.hold k⟩ bx w') ⟨ρ.at_,fun k=>if k=r then some (.deferred none)else ρ.hold k⟩ X.md X.ml (σ ed) ds:=by
  refine .inr ⟨?_,fun h3=>absurd h3 V9⟩;rw[<-hl];refine oB.fc (fun k _=>fL k) hS (fun _ _ _ h=>h) fun q hq Wg=>?_;show(if q=r then some (.deferred none)else ρ.hold q)=_;rw[if_neg]
  ·exact Wg
  ·rintro rfl;exact hn hq
 refine⟨⟨ρ.at_,fun k=>if k=r then some (.deferred none)else ρ.hold k⟩,⟨h.fr.step hw (fun n hn hm=>?_),h.s0,h.nb,h.mb,h.ec,h.size,hmarks,h.pU,h.rA,fun t=>(h.tmps t).fc (fun k _=>fL k) hS (fun _ _ _ h=>h),h.fI.fc (fun k _=>fL k) hS (fun _ _ _ h=>h),fun t hk=>?_,h.inj,h.n9,h.r0,fun k o1 dV=>?_,fun k o1 dV xK=>?_,h.yc,h.y0 bF _ _,h.y0,h.kf,h.maps.of (fun t ht=>⟨ht,rfl,rfl⟩) (fun _ _ _ h=>h) (fun t p o1 ht hp dV=>?_) (fun _ h=>h)⟩,fun b o ho aP=>?_,fun d v hr=>hr.fc (fun k _=>fL k) hS (fun _ _ _ h=>h)⟩
 ·subst hm;omega
 ·obtain⟨p,hp,h2,h3,h4,h5⟩:=h.box t hk;exact⟨p,hp,h2,h3,h4,h5.fc (fL _) (fun k _=>fL k) hS (fun _ _ _ h=>h)⟩
 ·by_cases e:k=r
  ·subst e;simp only[if_true,sJ]at dV;subst dV;exact⟨j_,rfl⟩
  ·simp only[e,if_false]at dV;obtain⟨k1,k2⟩:=h.hold k o1 dV;exact⟨(hw.block k (Array.getElem?_eq_some_iff.1 k1).1 e).trans k1,k2⟩
 ·show(if k=r then some (.deferred none)else ρ.hold k)=_;rw[if_neg]
  ·exact h.gy k o1 dV xK
  ·intro e;subst e;have:=h.kf k o1 dV;omega
 ·show(if p.b=r then some (.deferred none)else ρ.hold p.b)=_;rw[if_neg]
  ·exact dV
  ·intro e;obtain⟨q,o2,g1,g2,_,g4⟩:=h.maps.has t ht;rw[hp]at g1;injection g1 with g1;subst g1;rw[e,hh]at g2;injection g2 with g2;subst g2;exact g4.nk.2 _ rfl
 ·show(if b=r then some (.deferred none)else ρ.hold b)=_;rw[if_neg]
  ·exact ho
  ·intro e;subst e;rw[hh]at ho;injection ho with ho;exact aP ho.symm
theorem aA.take{r:Nat}{ds:List Deferred}(h:aA X ρ σ bx a w)(hd:a.defers=ic r::ds)(RX:X.ml=X.w0.heap.size)(mM:X.md≠1){w':World}(hw:Fr (fun k=>k=r) w w')(j_:w'.heap[r]? =some (.deferred none))(bF:X.lo=0):
 ∃ρ',aA X ρ' σ bx {a with defers:=ds} w'/\∀b o,ρ.hold b=some o->o≠ .deferred (some [])->ρ'.hold b=some o:=
 let ⟨ρ',h1,h2,_⟩:=h.Mb hd RX mM hw j_ bF
 ⟨ρ',h1,h2⟩
end Go.V
namespace Go.V
open Go.RowKit
section inv
variable {w:World} {S:Nat->Prop} {ρ:cM} {v:Value}
theorem aH.dX{k:IntKind}{n:Int}(h:aH w S ρ (.int k n) v):v= .int k n:=by cases h with|pure h=>cases h;rfl
theorem aH.jQ{b:Bool}(h:aH w S ρ (.bool b) v):v= .bool b:=by cases h with|pure h=>cases h;rfl
theorem aH.iU{l:List UInt8}(h:aH w S ρ (.str l) v):v= .string ⟨l.toArray⟩:=by cases h with|pure h=>cases h;rfl
theorem aH.DW{x:Value}(h:aH w S ρ (.raw x) v):v=x:=by cases h with|pure h=>cases h;rfl
theorem aH.gd(h:aH w S ρ .aq v):v= .slice none 0 0:=by cases h with|pure h=>cases h;rfl
theorem aH.lJ{t e i j:Nat}(h:aH w S ρ (.loc t e i j) v):∃p,ρ t e=some p/\v= .pointer (some ⟨p.b,i * p.sz+j,none⟩):=by
 cases h with
 |pure h=>cases h
 |loc hp hq=>subst hq;exact⟨_,hp,rfl⟩
theorem aH.pv{ds:List D}(h:aH w S ρ (.agg ds) v):∃vs,v= .agg vs/\vs.size=ds.length/\∀(i:Nat) d u,ds[i]? =some d->vs[i]? =some u->aH w S ρ d u:=by
 cases h with
 |pure h=>cases h with|agg hl h=>exact⟨_,rfl,hl,fun i d u hd hu=> .pure (h i d u hd hu)⟩
 |agg hl h=>exact⟨_,rfl,hl,h⟩
theorem aH.J3{ds:List D}(h:aH w S ρ (.aL ds) v):∃vs,v= .tuple vs/\vs.size=ds.length/\∀(i:Nat) d u,ds[i]? =some d->vs[i]? =some u->aH w S ρ d u:=by
 cases h with
 |pure h=>cases h with|aL hl h=>exact⟨_,rfl,hl,fun i d u hd hu=> .pure (h i d u hd hu)⟩
 |aL hl h=>exact⟨_,rfl,hl,h⟩
theorem aH.vG{f:Fn}{ds:List D}(h:aH w S ρ (.fn f ds) v):∃vs,v= .func f #[] vs/\vs.size=ds.length/\∀(i:Nat) d u,ds[i]? =some d->vs[i]? =some u->aH w S ρ d u:=by
 cases h with
 |pure h=>cases h with|fn hl h=>exact⟨_,rfl,hl,fun i d u hd hu=> .pure (h i d u hd hu)⟩
 |fn hl h=>exact⟨_,rfl,hl,h⟩
theorem aH.J2{f:FuncId}{ds:List D}(h:aH w S ρ (.iw f ds) v):∃vs,v= .func (.func f) vs #[]/\vs.size=ds.length/\∀(i:Nat) d u,ds[i]? =some d->vs[i]? =some u->aH w S ρ d u:=by
 cases h with
 |pure h=>cases h with|iw hl h=>exact⟨_,rfl,hl,fun i d u hd hu=> .pure (h i d u hd hu)⟩
 |iw hl h=>exact⟨_,rfl,hl,h⟩
end inv
variable {P:Program} {X:Ctx} {ρ:cM} {σ:Env} {bx:ae} {a:Act} {w:World}
theorem lN{t:TypeId}(h:0<cG P t):∃i d,P.info? t=some i/\P.underlying t=some d/\i.size=cG P t:=by
 unfold cG at h⊢;cases hu:P.underlying t with
 |none=>simp[hu]at h
 |some d=>
  simp only[hu,Option.isSome_some,if_true]at h⊢;cases hi:P.info? t with
  |none=>simp[hi]at h
  |some i=>exact⟨i,d,by first|rfl|trivial,by first|rfl|trivial,by first|rfl|trivial⟩
def T6{t:TypeId}(h:0<(an P t).size):∃i d,P.info? t=some i/\P.underlying t=some d/\i.size=(an P t).size/\(an P t).size=cG P t:=by
 obtain⟨i,d,h1,h2,h3⟩:=lN (P:=P) (t:=t) h;exact⟨i,d,h1,h2,h3,rfl⟩
def cW{t:TypeId}(h:0<cG P t)(w:World):(sizeOf t).run P w= .ok (cG P t) w:=by
 obtain⟨i,d,h1,_,h3⟩:=lN h;rw[<-h3];simp[sizeOf,typeInfo,h1,go_sem]
def qI{t:TypeId}{d:TypeDesc}(h:P.underlying t=some d)(w:World):(isAgg t).run P w= .ok (oW P t) w:=by
 simp only[isAgg,Sem.run_bind,run_underlying h,Result.andThen_ok,oW,h];cases d<;>simp
theorem dh{t e esz b:Nat}{ag:Bool}(h:(an P t).k= .slice e esz b ag):P.underlying t=some (.slice e)/\esz=cG P e/\b=((P.info? e).map (·.bytes)).getD 0/\ag=oW P e:=by
 simp only[an]at h;cases hu:P.underlying t with
 |none=>simp[hu]at h
 |some d=>cases d<;>simp[hu]at h<;>(obtain⟨rfl,rfl,rfl,rfl⟩:=h;exact⟨rfl,rfl,rfl,rfl⟩)
def pD{t:TypeId}{fs:List (Nat×Nat×Bool)}{eq:List Nat}(h:(an P t).k= .struct fs eq):∃F:Array Field,P.underlying t=some (.struct F)/\fs=F.toList.map (fun f=>(f.offset,cG P f.type,oW P f.type))/\
 eq=(if F.toList.all (fun f=>f.name != "_"&&oR P f.type&&cG P f.type==1)&& !P.stoodInHeld t&& !P.eqGuardType P.depth t&&(F.toList.map (·.offset))==List.range F.size&&cG P t==F.size then F.toList.map fun f=>oT P f.type else Ch P t F):=by
 simp only[an]at h;cases hu:P.underlying t with
 |none=>simp[hu]at h
 |some d=>
  cases d<;>simp only[hu]at h<;>first|(cases h;done)|skip
  rename_i F;injection h with h1 h2;exact⟨F,rfl,h1.symm,h2.symm⟩
theorem qa{t:TypeId}(h:(an P t).k= .str):P.underlying t=some .string:=by
 simp only[an]at h;cases hu:P.underlying t with
 |none=>simp[hu]at h
 |some d=>cases d<;>simp[hu]at h;rfl
theorem Kt{t:TypeId}(h:(an P t).k= .bool):P.underlying t=some .bool:=by
 simp only[an]at h;cases hu:P.underlying t with
 |none=>simp[hu]at h
 |some d=>cases d<;>simp[hu]at h;rfl
theorem uc{t:TypeId}{k:IntKind}(h:(an P t).k= .int k):P.underlying t=some (.int k):=by
 simp only[an]at h;cases hu:P.underlying t with
 |none=>simp[hu]at h
 |some d=>cases d<;>simp[hu]at h;rw[h]
theorem vP{t n esz:Nat}{ag:Bool}(h:(an P t).k= .arr n esz ag):∃e,P.underlying t=some (.array n e)/\esz=cG P e/\ag=oW P e:=by
 simp only[an]at h;cases hu:P.underlying t with
 |none=>simp[hu]at h
 |some d=>
  cases d<;>simp[hu]at h;obtain⟨rfl,h2,h3⟩:=h;exact⟨_,rfl,h2.symm,h3.symm⟩
theorem OJ{t:TypeId}(h:(an P t).k= .dB):∃ms,P.underlying t=some (.interface ms):=by
 simp only[an]at h;cases hu:P.underlying t with
 |none=>simp[hu]at h
 |some d=>cases d<;>simp[hu]at h;exact⟨_,rfl⟩
theorem IA{t:TypeId}(h:(an P t).k≠ .none)(h2:(an P t).k≠ .dB):∃d,P.underlying t=some d/\∀ms,d≠ .interface ms:=by
 simp only[an]at h h2;cases hu:P.underlying t with
 |none=>simp[hu]at h
 |some d=>
  refine⟨d,rfl,?_⟩;rintro ms rfl;simp[hu]at h2
def Ft{t b o:Nat}{us:Nat->Value}(hz:0<(an P t).size)(hc:∀j,j<(if(an P t).agg then(an P t).size else 1)->w.cell? ⟨b,o+j,none⟩=some (us j)):
 (loadVar t ⟨b,o,none⟩).run P w= .ok (if(an P t).agg then .agg ((List.range (an P t).size).map us).toArray else us 0) w:=by
 obtain⟨i,d,hi,hd,hs,uA⟩:=T6 hz;have iy:(an P t).agg=oW P t:=rfl;rw[uA]at hz;simp only[loadVar,Sem.run_bind,qI hd,Result.andThen_ok,iy]at hc⊢;cases hA:oW P t with
 |false=>
  have h0:=hc 0 (by simp[hA]);simp only[Nat.add_zero]at h0;simp[load,Sem.run,h0]
 |true=>
  simp only[if_true,Sem.run_bind,cW hz,Result.andThen_ok];have hl:((List.range (cG P t)).map us).length=cG P t:=by simp
  have:=run_loadCells_list (P:=P) (w:=w) ⟨b,o,none⟩ ((List.range (cG P t)).map us) (fun j v hj=>by
   have pj:j<cG P t:=by have:=(gS.1 hj).1;simpa using this
   simp only[gM,List.getElem?_range pj,Option.map_some,sJ]at hj;subst hj;rw[<-uA]at pj;have:=hc j (by simpa[hA]using pj);simp only[Addr.add];by_cases h0:j=0
   ·subst h0;simpa using this
   ·simp[h0];exact this)
  rw[hl]at this;simp[this,uA]
def HS{S:Nat->Prop}{d r:D}{j k:Nat}{ag:Bool}{us:Nat->Value}(hp:jz d j ag k=some r)(hu:∀m c,m<(if ag then k else 1)->d.cells[j+m]? =some c->aH w S ρ c (us m)):
 aH w S ρ r (if ag then .agg ((List.range k).map us).toArray else us 0):=by
 unfold jz at hp;cases ag with
 |true=>
  simp only[if_true]at hp⊢;split at hp
  ·rename_i hle;injection hp with hp;subst hp;refine .agg (by simp;omega) fun i c v hc hv=>?_;have hi:i<k:=by
    have:=(Array.getElem?_eq_some_iff.1 hv).1;simpa using this
   simp only[List.getElem?_toArray,gM,List.getElem?_range hi,Option.map_some,sJ]at hv;subst hv;rw[List.getElem?_take_of_lt hi,List.getElem?_drop]at hc;exact hu i c (by simpa using hi) hc
  ·cases hp
 |false=>
  simp only[Bool.false_eq_true,if_false]at hp⊢;exact hu 0 r sI (by simpa using hp)
def Kf{d r:D}{j k:Nat}{ag:Bool}(hp:jz d j ag k=some r):∀m,m<(if ag then k else 1)->∃c,d.cells[j+m]? =some c:=by
 intro m hm;unfold jz at hp;cases ag with
 |true=>
  simp only[if_true]at hp hm;split at hp
  ·exact⟨_,gE oM⟩
  ·cases hp
 |false=>
  simp only[Bool.false_eq_true,if_false]at hp hm;obtain rfl:m=0:=oM;exact⟨r,by simpa using hp⟩
def Yields(P:Program)(X:Ctx)(ρ:cM)(bx:ae)(a:Act)(w:World)(o:Oper)(d:D):Prop:=
 ∃v w',(execOp a.eval o).run P w= .ok (.value v) w'/\Below w.heap.size w w'/\aH w' (az X ρ bx w') ρ d v
def aQ{o:Oper}{d:D}(v:Value)(bR:(execOp a.eval o).run P w= .ok (.value v) w)(hr:aH w (az X ρ bx w) ρ d v):Yields P X ρ bx a w o d:=⟨v,w,bR,Below.refl _ _,hr⟩
variable {dst:Option Tmp} {ty:TypeId} {pos:String} {af:Array Edge} {g:Option (Nat×Bool)}
theorem AN(h:aA X ρ σ bx a w){t:TypeId}{dx d:D}{vx:Value}(hx:aH w (az X ρ bx w) ρ dx vx)(hv:iF (an P t) bx dx=some d):∃ad v,vx= .pointer (some ad)/\(loadVar t ad).run P w= .ok v w/\aH w (az X ρ bx w) ρ d v:=by
 cases dx with
 |loc s e i j=>
  simp only[iF]at hv;split at hv
  ·rename_i hc;obtain⟨he,hk,hz⟩:=hc;obtain⟨p,hp,dZ⟩:=hx.lJ;obtain⟨p',bJ,_,_,_,hh⟩:=h.box s hk;rw[he,hp]at bJ;injection bJ with bJ;subst bJ;cases hi:(bx s).es[i]? with
   |none=>simp[hi]at hv
   |some d0=>
    simp only[hi,Option.bind_some]at hv;have ar:=Kf hv;have jt:∀m,∃u,m<(if(an P t).agg then(an P t).size else 1)->w.cell? ⟨p.b,i * p.sz+j+m,none⟩=some u/\∀c,d0.cells[j+m]? =some c->aH w (az X ρ bx w) ρ c u:=by
     intro m;by_cases hm:m<(if(an P t).agg then(an P t).size else 1)
     ·obtain⟨c,hc⟩:=ar m hm;obtain⟨u,hu,hr,_⟩:=hh.cell hi hc;exact⟨u,fun _=>⟨by rw[Nat.add_assoc];exact hu,fun c' fO=>by rw[hc]at fO;injection fO with fO;subst fO;exact hr⟩⟩
     ·exact⟨undef,fun tB=>absurd tB hm⟩
    let us:Nat->Value:=fun m=>Classical.choose (jt m);have gL:∀m,m<(if(an P t).agg then(an P t).size else 1)->w.cell? ⟨p.b,i * p.sz+j+m,none⟩=some (us m)/\∀c,d0.cells[j+m]? =some c->aH w (az X ρ bx w) ρ c (us m):=fun m=>Classical.choose_spec (jt m);exact⟨_,_,dZ,Ft hz (fun m hm=>(gL m hm).1),HS hv (us:=us) fun m c hm hc=>(gL m hm).2 c hc⟩
  ·cases hv
 |cA d0 j=>
  simp only[iF]at hv;split at hv
  ·rename_i hz;have eJ:br w (az X ρ bx w) (.cA d0 j) vx:=hx.fy rfl;cases eJ with
   |@cA _ _ b off p us hb hp hc h1 hr=>
    have ar:=Kf hv;subst hp;exact⟨_,_,rfl,Ft (us:=fun m=>us (j+m)) hz (fun m hm=>by obtain⟨c,pO⟩:=ar m hm;rw[Nat.add_assoc];exact hc _ _ pO),HS hv (us:=fun m=>us (j+m)) fun m c hm pO=> .pure (hr _ _ pO)⟩
  ·cases hv
 |_=>simp[iF]at hv
def Lq(h:aA X ρ σ bx a w){t:TypeId}{x:Operand}{d:D}(hv:iF (an P t) bx (ev σ x)=some d):Yields P X ρ bx a w ⟨dst,.load t x,ty,pos,af,g⟩ d:=by
 obtain⟨ad,v,h1,h2,h3⟩:=AN h (h.ev x) hv;exact aQ v (by simp only[execOp,Instr.loadAt,Instr.sureAddr,h1,Sem.run_bind,Sem.run_pure,Result.andThen_ok,h2]) h3
theorem Addr.ea(b o k:Nat):(⟨b,o,none⟩:Addr).add k=⟨b,o+k,none⟩:=by
 unfold Addr.add;split
 ·rename_i h;subst h;rfl
 ·rfl
def CP(h:aA X ρ σ bx a w){t:TypeId}{x y:Operand}{d:D}(hv:oO (ev σ y) (eY (an P t) (ev σ x))=some d):Yields P X ρ bx a w ⟨dst,.indexAddr t x y,ty,pos,af,g⟩ d:=by
 have hx:=h.ev x;have hy:=h.ev y;generalize ev σ x=dx at hv hx;generalize ev σ y=dy at hv hy;cases dy with
 |int k n=>
  have hy:=hy.dX;simp only[oO,eY]at hv;cases hk:(an P t).k with
  |slice e esz b ag=>
   simp only[hk]at hv;obtain⟨hu,he,_,_⟩:=dh hk;have key:∀sz es,br w (az X ρ bx w) (.sl sz es) (a.eval x)->(if 0<=n/\sz=esz/\0<esz then(es[n.toNat]?).map fun d=>D.cA d 0 else none)=some d->Yields P X ρ bx a w ⟨dst,.indexAddr t x y,ty,pos,af,g⟩ d:=by
    intro sz es eJ dZ;split at dZ
    ·rename_i hc;obtain⟨h0,bP,eI⟩:=hc;subst bP;cases hi:es[n.toNat]? with
     |none=>rw[hi]at dZ;cases dZ
     |some d0=>
      rw[hi]at dZ;injection dZ with dZ;subst dZ;generalize e_:a.eval x=vx at eJ;cases eJ with
      |@sl _ _ A m cap b' off us hn dF ja hA bP hc h1 hr=>
       obtain⟨rfl,hb⟩:=hA (by rintro rfl;simp at hi);have ar:n.toNat<es.length:=(gS.1 hi).1;refine aQ (.pointer (some ⟨b',off+n.toNat * sz,none⟩)) ?_ (.pure (.cA (off:=off+n.toNat * sz) (us:=us n.toNat) hb rfl (fun m c hm=>hc _ _ _ _ hi hm) (fun m c hm=>h1 _ _ _ _ hi hm) (fun m c hm=>hr _ _ _ _ hi hm)));have lj:0<=n/\n<((m:Nat):Int):=⟨h0,by omega⟩
       simp only[execOp,Instr.indexAt,hy,e_,asIntOf,Sem.run_bind,Sem.run_pure,Result.andThen_ok,run_underlying hu,lj,and_self,if_true,cW (he▸eI),Addr.ea,<-he]
    ·cases dZ
   cases dx with
   |sl sz es=>exact key sz es (hx.fy rfl) hv
   |g_ sz es=>exact key sz es (hx.fy rfl).rC hv
   |fH s e' i j len=>
    simp only at hv;split at hv
    ·rename_i hc;obtain⟨h0,ar,h1⟩:=hc;injection hv with hv;subst hv;generalize e_:a.eval x=vx at hx;cases hx with
     |pure h=>cases h
     |@fH _ _ _ _ _ off cap p hp dQ hn dF=>
      have lj:0<=n/\n<((len:Nat):Int):=⟨h0,ar⟩
      have ho:=dQ oM;subst ho;have yA:cG P e=1:=by rw[<-he,h1]
      refine aQ (.pointer (some ⟨p.b,i * p.sz+j+n.toNat,none⟩)) ?_ (.loc hp oM);simp only[execOp,Instr.indexAt,hy,e_,asIntOf,Sem.run_bind,Sem.run_pure,Result.andThen_ok,run_underlying hu,lj,and_self,if_true,cW (by rw[yA];decide:0<cG P e),Addr.ea,yA,Nat.mul_one]
    ·cases hv
   |bE s e' sz o len=>
    simp only at hv;split at hv
    ·rename_i hc;obtain⟨h0,ar,bP,eI⟩:=hc;subst bP;injection hv with hv;subst hv;generalize e_:a.eval x=vx at hx;cases hx with
     |pure h=>cases h
     |@bE _ _ _ _ _ off cap p hp bP JC dQ hn dF=>
      subst bP;have lj:0<=n/\n<((len:Nat):Int):=⟨h0,ar⟩
      have ho:=dQ oM;subst ho;refine aQ (.pointer (some ⟨p.b,o * p.sz+n.toNat * p.sz,none⟩)) ?_ (.loc hp (by rw[Nat.add_mul,Nat.add_zero]));simp only[execOp,Instr.indexAt,hy,e_,asIntOf,Sem.run_bind,Sem.run_pure,Result.andThen_ok,run_underlying hu,lj,and_self,if_true,cW (he▸eI),Addr.ea,<-he]
    ·cases hv
   |_=>simp at hv
  |arr len esz ag=>
   simp only[hk]at hv;obtain⟨e,hu,he,_⟩:=vP hk;split at hv
   ·rename_i hc;obtain⟨h0,ar,h1,eI⟩:=hc;have lj:0<=n/\n<((len:Nat):Int):=⟨h0,ar⟩
    cases dx with
    |loc s e' i j=>
     simp only[kS,sJ]at hv;subst hv;obtain⟨p,hp,e_⟩:=hx.lJ;refine aQ (.pointer (some ⟨p.b,i * p.sz+j+n.toNat * esz,none⟩)) ?_ (.loc hp oM);simp only[execOp,Instr.indexAt,Instr.sureAddr,hy,e_,asIntOf,Sem.run_bind,Sem.run_pure,Result.andThen_ok,run_underlying hu,lj,and_self,if_true,cW (he▸eI),Addr.ea,<-he]
    |cA d0 j=>
     simp only[kS,sJ]at hv;subst hv;have eJ:br w (az X ρ bx w) (.cA d0 j) (a.eval x):=hx.fy rfl;generalize e_:a.eval x=vx at eJ;cases eJ with
     |@cA _ _ b off p us hb hp hc h1 hr=>
      refine aQ (.pointer (some ⟨b,p+n.toNat * esz,none⟩)) ?_ (.pure (.cA (us:=us) hb oM hc h1 hr));simp only[execOp,Instr.indexAt,Instr.sureAddr,hy,e_,asIntOf,Sem.run_bind,Sem.run_pure,Result.andThen_ok,run_underlying hu,lj,and_self,if_true,cW (he▸eI),Addr.ea,<-he]
    |_=>simp[kS]at hv
   ·cases hv
  |_=>simp[hk]at hv
 |_=>simp[oO]at hv
end Go.V
namespace Go.V
open Go.RowKit
variable {P:Program} {X:Ctx} {ρ:cM} {σ:Env} {bx:ae} {a:Act} {w:World}
variable {dst:Option Tmp} {ty:TypeId} {pos:String} {af:Array Edge} {g:Option (Nat×Bool)}
def Jw{S:Nat->Prop}{t:TypeId}{n:Nat}{x y:D}{vx vy:Value}{b:Bool}(h:uu x y=some b)(hx:aH w S ρ x vx)(hy:aH w S ρ y vy)
 (ht:(∃k m,x= .int k m/\∃k',P.underlying t=some (.int k'))\/(∃m,x= .bool m/\P.underlying t=some .bool)\/(∃m,x= .str m/\P.underlying t=some .string)):
 (Op.equalIn (n+1) t vx vy).run P w= .ok b w:=by
 rcases ht with⟨k,m,rfl,k',hu⟩|⟨m,rfl,hu⟩|⟨m,rfl,hu⟩<;>cases y<;>simp only[uu]at h<;>try (cases h;done)
 ·split at h
  ·rename_i hk;subst hk;injection h with h;subst h;rw[hx.dX,hy.dX,run_equalIn_int w n t _ _ _ _ hu]
  ·cases h
 ·injection h with h;subst h;rw[hx.jQ,hy.jQ,run_equalIn_bool' w n t _ _ hu]
 ·injection h with h;subst h;rw[hx.iU,hy.iU,run_equalIn_string w n t _ _ hu,ByteArray.toList_eq,ByteArray.toList_eq]
def wy(P:Program)(t:TypeId)(x:D):Prop:=
 (∃k m,x= .int k m/\∃k',P.underlying t=some (.int k'))\/(∃m,x= .bool m/\P.underlying t=some .bool)\/(∃m,x= .str m/\P.underlying t=some .string)
def Gc(op:BinOp)(k k':IntKind)(x y:Int)(d:D)(h:zt op k x y=some d)(t:TypeId)(S:Nat->Prop):∃v,(binOp op t (.int k x) (.int k' y)).run P w= .ok v w/\aH w S ρ d v:=by
 unfold zt at h;split at h
 ·cases h
 ·rename_i hy;cases op<;>simp only at h<;>try (cases h;done)
  ·injection h with h;subst h;exact⟨_,by simp[binOp,Op.shift,hy],.pure (.int _ _)⟩
  ·injection h with h;subst h;exact⟨_,by simp[binOp,Op.shift,hy],.pure (.int _ _)⟩
def SQ(op:BinOp)(k:IntKind)(x y:Int)(d:D)(h:kg op k x y=some d)(t:TypeId)(S:Nat->Prop):∃v,(binOp op t (.int k x) (.int k y)).run P w= .ok v w/\aH w S ρ d v:=by
 cases op<;>simp only[kg,KJ]at h<;>try (cases h;done)
 case add=>injection h with h;subst h;exact⟨_,by simp[binOp,Op.intArith],.pure (.int _ _)⟩
 case sub=>injection h with h;subst h;exact⟨_,by simp[binOp,Op.intArith],.pure (.int _ _)⟩
 case mul=>injection h with h;subst h;exact⟨_,by simp[binOp,Op.intArith],.pure (.int _ _)⟩
 case quo=>
  split at h
  ·cases h
  ·rename_i hy;injection h with h;subst h;exact⟨_,by simp[binOp,Op.intDiv,hy],.pure (.int _ _)⟩
 case rem=>
  split at h
  ·cases h
  ·rename_i hy;injection h with h;subst h;exact⟨_,by simp[binOp,Op.intDiv,hy],.pure (.int _ _)⟩
 case and=>injection h with h;subst h;exact⟨_,by simp[binOp,Op.intBits,dj],.pure (.int _ _)⟩
 case or=>injection h with h;subst h;exact⟨_,by simp[binOp,Op.intBits,dj],.pure (.int _ _)⟩
 case xor=>injection h with h;subst h;exact⟨_,by simp[binOp,Op.intBits,dj],.pure (.int _ _)⟩
 case andNot=>injection h with h;subst h;exact⟨_,by simp[binOp,Op.intBits,dj],.pure (.int _ _)⟩
 case shl=>exact Gc .shl k k x y d h t S
 case shr=>exact Gc .shr k k x y d h t S
 case eql=>injection h with h;subst h;exact⟨_,by simp[binOp,Op.intCmp],.pure (.bool _)⟩
 case neq=>injection h with h;subst h;exact⟨_,by simp[binOp,Op.intCmp],.pure (.bool _)⟩
 case lss=>injection h with h;subst h;exact⟨_,by simp[binOp,Op.intCmp],.pure (.bool _)⟩
 case leq=>injection h with h;subst h;exact⟨_,by simp[binOp,Op.intCmp],.pure (.bool _)⟩
 case gtr=>injection h with h;subst h;exact⟨_,by simp[binOp,Op.intCmp],.pure (.bool _)⟩
 case geq=>injection h with h;subst h;exact⟨_,by simp[binOp,Op.intCmp],.pure (.bool _)⟩
def Gf(l m:List UInt8):((⟨l.toArray⟩:ByteArray)++⟨m.toArray⟩)=⟨(l++m).toArray⟩:=by
 apply ByteArray.ext;simp
def SR(op:BinOp)(x y:List UInt8)(d:D)(h:zA op x y=some d)(t:TypeId)(S:Nat->Prop):∃v,(binOp op t (.string ⟨x.toArray⟩) (.string ⟨y.toArray⟩)).run P w= .ok v w/\aH w S ρ d v:=by
 cases op<;>simp only[zA]at h<;>try (cases h;done)
 case add=>
  split at h
  ·rename_i hl;injection h with h;subst h;refine⟨.string ⟨(x++y).toArray⟩,?_,.pure (.str _)⟩;have hle:¬(((⟨x.toArray⟩:ByteArray).size+(⟨y.toArray⟩:ByteArray).size:Nat):Int)>IntKind.i64.max:=by
    have:(IntKind.i64.max:Int)=9223372036854775807:=by decide
    rw[this];simp[ByteArray.size];omega
   simp only[binOp,Op.stringOp,hle,if_false,Sem.run_pure,Gf]
  ·cases h
 all_goals
  injection h with h;subst h;exact⟨_,by simp only[binOp,Op.stringOp,ByteArray.toList_eq,Sem.run_pure],.pure (.bool _)⟩
def qR(op:BinOp)(t:TypeId)(x y:Operand)(vx vy:Value)(h:(∃k n,vx= .int k n)\/(∃s,vx= .string s)\/(∃b,vx= .bool b)):(eqGuard op t x y vx vy).run P w= .ok () w:=by rcases h with⟨k,n,rfl⟩|⟨s,rfl⟩|⟨b,rfl⟩<;>cases op<;>simp[eqGuard]
def wT{t:TypeId}{off:Nat}{cs:Array Value}{v:Value}(hf:oR P t=true)(hv:cs[off]? =some v):(part t cs off).run P w= .ok v w:=by
 have hu:∃d,P.underlying t=some d/\oW P t=false:=by
  unfold oR at hf;unfold oW;cases hu:P.underlying t with
  |none=>simp[hu]at hf
  |some d=>cases d<;>simp[hu]at hf<;>exact⟨_,rfl,rfl⟩
 obtain⟨d,hu,ha⟩:=hu;simp[part,qI hu,ha,hv]
def Gw{S:Nat->Prop}{vx vy:Array Value}{n:Nat}:∀(fs:List Field) (o:Nat) (xs ys:List D) (b:Bool),fs.all (fun f=>f.name != "_"&&oR P f.type&&cG P f.type==1)=true->fs.map (·.offset)=List.range' o fs.length->
 fs.length=xs.length->jg xs ys=some b->(∀(i:Nat) d,xs[i]? =some d->∃v,vx[o+i]? =some v/\aH w S ρ d v)->(∀(i:Nat) d,ys[i]? =some d->∃v,vy[o+i]? =some v/\aH w S ρ d v)->
 (∀(i:Nat) f d,fs[i]? =some f->xs[i]? =some d->wy P f.type d)->(Op.eqFields (n+1) vx vy fs).run P w= .ok b w:=by
 intro fs;induction fs with
 |nil=>
  intro o xs ys b _ _ hl he _ _ _;cases xs with
  |nil=>cases ys with
   |nil=>simp[jg]at he;subst he;simp[Op.eqFields]
   |cons y ys=>simp[jg]at he
  |cons x xs=>simp at hl
 |cons f fs ih=>
  intro o xs ys b eG dQ hl he hx hy jL;cases xs with
  |nil=>simp at hl
  |cons x xs=>
  cases ys with
  |nil=>simp[jg]at he
  |cons y ys=>
  simp only[List.all_cons,bA,bne_iff_ne,ne_eq,beq_iff_eq]at eG;obtain⟨⟨⟨hn,hf⟩,_⟩,FQ⟩:=eG;simp only[mC,List.length_cons,List.range'_succ,List.cons.injEq]at dQ;obtain⟨ho,dQ⟩:=dQ;obtain⟨v,hv,AF⟩:=hx 0 x rfl;obtain⟨u,hu,hru⟩:=hy 0 y rfl;simp only[Nat.add_zero]at hv hu;have V2:=jL 0 f x rfl rfl;have WN:=fun b h=>ih (o+1) xs ys b FQ dQ (by simpa using hl) h (fun i d hd=>by have:=hx (i+1) d (by simpa using hd);rwa[show o+(i+1)=o+1+i from by omega]at this)
   (fun i d hd=>by have:=hy (i+1) d (by simpa using hd);rwa[show o+(i+1)=o+1+i from by omega]at this) (fun i f d hf hd=>jL (i+1) f d (by simpa using hf) (by simpa using hd))
  simp only[jg]at he;cases mg:uu x y with
  |none=>simp[mg]at he
  |some c=>
   have hr:=Jw (n:=n) mg AF hru V2;simp only[Op.eqFields,hn,not_false_eq_true,ne_eq,if_true,Sem.run_bind,ho,wT hf hv,wT hf hu,Result.andThen_ok,hr];cases c with
   |true=>
    simp only[mg]at he;simp only[nT,Bool.false_eq_true,if_false];exact WN b he
   |false=>
    simp only[mg]at he;cases qy:jg xs ys with
    |none=>simp[qy]at he
    |some c'=>simp only[qy]at he;injection he with he;subst he;simp
def yT{k:Nat}{ks:List Nat}{ds:List D}(h:cq (k::ks) ds=true):∃d ds',ds=d::ds'/\cq ks ds'=true/\uu d d=some true/\∀t,oT P t=k->wy P t d:=by
 unfold cq at h;split at h;all_goals first
  |contradiction
  |(cases h;done)
  |(
   rename_i he;injection he with e1 e2;subst e2;refine⟨_,_,rfl,h,by simp[uu],fun t ht=>?_⟩;rw[e1]at ht;unfold oT at ht;unfold wy;cases hu:P.underlying t with
   |none=>simp[hu]at ht
   |some x=>cases x<;>simp[hu]at ht⊢)
def Ci{t:TypeId}{F:Array Field}{k:Nat}{ks:List Nat}(h:k::ks=Ch P t F):k=0/\ye P 0 F.toList=some ks/\P.stoodInHeld t=false/\P.eqGuardType P.depth t=false:=by
 unfold Ch at h;split at h
 ·rename_i l hl;split at h
  ·rename_i hc;simp only[bA,Bool.not_eq_true']at hc;injection h with h1 h2;subst h2;exact⟨h1,hl,hc.1,hc.2⟩
  ·cases h
 ·cases h
def Hp{ks:List Nat}{ds:List D}:cq (0::ks) ds=false:=by cases ds<;>simp[cq]
def Iq{S:Nat->Prop}{t:TypeId}{n:Nat}{d:D}{v:Value}(h:uu d d=some true)(hf:wy P t d)(hv:aH w S ρ d v):(Op.equalIn (n+1) t v v).run P w= .ok true w:=Jw h hv hv hf
theorem yg{e:TypeId}{n:Nat}{cs:Array Value}(hf:oR P e=true):∀is:List Nat,(∀i∈is,∃v,cs[i]? =some v/\(Op.equalIn (n+1) e v v).run P w= .ok true w)->(Op.eqItems (n+1) e 1 cs cs is).run P w= .ok true w
 |[],_=>by simp[Op.eqItems]
 |i::is,h=>by
  obtain⟨v,h1,h2⟩:=h i sI;simp only[Op.eqItems,Sem.run_bind,Nat.mul_one,wT hf h1,Result.andThen_ok,h2,nT,Bool.false_eq_true,if_false];exact yg hf is fun j hj=>h j (by simp[hj])
theorem E4:∀ {k1 k2:List Nat} {ds:List D},cq (k1++k2) ds=true->∃a b,ds=a++b/\a.length=k1.length/\cq k1 a=true/\cq k2 b=true
 |[],k2,ds,h=>⟨[],ds,rfl,rfl,by simp[cq],h⟩
 |k::k1,k2,ds,h=>by
  have h':=h;unfold cq at h';rw[List.cons_append]at h;cases ds with
  |nil=>exact absurd h (by cases k1<;>cases k2<;>simp[cq])
  |cons d ds=>
   have hs:cq (k1++k2) ds=true/\∀l,cq (k::k1) (d::l)=cq k1 l:=by
    unfold cq at h;split at h
    ·rename_i he _;cases he
    all_goals first
     |(cases h;done)
     |(
      rename_i he tv;injection he with e1 e2;injection tv with e3 e4;subst e2;subst e4;subst e3;subst e1;exact⟨h,fun l=>by simp[cq]⟩)
   obtain⟨a,b,h1,h2,h3,h4⟩:=E4 hs.1;exact⟨d::a,b,by rw[h1];rfl,by simp[h2],by rw[hs.2];exact h3,h4⟩
def Ar{t:TypeId}{d:TypeDesc}(hu:P.underlying t=some d):P.cellsOf t=cG P t:=by
 obtain⟨i,hi⟩:=info_of_underlying hu;simp[cG,hu,hi,Program.cellsOf]
theorem FB{S:Nat->Prop}{vx:Array Value}{n:Nat}:∀(fs:List Field) (o:Nat) (ks:List Nat) (xs:List D),ye P o fs=some ks->cq ks xs=true->(∀(i:Nat) d,xs[i]? =some d->∃v,vx[o+i]? =some v/\aH w S ρ d v)->(Op.eqFields (n+2) vx vx fs).run P w= .ok true w:=by
 intro fs;induction fs with
 |nil=>intro o ks xs _ _ _;simp[Op.eqFields]
 |cons f fs ih=>
  intro o ks xs hd hk hx;unfold ye at hd;split at hd
  ·rename_i k1 pP;split at hd
   ·rename_i hc;simp only[bA,bne_iff_ne,ne_eq,beq_iff_eq]at hc;obtain⟨⟨hn,ho⟩,bP⟩:=hc;rw[mS]at hd;obtain⟨k2,qj,rfl⟩:=hd;obtain⟨a,b,rfl,ha,hka,iT⟩:=E4 hk;have WN:=ih (o+k1.length) k2 b qj iT fun i d hi=>by
     have:=hx (k1.length+i) d (by rw[List.getElem?_append_right oM,<-ha,Nat.add_sub_cancel_left];exact hi);rwa[<-Nat.add_assoc]at this
    have vE:∀(i:Nat) d,a[i]? =some d->∃v,vx[o+i]? =some v/\aH w S ρ d v:=fun i d hi=>hx i d (by rw[List.getElem?_append_left (gS.1 hi).1];exact hi);have step:∃v,(part f.type vx f.offset).run P w= .ok v w/\(Op.equalIn (n+2) f.type v v).run P w= .ok true w:=by
     unfold Rt at pP;split at pP
     ·rename_i G5;simp only[bA,beq_iff_eq]at G5;injection pP with pP;subst pP;obtain⟨d,ds,rfl,_,he,jL⟩:=yT (P:=P) hka;obtain⟨v,hv,hr⟩:=vE 0 d rfl;rw[Nat.add_zero,<-ho]at hv;exact⟨v,wT G5.1 hv,Iq he (jL _ rfl) hr⟩
     ·split at pP
      ·rename_i m e hu;split at pP
       ·rename_i G5;simp only[bA,beq_iff_eq]at G5;injection pP with pP;subst pP;obtain⟨i,hi⟩:=info_of_underlying hu;have JU:∃de,P.underlying e=some de:=by
         cases JU:P.underlying e with
         |none=>have:=G5.1;simp[oR,JU]at this
         |some de=>exact⟨de,rfl⟩
        obtain⟨de,JU⟩:=JU;obtain⟨ie,hie⟩:=info_of_underlying JU;rw[List.length_replicate]at bP ha;refine⟨.agg (vx.extract f.offset (f.offset+P.cellsOf f.type)),by simp[part,isAgg,run_underlying hu,run_sizeOf w hi],?_⟩;rw[run_equalIn_array w (n+1) _ _ hu hie,Ar JU,G5.2,Ar hu,bP];refine yg G5.1 _ fun j hj=>?_;rw[List.mem_range]at hj;have ar:j<a.length:=oM;obtain⟨v,hv,hr⟩:=vE j _ (gE ar);have hkk:∀(m:Nat) (l:List D),cq (List.replicate m (oT P e)) l=true->∀d∈l,uu d d=some true/\wy P e d:=by
         intro m;induction m with
         |zero=>intro l hl d hd;cases l with
          |nil=>cases hd
          |cons x l=>simp[cq]at hl
         |succ m ihm=>
          intro l hl d hd;rw[List.replicate_succ]at hl;obtain⟨d',ds',rfl,h1,h2,h3⟩:=yT (P:=P) hl;rcases List.mem_cons.1 hd with rfl|hd
          ·exact⟨h2,h3 e rfl⟩
          ·exact ihm ds' h1 d hd
        obtain⟨h1,h2⟩:=hkk m a hka _ (List.getElem_mem ar);refine⟨v,?_,Iq h1 h2 hr⟩;rw[Array.getElem?_extract,ho];have hb:o+j<vx.size:=(Array.getElem?_eq_some_iff.1 hv).1;rw[if_pos oM];exact hv
       ·cases pP
      ·cases pP
    obtain⟨v,h1,h2⟩:=step;simp only[Op.eqFields,hn,not_false_eq_true,ne_eq,if_true,Sem.run_bind,h1,Result.andThen_ok,h2,nT,Bool.false_eq_true,if_false];exact WN
   ·cases hd
  ·cases hd
end Go.V
namespace Go.V
open Go.RowKit
variable {P:Program} {X:Ctx} {ρ:cM} {σ:Env} {bx:ae} {a:Act} {w:World}
variable {dst:Option Tmp} {ty:TypeId} {pos:String} {af:Array Edge} {g:Option (Nat×Bool)}
def Ho(k:Nat)(ks:List Nat):cq (k::ks) []=false:=by
 unfold cq;split<;>simp_all
theorem NU{P:Program}:∀(ks:List Nat) (F:List Field) (ds:List D),ks=F.map (fun f=>oT P f.type)->cq ks ds=true->F.length=ds.length/\∀(i:Nat) f d,F[i]? =some f->ds[i]? =some d->wy P f.type d:=by
 intro ks;induction ks with
 |nil=>
  intro F ds hF h;cases F with
  |nil=>cases ds with
   |nil=>simp
   |cons d ds=>simp[cq]at h
  |cons f F=>simp at hF
 |cons k ks ih=>
  intro F ds hF h;cases F with
  |nil=>simp at hF
  |cons f F=>
  cases ds with
  |nil=>exact absurd h (by rw[Ho];decide)
  |cons d ds=>
  simp only[mC,List.cons.injEq]at hF;obtain⟨hk,hF⟩:=hF;have step:cq ks ds=true/\wy P f.type d:=by
   unfold cq at h;split at h
   ·rename_i he _;cases he
   ·rename_i he tv;injection he with e1 e2;injection tv with e3 e4;subst e2;subst e4;subst e3;refine⟨h,.inr (.inl ⟨_,rfl,?_⟩)⟩;rw[e1]at hk;unfold oT at hk;cases hu:P.underlying f.type with
    |none=>simp[hu]at hk
    |some x=>cases x<;>simp[hu]at hk;rfl
   ·rename_i he tv;injection he with e1 e2;injection tv with e3 e4;subst e2;subst e4;subst e3;refine⟨h,.inl ⟨_,_,rfl,?_⟩⟩;rw[e1]at hk;unfold oT at hk;cases hu:P.underlying f.type with
    |none=>simp[hu]at hk
    |some x=>cases x<;>simp[hu]at hk;exact⟨_,rfl⟩
   ·rename_i he tv;injection he with e1 e2;injection tv with e3 e4;subst e2;subst e4;subst e3;refine⟨h,.inr (.inr ⟨_,rfl,?_⟩)⟩;rw[e1]at hk;unfold oT at hk;cases hu:P.underlying f.type with
    |none=>simp[hu]at hk
    |some x=>cases x<;>simp[hu]at hk;rfl
   ·cases h
  obtain⟨hl,hr⟩:=ih F ds hF step.1;refine⟨by simp[hl],fun i f' d' hf hd=>?_⟩;cases i with
  |zero=>simp at hf hd;subst hf;subst hd;exact step.2
  |succ i=>exact hr i f' d' (by simpa using hf) (by simpa using hd)
def S8{S:Nat->Prop}{t:TypeId}{x y:D}{vx vy:Value}{b:Bool}(h:ED (an P t) x y=some b)(hx:aH w S ρ x vx)(hy:aH w S ρ y vy):
 (Op.equal t vx vy).run P w= .ok b w/\∀(op:BinOp) (p q:Operand),(eqGuard op t p q vx vy).run P w= .ok () w:=by
 unfold ED at h;split at h
 ·rename_i fs k ks da db hk;split at h
  ·rename_i oA;obtain⟨F,hu,xH,tA⟩:=pD hk;obtain⟨xs,rfl,lG,R_⟩:=hx.pv;obtain⟨ys,rfl,ll,JY⟩:=hy.pv;have sB:(F.toList.all (fun f=>f.name != "_"&&oR P f.type&&cG P f.type==1)&& !P.stoodInHeld t&& !P.eqGuardType P.depth t&&(F.toList.map (·.offset))==List.range F.size&&cG P t==F.size)=true:=by
    cases hb:(F.toList.all (fun f=>f.name != "_"&&oR P f.type&&cG P f.type==1)&& !P.stoodInHeld t&& !P.eqGuardType P.depth t&&(F.toList.map (·.offset))==List.range F.size&&cG P t==F.size) with
    |true=>rfl
    |false=>
     rw[hb]at tA;obtain⟨rfl,_⟩:=Ci (by simpa using tA);rw[Hp]at oA;cases oA
   rw[sB]at tA;simp only[if_true]at tA;simp only[bA,Bool.not_eq_true',beq_iff_eq]at sB;obtain⟨⟨⟨⟨eG,bw⟩,cX⟩,dQ⟩,_⟩:=sB;obtain⟨hl,jL⟩:=NU _ _ _ tA oA;have hlen2:∀(p q:List D) (b:Bool),jg p q=some b->p.length=q.length:=by
    intro p;induction p with
    |nil=>intro q b hq;cases q<;>simp[jg]at hq⊢
    |cons c p ih=>
     intro q b hq;cases q with
     |nil=>simp[jg]at hq
     |cons c' q=>
      simp only[jg]at hq;cases hc:uu c c' with
      |none=>simp[hc]at hq
      |some r=>
       cases r with
       |true=>simp only[hc]at hq;simp[ih q b hq]
       |false=>
        simp only[hc]at hq;cases hr:jg p q with
        |none=>simp[hr]at hq
        |some r=>simp[ih q r hr]
   have hF:P.fieldsOf t=F:=by simp[Program.fieldsOf,hu]
   constructor
   ·simp only[Op.equal,Op.maxDepth];rw[run_equalIn_struct w 9999 t xs ys (by rw[hF];exact hu) bw,hF];refine Gw (S:=S) (ρ:=ρ) (n:=9998) F.toList 0 da db b eG ?_ hl h (fun i d hd=>?_) (fun i d hd=>?_) jL
    ·rw[dQ,List.range_eq_range'];simp
    ·have hi:i<xs.size:=by have:=(gS.1 hd).1;omega
     rw[Nat.zero_add];exact⟨_,Array.getElem?_eq_getElem hi,R_ i d _ hd (Array.getElem?_eq_getElem hi)⟩
    ·have hi:i<ys.size:=by have:=(gS.1 hd).1;omega
     rw[Nat.zero_add];exact⟨_,Array.getElem?_eq_getElem hi,JY i d _ hd (Array.getElem?_eq_getElem hi)⟩
   ·intro op p q;exact run_eqGuard_agg w op t p q xs ys cX
  ·rename_i oA;unfold FT at h;split at h
   ·rename_i hc;obtain⟨rfl,bV,he⟩:=hc;injection h with h;subst h;obtain⟨F,hu,xH,tA⟩:=pD hk;obtain⟨xs,rfl,lG,R_⟩:=hx.pv;obtain⟨ys,rfl,ll,JY⟩:=hy.pv;have oa:0::ks=Ch P t F:=by
     split at tA
     ·rename_i hc;exfalso;simp only[bA]at hc;have eG:=hc.1.1.1.1;cases hF:F.toList with
      |nil=>rw[hF]at tA;cases tA
      |cons f fs=>
       rw[hF]at tA eG;simp only[mC,List.cons.injEq]at tA;simp only[List.all_cons,bA]at eG;have hf:=eG.1.1.2;have h0:=tA.1;unfold oR at hf;unfold oT at h0;cases lF:P.underlying f.type with
       |none=>simp[lF]at hf
       |some d=>cases d<;>simp[lF]at hf h0
     ·exact tA
    obtain⟨_,nf,bw,cX⟩:=Ci oa;have hF:P.fieldsOf t=F:=by simp[Program.fieldsOf,hu]
    have fL:∀(a b:List D),jg a b=some true->a=b:=by
     intro a;induction a with
     |nil=>intro b hb;cases b<;>simp[jg]at hb⊢
     |cons c a ih=>
      intro b hb;cases b with
      |nil=>simp[jg]at hb
      |cons c' b=>
       simp only[jg]at hb;cases jh:uu c c' with
       |none=>simp[jh]at hb
       |some r=>
        cases r with
        |false=>simp only[jh]at hb;cases hr:jg a b<;>simp[hr]at hb
        |true=>
         simp only[jh]at hb;have h1:c=c':=by cases c<;>cases c'<;>simp[uu]at jh⊢ <;>first|exact⟨jh.1,jh.2⟩|exact jh
         rw[h1,ih b hb]
    obtain rfl:=fL _ _ he;have aeh:∀(ks:List Nat) (l:List D),cq ks l=true->∀d∈l,(∃k n,d= .int k n)\/(∃b,d= .bool b)\/∃s,d= .str s:=by
     intro ks;induction ks with
     |nil=>intro l hl d hd;cases l with
      |nil=>cases hd
      |cons x l=>simp[cq]at hl
     |cons k ks ih=>
      intro l hl d hd;obtain⟨d',ds',rfl,h1,h2,_⟩:=yT (P:=P) hl;rcases List.mem_cons.1 hd with rfl|hd
      ·cases d<;>simp[uu]at h2<;>simp
      ·exact ih ds' h1 d hd
    have mg:xs=ys:=by
     refine Array.ext oM fun i h1 h2=>?_;have hi:i<da.length:=oM;have r1:=R_ i _ _ (gE hi) (Array.getElem?_eq_getElem h1);have r2:=JY i _ _ (gE hi) (Array.getElem?_eq_getElem h2);rcases aeh ks da bV _ (List.getElem_mem hi)with⟨k,n,hd⟩|⟨b,hd⟩|⟨s,hd⟩<;>rw[hd]at r1 r2
     ·rw[r1.dX,r2.dX]
     ·rw[r1.jQ,r2.jQ]
     ·rw[r1.iU,r2.iU]
    subst mg;constructor
    ·simp only[Op.equal,Op.maxDepth];rw[run_equalIn_struct w 9999 t xs xs (by rw[hF];exact hu) bw,hF];refine FB (S:=S) (ρ:=ρ) (n:=9997) F.toList 0 ks da nf bV fun i d hd=>?_;have hi:i<xs.size:=by have:=(gS.1 hd).1;omega
     rw[Nat.zero_add];exact⟨_,Array.getElem?_eq_getElem hi,R_ i d _ hd (Array.getElem?_eq_getElem hi)⟩
    ·intro op p q;exact run_eqGuard_agg w op t p q xs xs cX
   ·cases h
 ·rename_i a b hk;injection h with h;subst h;rw[hx.jQ,hy.jQ];refine⟨?_,fun op p q=>qR op t p q _ _ (.inr (.inr ⟨_,rfl⟩))⟩;simp only[Op.equal,Op.maxDepth];exact run_equalIn_bool' w 9999 t _ _ (Kt hk)
 ·cases h
def UT{op:BinOp}{t:TypeId}{vx vy:Value}(ho:op= .eql\/op= .neq)(hv:(∃xs,vx= .agg xs)\/(∃b,vx= .bool b)){b:Bool}(h:(Op.equal t vx vy).run P w= .ok b w):
 (binOp op t vx vy).run P w= .ok (.bool (if op= .eql then b else !b)) w:=by
 rcases ho with rfl|rfl<;>rcases hv with⟨xs,rfl⟩|⟨c,rfl⟩<;>cases vy<;>simp[binOp,h]
def KB(ti:TI)(op:BinOp)(dx dy:D):(∃k m k' n,dx= .int k m/\dy= .int k' n)\/(∃m n,dx= .str m/\dy= .str n)\/(dy= .aq/\lR ti op dx dy=D1 ti op dx)\/lR ti op dx dy=KC ti op dx dy:=by cases dx<;>cases dy<;>first|exact .inr (.inr (.inl ⟨rfl,rfl⟩))|exact .inr (.inr (.inr rfl))|exact .inl ⟨_,_,_,_,rfl,rfl⟩|exact .inr (.inl ⟨_,_,rfl,rfl⟩)
def LC{S:Nat->Prop}{t:TypeId}{op:BinOp}{dx d:D}{vx:Value}(hv:D1 (an P t) op dx=some d)(hx:aH w S ρ dx vx)(x y:Operand):
 ∃v,(do eqGuard op t x y vx (.slice none 0 0);binOp op t vx (.slice none 0 0)).run P w= .ok v w/\aH w S ρ d v:=by
 unfold D1 at hv;split at hv
 ·rename_i e esz b ag hk;have hu:=(dh hk).1;have ho:op= .eql\/op= .neq:=by cases op<;>cases dx<;>first|exact .inl rfl|exact .inr rfl|(exact absurd hv (by simp[y7]))
  have hd:∃b n c,vx= .slice b n c/\((d= .gZ)\/d= .bool (if op= .eql then b.isNone else !b.isNone)):=by
   have sl:∀(sz:Nat) (es:List D) (e1 e2:Bool),dx= .sl sz es->(d=if es.isEmpty then .gZ else .bool (if op= .eql then false else true))->∃b n c,vx= .slice b n c/\((d= .gZ)\/d= .bool (if op= .eql then b.isNone else !b.isNone)):=by
    intro sz es e1 e2 he hd;rw[he]at hx;cases hx with
    |pure h=>
     cases h with
     |@sl _ _ A n cap b off us hn dF ja hA=>
      refine⟨A,n,cap,rfl,?_⟩;cases es with
      |nil=>exact .inl hd
      |cons c cs=>
       refine .inr ?_;rw[(hA sI).1];rcases ho with rfl|rfl<;>simpa using hd
   cases dx with
   |aq=>
    rw[hx.gd];refine⟨none,0,0,rfl,.inr ?_⟩;rcases ho with rfl|rfl<;>simp[y7]at hv<;>simp[<-hv]
   |bE t' e' s' o' n'=>
    cases hx with
    |pure h=>cases h
    |bE=>
     refine⟨_,_,_,rfl,.inr ?_⟩;rcases ho with rfl|rfl<;>simp[y7]at hv<;>simp[<-hv]
   |sl sz es=>
    refine sl sz es true true rfl ?_;rcases ho with rfl|rfl<;>simp only[y7,sJ]at hv<;>simp[<-hv]
   |_=>rcases ho with rfl|rfl<;>simp[y7]at hv
  obtain⟨bb,n,c,rfl,hd⟩:=hd;have hg:(eqGuard op t x y (.slice bb n c) (.slice none 0 0)).run P w= .ok () w:=by cases op<;>rfl
  have he:(Op.equal t (.slice bb n c) (.slice none 0 0)).run P w= .ok bb.isNone w:=by
   have key:∀d,(Op.equalIn (d+1) t (.slice bb n c) (.slice none 0 0)).run P w= .ok bb.isNone w:=fun d=>by
    unfold Op.equalIn;simp only[Sem.run_bind,run_underlying hu,Result.andThen];cases bb<;>rfl
   exact key 9999
  refine⟨.bool (if op= .eql then bb.isNone else !bb.isNone),?_,?_⟩
  ·simp only[Sem.run_bind,hg,Result.andThen];rcases ho with rfl|rfl<;>simp[binOp,he]
  ·rcases hd with rfl|rfl
   ·exact .pure (.gZ _)
   ·exact .pure (.bool _)
 ·cases hv
def IL(h:aA X ρ σ bx a w){op:BinOp}{t t':TypeId}{x y:Operand}{d:D}(hv:lR (an P t) op (ev σ x) (ev σ y)=some d):Yields P X ρ bx a w ⟨dst,.binOp op t x y t',ty,pos,af,g⟩ d:=by
 have hx:=h.ev x;have hy:=h.ev y;generalize ev σ x=dx at hv hx;generalize ev σ y=dy at hv hy;rcases KB (an P t) op dx dy with⟨k,m,k',n,rfl,rfl⟩|⟨m,n,rfl,rfl⟩|⟨rfl,he⟩|he
 ·simp only[lR]at hv;split at hv
  ·rename_i hk;subst hk;obtain⟨v,bR,hr⟩:=SQ (P:=P) (ρ:=ρ) (w:=w) op k m n d hv t (az X ρ bx w);refine aQ v ?_ hr;simp only[execOp,Sem.run_bind,hx.dX,hy.dX,qR op t x y _ _ (.inl ⟨_,_,rfl⟩),Result.andThen_ok,bR,Sem.run_pure]
  ·obtain⟨v,bR,hr⟩:=Gc (P:=P) (ρ:=ρ) (w:=w) op k k' m n d hv t (az X ρ bx w);refine aQ v ?_ hr;simp only[execOp,Sem.run_bind,hx.dX,hy.dX,qR op t x y _ _ (.inl ⟨_,_,rfl⟩),Result.andThen_ok,bR,Sem.run_pure]
 ·simp only[lR]at hv;obtain⟨v,bR,hr⟩:=SR (P:=P) (ρ:=ρ) (w:=w) op m n d hv t (az X ρ bx w);refine aQ v ?_ hr;simp only[execOp,Sem.run_bind,hx.iU,hy.iU,qR op t x y _ _ (.inr (.inl ⟨_,rfl⟩)),Result.andThen_ok,bR,Sem.run_pure]
 ·rw[he]at hv;obtain⟨v,bR,hr⟩:=LC (P:=P) hv hx x y;refine aQ v ?_ hr;simp only[Sem.run_bind]at bR;simp only[execOp,Sem.run_bind,hy.gd];rw[bR];rfl
 ·rw[he]at hv;have po:op= .eql\/op= .neq:=by cases op<;>simp[KC]at hv<;>simp
  obtain⟨b,hb,hd⟩:∃b,ED (an P t) dx dy=some b/\d= .bool (if op= .eql then b else !b):=by rcases po with rfl|rfl<;>simp only[KC,mS]at hv<;>obtain⟨b,hb,rfl⟩:=hv<;>exact⟨b,hb,by simp⟩
  obtain⟨he,hg⟩:=S8 hb hx hy;subst hd;have lk:(∃xs,a.eval x= .agg xs)\/(∃b,a.eval x= .bool b):=by
   unfold ED at hb;split at hb
   ·obtain⟨vs,h1,_⟩:=hx.pv;exact .inl ⟨vs,h1⟩
   ·exact .inr ⟨_,hx.jQ⟩
   ·cases hb
  refine aQ (.bool (if op= .eql then b else !b)) ?_ (.pure (.bool _));simp only[execOp,Sem.run_bind,hg,Result.andThen_ok,UT po lk he,Sem.run_pure]
def Me(h:aA X ρ σ bx a w){op:UnOp}{t:TypeId}{x:Operand}{d:D}(hv:IB op (ev σ x)=some d):Yields P X ρ bx a w ⟨dst,.unOp op t x,ty,pos,af,g⟩ d:=by
 have hx:=h.ev x;generalize ev σ x=dx at hv hx;cases dx<;>simp only[IB]at hv<;>try (cases hv;done)
 ·cases op<;>simp only at hv<;>try (cases hv;done)
  ·injection hv with hv;subst hv;exact aQ _ (by simp[execOp,hx.dX,Op.unary,Op.intArith]) (.pure (.int _ _))
  ·injection hv with hv;subst hv;exact aQ _ (by simp[execOp,hx.dX,Op.unary,Op.intBits,dj]) (.pure (.int _ _))
 ·cases op<;>simp only at hv<;>try (cases hv;done)
  injection hv with hv;subst hv;exact aQ _ (by simp[execOp,hx.jQ,Op.unary]) (.pure (.bool _))
theorem Jc{S:Nat->Prop}{dx d:D}{vx:Value}{o:Nat}(hv:kS dx o=some d)(hx:aH w S ρ dx vx):∃b p,vx= .pointer (some ⟨b,p,none⟩)/\aH w S ρ d (.pointer (some ⟨b,p+o,none⟩)):=by
 cases dx with
 |loc s e i j=>
  simp only[kS,sJ]at hv;subst hv;obtain⟨p,hp,rfl⟩:=hx.lJ;exact⟨_,_,rfl,.loc hp oM⟩
 |cA d0 j=>
  simp only[kS,sJ]at hv;subst hv;have eJ:br w S (.cA d0 j) vx:=hx.fy rfl;cases eJ with
  |@cA _ _ b off p us hb hp hc h1 hr=>exact⟨_,_,rfl,.pure (.cA (us:=us) hb oM hc h1 hr)⟩
 |_=>simp[kS]at hv
def Cn(h:aA X ρ σ bx a w){t:TypeId}{x:Operand}{i:Nat}{d:D}(hv:nP (an P t) (ev σ x) i=some d):Yields P X ρ bx a w ⟨dst,.fieldAddr t x i,ty,pos,af,g⟩ d:=by
 have hx:=h.ev x;generalize ev σ x=dx at hv hx;simp only[nP]at hv;cases hk:(an P t).k with
 |struct fs eq=>
  simp only[hk]at hv;obtain⟨F,hu,xH,_⟩:=pD hk;subst xH;simp only[gM,aG]at hv;cases hf:F[i]? with
  |none=>simp[hf]at hv
  |some f=>
   simp only[hf,Option.map_some]at hv;split at hv
   ·cases hv
   ·rename_i hz;obtain⟨b,p,e_,hr⟩:=Jc hv hx;refine aQ _ ?_ hr;have bP:=cW (P:=P) (t:=f.type) oM w;simp only[execOp,Instr.fieldAt,Instr.sureAddr,Sem.run_bind,Sem.run_pure,Result.andThen_ok,run_underlying hu,hf,e_,fieldPlace,bP,hz,if_false,Addr.ea]
 |_=>simp[hk]at hv
def IX(h:aA X ρ σ bx a w){t:TypeId}{x:Operand}{i:Nat}{d:D}(hv:yi (an P t) (ev σ x) i=some d):Yields P X ρ bx a w ⟨dst,.field t x i,ty,pos,af,g⟩ d:=by
 have hx:=h.ev x;generalize ev σ x=dx at hv hx;unfold yi at hv;split at hv
 ·rename_i fs eq ds hk;obtain⟨F,hu,xH,_⟩:=pD hk;subst xH;obtain⟨vs,e_,hl,hr⟩:=hx.pv;simp only[gM,aG]at hv;cases hf:F[i]? with
  |none=>simp[hf]at hv
  |some f=>
   simp only[hf,Option.map_some]at hv;split at hv
   ·cases hv
   ·rename_i hz;have hz:0<cG P f.type:=oM;have Ld:∃v,(part f.type vs f.offset).run P w= .ok v w/\aH w (az X ρ bx w) ρ d v:=by
     have Hh:∃dd,P.underlying f.type=some dd:=let ⟨_,dd,_,h2,_⟩:=lN hz;⟨dd,h2⟩
     obtain⟨dd,Hh⟩:=Hh;unfold jz at hv;cases iy:oW P f.type with
     |true=>
      simp only[iy,if_true]at hv;split at hv
      ·rename_i hle;injection hv with hv;subst hv;refine⟨.agg (vs.extract f.offset (f.offset+cG P f.type)),by simp only[part,Sem.run_bind,qI Hh,Result.andThen_ok,iy,if_true,cW hz,Sem.run_pure],.agg ?_ ?_⟩
       ·simp[D.cells]at hle⊢;omega
       ·intro j c u hc gp;simp only[D.cells]at hc hle;have hj:j<cG P f.type:=by have:=(gS.1 hc).1;simp at this;omega
        rw[List.getElem?_take_of_lt hj,List.getElem?_drop]at hc;rw[Array.getElem?_extract]at gp;split at gp
        ·exact hr _ _ _ hc gp
        ·cases gp
      ·cases hv
     |false=>
      simp only[iy,Bool.false_eq_true,if_false,D.cells]at hv;have ar:=(gS.1 hv).1;have Hi:vs[f.offset]? =some vs[f.offset]:=Array.getElem?_eq_getElem oM;exact⟨_,by simp only[part,Sem.run_bind,qI Hh,Result.andThen_ok,iy,Bool.false_eq_true,if_false,Hi,Sem.run_pure],hr _ _ _ hv Hi⟩
    obtain⟨v,bR,fq⟩:=Ld;refine aQ v ?_ fq;simp only[execOp,Instr.field,Sem.run_bind,Sem.run_pure,Result.andThen_ok,run_underlying hu,hf,e_,asAgg,bR]
 ·cases hv
def I1(h:aA X ρ σ bx a w){t:TypeId}{x y:Operand}{d:D}(hv:oO (ev σ y) (ru (an P t) (ev σ x))=some d):Yields P X ρ bx a w ⟨dst,.index t x y,ty,pos,af,g⟩ d:=by
 have hx:=h.ev x;have hy:=h.ev y;generalize ev σ x=dx at hv hx;generalize ev σ y=dy at hv hy;cases dy with
 |int k n=>
  have hy:=hy.dX;simp only[oO]at hv;unfold ru at hv;split at hv
  ·rename_i s hk;split at hv
   ·rename_i h0;cases hs:s[n.toNat]? with
    |none=>simp[hs]at hv
    |some b=>
     simp only[hs,Option.map_some,sJ]at hv;subst hv;have ar:=(gS.1 hs).1;refine aQ (.int .u8 (b.toNat:Int)) ?_ (.pure (.int _ _));have hb:(⟨s.toArray⟩:ByteArray)[n.toNat]? =some b:=by
      rw[ByteArray.getElem?_lt' _ _ (by simpa[ByteArray.size]using ar)];have:s[n.toNat]=b:=by have:=gE ar;rw[hs]at this;injection this with this;exact this.symm
      rw[<-this];rfl
     simp only[execOp,Instr.index,hy,hx.iU,asIntOf,Sem.run_bind,Sem.run_pure,Result.andThen_ok,run_underlying (qa hk),h0,if_true,hb]
   ·cases hv
  ·rename_i len esz ag ds hk;split at hv
   ·rename_i hc;obtain⟨h0,ar,eI⟩:=hc;obtain⟨e,hu,he,iy⟩:=vP hk;obtain⟨vs,e_,hl,hr⟩:=hx.pv;subst he;subst iy;obtain⟨_,dd,_,Hh,_⟩:=lN eI;have lj:0<=n/\n<((len:Nat):Int):=⟨h0,ar⟩
    have Ld:∃v,(part e vs (n.toNat * cG P e)).run P w= .ok v w/\aH w (az X ρ bx w) ρ d v:=by
     unfold jz at hv;cases iy:oW P e with
     |true=>
      simp only[iy,if_true]at hv;split at hv
      ·rename_i hle;injection hv with hv;subst hv;refine⟨.agg (vs.extract (n.toNat * cG P e) (n.toNat * cG P e+cG P e)),by simp only[part,Sem.run_bind,qI Hh,Result.andThen_ok,iy,if_true,cW eI,Sem.run_pure],.agg ?_ ?_⟩
       ·simp[D.cells]at hle⊢;omega
       ·intro j c u hc gp;simp only[D.cells]at hc hle;have hj:j<cG P e:=by have:=(gS.1 hc).1;simp at this;omega
        rw[List.getElem?_take_of_lt hj,List.getElem?_drop]at hc;rw[Array.getElem?_extract]at gp;split at gp
        ·exact hr _ _ _ hc gp
        ·cases gp
      ·cases hv
     |false=>
      simp only[iy,Bool.false_eq_true,if_false,D.cells]at hv;have ar:=(gS.1 hv).1;have Hi:vs[n.toNat * cG P e]? =some vs[n.toNat * cG P e]:=Array.getElem?_eq_getElem oM;exact⟨_,by simp only[part,Sem.run_bind,qI Hh,Result.andThen_ok,iy,Bool.false_eq_true,if_false,Hi,Sem.run_pure],hr _ _ _ hv Hi⟩
    obtain⟨v,bR,fq⟩:=Ld;refine aQ v ?_ fq;simp only[execOp,Instr.index,hy,e_,asIntOf,Sem.run_bind,Sem.run_pure,Result.andThen_ok,run_underlying hu,lj,and_self,if_true,cW eI,bR]
   ·cases hv
  ·cases hv
 |_=>simp[oO]at hv
theorem pW(h:aA X ρ σ bx a w){lo:Option Operand}{l:Option Int}(hl:eV σ lo=some l):(lo=none/\l=none)\/∃x k n,lo=some x/\l=some n/\a.eval x= .int k n:=by
 cases lo with
 |none=>simp only[eV,sJ]at hl;exact .inl ⟨rfl,hl.symm⟩
 |some x=>
  simp only[eV]at hl;have hx:=h.ev x;generalize ev σ x=dx at hl hx;cases dx<;>simp only[yP]at hl<;>try (cases hl;done)
  injection hl with hl;subst hl;exact .inr ⟨x,_,_,rfl,rfl,hx.dX⟩
def lS(h:aA X ρ σ bx a w){lo hi:Option Operand}{l u:Option Int}(hl:eV σ lo=some l)(hh:eV σ hi=some u){isS:Bool}{len cap p q:Nat}(hc:eb len l u=some (p,q))(hle:len<=cap):
 (Instr.sliceBounds isS len cap (lo.map a.eval) (hi.map a.eval) none).run P w= .ok (p,q,cap) w/\p<=q/\q<=len:=by
 unfold eb at hc;simp only at hc;split at hc
 ·rename_i hb;injection hc with hc;injection hc with h1 h2;rcases pW h hl with⟨rfl,rfl⟩|⟨x,k,n,rfl,rfl,hx⟩<;>rcases pW h hh with⟨rfl,rfl⟩|⟨y,k',m,rfl,rfl,hy⟩<;>simp only[Option.getD_none,Option.getD_some]at hb h1 h2
  ·subst h1;subst h2;refine⟨by simp[Instr.sliceBounds],by omega,by omega⟩
  ·subst h1;subst h2;have c1:0<=m/\m<=(cap:Int):=⟨by omega,by omega⟩
   refine⟨by simp[Instr.sliceBounds,Instr.sliceBound,hy,asIntOf,c1],by omega,by omega⟩
  ·subst h1;subst h2;have c1:0<=n/\n<=(len:Int):=⟨by omega,by omega⟩
   refine⟨by simp[Instr.sliceBounds,Instr.sliceBound,hx,asIntOf,c1],by omega,by omega⟩
  ·subst h1;subst h2;have c1:0<=m/\m<=(cap:Int):=⟨by omega,by omega⟩
   have c2:0<=n/\n<=((m.toNat:Nat):Int):=⟨by omega,by omega⟩
   refine⟨by simp only[Instr.sliceBounds,Instr.sliceBound,hx,hy,asIntOf,Option.map_some,Sem.run_bind,Sem.run_pure,Result.andThen_ok,Sem.run_ite,c1,c2,and_self,if_true],by omega,by omega⟩
 ·cases hc
def Jd(h:aA X ρ σ bx a w){t:TypeId}{x:Operand}{lo hi:Option Operand}{d:D}(hv:zb (eV σ lo) (eV σ hi) (jW (an P t) (ev σ x))=some d):Yields P X ρ bx a w ⟨dst,.slice t x lo hi none,ty,pos,af,g⟩ d:=by
 have hx:=h.ev x;generalize ev σ x=dx at hv hx;cases hl:eV σ lo with
 |none=>simp[hl,zb]at hv
 |some l=>
 cases hh:eV σ hi with
 |none=>simp[hl,hh,zb]at hv
 |some u=>
 simp only[hl,hh,zb]at hv;have key:∀(e esz b:Nat) (ag:Bool) (sz:Nat) (es:List D),(an P t).k= .slice e esz b ag->br w (az X ρ bx w) (.sl sz es) (a.eval x)->(if sz=esz/\0<esz then(eb es.length l u).map fun p=>D.sl sz ((es.drop p.1).take (p.2 - p.1))else none)=some d->Yields P X ρ bx a w ⟨dst,.slice t x lo hi none,ty,pos,af,g⟩ d:=by
  intro e esz b ag sz es hk eJ dZ;split at dZ
  ·rename_i he;obtain⟨he,eI⟩:=he;subst he;obtain⟨hu,gn,_,_⟩:=dh hk;cases hc:eb es.length l u with
   |none=>simp[hc]at dZ
   |some pq=>
    obtain⟨p,q⟩:=pq;simp only[hc,Option.map_some,sJ]at dZ;subst dZ;generalize e_:a.eval x=vx at eJ;cases eJ with
    |@sl _ _ A m cap b' off us hn dF ja hA bP jh h1 hr=>
     subst hn;obtain⟨bR,k1,k2⟩:=lS (P:=P) (isS:=true) (cap:=cap) h hl hh hc dF;have eF:∀(i:Nat) c,((es.drop p).take (q - p))[i]? =some c->es[p+i]? =some c:=fun i c hi=>by
      have ar:=(gS.1 hi).1;simp at ar;rwa[List.getElem?_take_of_lt oM,List.getElem?_drop]at hi
     refine aQ (.slice (if cap=p then A else A.map (·.add (p * sz))) (q - p) (cap - p)) ?_ (.pure (.sl (b:=b') (off:=off+p * sz) (us:=fun i j=>us (p+i) j) (by simp;omega) oM oM (fun bq=>?_)
      (fun i c hi=>bP _ _ (eF i c hi)) (fun i c j c' hi hj=>?_) (fun i c j c' hi hj=>h1 _ _ _ _ (eF i c hi) hj) (fun i c j c' hi hj=>hr _ _ _ _ (eF i c hi) hj)))
     ·simp only[execOp,Instr.sliceAt,Instr.slice,e_,Sem.run_bind,Sem.run_pure,Result.andThen_ok,run_underlying hu,Option.map_none,bR,cW (gn▸eI),<-gn]
     ·have ar:p<es.length:=by
       rcases Nat.lt_or_ge p es.length with h'|h'
       ·exact h'
       ·exfalso;apply bq;rw[List.drop_eq_nil_of_le h'];simp
      obtain⟨rfl,hb⟩:=hA (by rintro rfl;simp at ar);rw[if_neg oM];exact⟨by simp[Addr.ea],hb⟩
     ·have:=jh _ _ _ _ (eF i c hi) hj;rwa[Nat.add_mul,<-Nat.add_assoc]at this
  ·cases dZ
 unfold jW at hv;split at hv
 ·rename_i s hk;cases hc:eb s.length l u with
  |none=>simp[hc]at hv
  |some pq=>
   obtain⟨p,q⟩:=pq;simp only[hc,Option.map_some,sJ]at hv;subst hv;obtain⟨bR,h1,h2⟩:=lS (P:=P) (isS:=false) (cap:=s.length) h hl hh hc (Nat.le_refl _);refine aQ (.string ⟨((s.drop p).take (q - p)).toArray⟩) ?_ (.pure (.str _));have bP:(⟨s.toArray⟩:ByteArray).size=s.length:=by simp[ByteArray.size]
   have hex:(⟨s.toArray⟩:ByteArray).extract p q=⟨((s.drop p).take (q - p)).toArray⟩:=by
    apply ByteArray.ext;apply Array.toList_inj.1;simp[ByteArray.data_extract,List.extract]
   simp only[execOp,Instr.sliceAt,Instr.slice,hx.iU,Sem.run_bind,Sem.run_pure,Result.andThen_ok,run_underlying (qa hk),Option.map_none,Option.isSome_none,Bool.false_eq_true,if_false,bP,bR,hex]
 ·rename_i e esz b ag sz es hk;exact key e esz b ag sz es hk (hx.fy rfl) hv
 ·rename_i e esz b ag s e' sz o n hk;split at hv
  ·rename_i he;obtain⟨he,eI⟩:=he;subst he;obtain⟨hu,gn,_,_⟩:=dh hk;cases hc:eb n l u with
   |none=>simp[hc]at hv
   |some pq=>
    obtain⟨p,q⟩:=pq;simp only[hc,Option.map_some,sJ]at hv;subst hv;generalize e_:a.eval x=vx at hx;cases hx with
    |pure h=>cases h
    |@bE _ _ _ _ _ off cap pl hp bP JC dQ hn dF=>
     obtain⟨bR,k1,k2⟩:=lS (P:=P) (isS:=true) (cap:=cap) h hl hh hc hn;have mO:(execOp a.eval ⟨dst,.slice t x lo hi none,ty,pos,af,g⟩).run P w= .ok (.value (.slice (if cap=p then some ⟨pl.b,off,none⟩else some ⟨pl.b,off+p * sz,none⟩) (q - p) (cap - p))) w:=by simp only[execOp,Instr.sliceAt,Instr.slice,e_,Sem.run_bind,Sem.run_pure,Result.andThen_ok,run_underlying hu,Option.map_none,bR,cW (gn▸eI),<-gn,Option.map_some,Addr.ea]
     by_cases hcp:cap=p
     ·rw[if_pos hcp]at mO;refine aQ _ mO (.bE hp bP (fun h0=>⟨(JC oM).1,?_⟩) (fun hq=>by omega) oM ⟨by omega,dF.2⟩);have:=JC oM;omega
     ·rw[if_neg hcp]at mO;refine aQ _ mO (.bE hp bP (fun h0=>?_) (fun hq=>?_) oM ⟨by omega,dF.2⟩)
      ·have EU:p=0:=oM;subst EU;have:=JC oM;simp only[Nat.zero_mul,Nat.add_zero,Nat.sub_zero];exact this
      ·rw[dQ oM,Nat.add_mul]
  ·cases hv
 ·rename_i e esz b ag sz es hk;exact key e esz b ag sz es hk (hx.fy rfl).rC hv
 ·rename_i e esz b ag s e' i j n hk;split at hv
  ·rename_i yA;subst yA;obtain⟨hu,gn,_,_⟩:=dh hk;cases hc:eb n l u with
   |none=>simp[hc]at hv
   |some pq=>
    obtain⟨p,q⟩:=pq;simp only[hc,Option.map_some,sJ]at hv;subst hv;generalize e_:a.eval x=vx at hx;cases hx with
    |pure h=>cases h
    |@fH _ _ _ _ _ off cap pl hp dQ hn dF=>
     obtain⟨bR,k1,k2⟩:=lS (P:=P) (isS:=true) (cap:=cap) h hl hh hc hn;have mO:(execOp a.eval ⟨dst,.slice t x lo hi none,ty,pos,af,g⟩).run P w= .ok (.value (.slice (some ⟨pl.b,if cap=p then off else off+p,none⟩) (q - p) (cap - p))) w:=by
      simp only[execOp,Instr.sliceAt,Instr.slice,e_,Sem.run_bind,Sem.run_pure,Result.andThen_ok,run_underlying hu,Option.map_none,bR,cW (gn▸(by decide:0<1)),<-gn,Option.map_some,Addr.ea,Nat.mul_one];split<;>rfl
     refine aQ _ mO (.fH hp (fun hq=>?_) oM oM);rw[if_neg oM,dQ oM];omega
  ·cases hv
 ·rename_i n esz ag s e' i j hk;split at hv
  ·rename_i tD;obtain⟨pt,tD⟩:=tD;obtain⟨el,hu,qm,_⟩:=vP hk;rw[pt]at qm;have qm:=qm.symm;cases hc:eb n l u with
   |none=>simp[hc]at hv
   |some pq=>
    obtain⟨p,q⟩:=pq;simp only[hc,Option.map_some,sJ]at hv;subst hv;obtain⟨pl,hp,e_⟩:=hx.lJ;obtain⟨bR,k1,k2⟩:=lS (P:=P) (isS:=false) (cap:=n) h hl hh hc (Nat.le_refl _);have mO:(execOp a.eval ⟨dst,.slice t x lo hi none,ty,pos,af,g⟩).run P w= .ok (.value (.slice (some ⟨pl.b,if n=p then i * pl.sz+j else i * pl.sz+j+p,none⟩) (q - p) (n - p))) w:=by
     simp only[execOp,Instr.sliceAt,Instr.sureAddr,e_,Sem.run_bind,Sem.run_pure,Result.andThen_ok,run_underlying hu,Option.map_none,bR,cW (by rw[qm];decide:0<cG P el),qm,Addr.ea,Nat.mul_one];split<;>rfl
    refine aQ _ mO (.fH hp (fun hq=>?_) oM oM);rw[if_neg oM];omega
  ·cases hv
 ·rename_i n esz ag d0 j hk;split at hv
  ·rename_i tD;obtain⟨pt,tD,hjn,fg⟩:=tD;obtain⟨el,hu,qm,_⟩:=vP hk;rw[pt]at qm;have qm:=qm.symm;cases hc:eb n l u with
   |none=>simp[hc]at hv
   |some pq=>
    obtain⟨p,q⟩:=pq;simp only[hc,Option.map_some,sJ]at hv;subst hv;have eJ:br w (az X ρ bx w) (.cA d0 j) (a.eval x):=hx.fy rfl;generalize e_:a.eval x=vx at eJ;cases eJ with
    |@cA _ _ b off p0 us hS hp jh h1 hr=>
     subst hp;obtain⟨bR,k1,k2⟩:=lS (P:=P) (isS:=false) (cap:=n) h hl hh hc (Nat.le_refl _);have mO:(execOp a.eval ⟨dst,.slice t x lo hi none,ty,pos,af,g⟩).run P w= .ok (.value (.slice (some ⟨b,if n=p then off+j else off+j+p,none⟩) (q - p) (n - p))) w:=by
      simp only[execOp,Instr.sliceAt,Instr.sureAddr,e_,Sem.run_bind,Sem.run_pure,Result.andThen_ok,run_underlying hu,Option.map_none,bR,cW (by rw[qm];decide:0<cG P el),qm,Addr.ea,Nat.mul_one];split<;>rfl
     have eF:∀(m:Nat) c,((d0.cells.drop (j+p)).take (q - p))[m]? =some c->d0.cells[j+p+m]? =some c/\m<q - p:=fun m c hm=>by
      have ar:=(gS.1 hm).1;simp at ar;rw[List.getElem?_take_of_lt oM,List.getElem?_drop]at hm;exact⟨hm,by omega⟩
     have one:∀(m:Nat) c,d0.cells[m]? =some c->c.cells=[c]:=fun m c hm=>gh (List.all_eq_true.1 fg c (mG hm));refine aQ _ mO (.pure (.sl (b:=b) (off:=off+j+p) (us:=fun m _=>us (j+p+m)) (by simp;omega) oM (by show n - p<=maxLen;unfold maxLen;omega) (fun bq=>⟨?_,hS⟩) (fun m c hm=>?_) (fun m c k c' hm cT=>?_) (fun m c k c' hm cT=>?_) (fun m c k c' hm cT=>?_)))
     ·rw[if_neg];intro e;apply bq;have:q - p=0:=oM;rw[this];rfl
     ·rw[one _ _ (eF m c hm).1];rfl
     ·obtain⟨g1,g2⟩:=eF m c hm;rw[one _ _ g1]at cT;obtain rfl:k=0:=by
       rcases k with _|k
       ·rfl
       ·simp at cT
      have:=jh _ _ g1;rw[show off+j+p+m * 1+0=off+(j+p+m) by omega];exact this
     ·exact h1 _ _ (eF m c hm).1
     ·obtain⟨g1,g2⟩:=eF m c hm;rw[one _ _ g1]at cT;obtain rfl:k=0:=by
       rcases k with _|k
       ·rfl
       ·simp at cT
      simp at cT;subst cT;exact hr _ _ g1
  ·cases hv
 ·rename_i e esz b ag hk;split at hv
  ·rename_i eI;obtain⟨hu,gn,_,_⟩:=dh hk;cases hc:eb 0 l u with
   |none=>simp[hc]at hv
   |some pq=>
    obtain⟨p,q⟩:=pq;simp only[hc,Option.map_some,sJ]at hv;subst hv;have e_:=hx.gd;obtain⟨bR,k1,k2⟩:=lS (P:=P) (isS:=true) (cap:=0) h hl hh hc (Nat.le_refl _);obtain rfl:p=0:=oM;obtain rfl:q=0:=oM;refine aQ (.slice none 0 0) ?_ (.pure .aq);simp only[execOp,Instr.sliceAt,Instr.slice,e_,Sem.run_bind,Sem.run_pure,Result.andThen_ok,run_underlying hu,Option.map_none,bR,cW (gn▸eI),if_true,Nat.sub_self]
  ·cases hv
 ·cases hv
end Go.V
