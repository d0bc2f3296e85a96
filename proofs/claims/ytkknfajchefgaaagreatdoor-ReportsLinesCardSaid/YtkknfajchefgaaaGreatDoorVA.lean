/- Lemmas on plain data and programs: part VA. -/
import Derived.Test.YtkknfajchefgaaaGreatDoorVG
set_option linter.all false
set_option maxHeartbeats 8000000
namespace Go.V
universe u
open Go.RowKit
abbrev Env:=Nat->D
abbrev ab:=Nat->Bx
def Bx.none:Bx:=⟨0,0,0,0,[]⟩
def ah{α:Type}(σ:Nat->α)(t:Nat)(v:α):Nat->α:=fun x=>if x=t then v else σ x
theorem aY{α:Type}(σ:Nat->α)(t:Nat)(v:α):ah σ t v t=v:=awx
def ED:Value->D
 | .int k n=> .int k n
 | .bool b=> .bool b
 | .string s=> .str s.data.toList
 | .slice none 0 0=> .ak
 |x=> .raw x
def BK:Value->D
 | .agg cs=> .agg (cs.toList.map ED)
 |x=>ED x
def evG(g:Nat):Option D->D
 |some d=> .bR d 0
 |none=> .raw (.pointer (some ⟨g,0,none⟩))
def ev(σ:Env):Operand->D
 | .tmp t=>σ t
 | .const v=>BK v
 | .global g=>evG g (E5 g)
 | .func f=> .fn (.func f) []
inductive TK where
 |none
 |bool
 |int (k:IntKind)
 |str
 |slice (e esz bytes:Nat) (amU:Bool)
 |arr (n esz:Nat) (amU:Bool)
 |struct (fs:List (Nat×Nat×Bool)) (eq:List Nat)
 |bK
 |map (kt et:TypeId)
 |other
 deriving Inhabited
structure TI where
 k:TK
 size:Nat
 agg:Bool
 zero:List D
 deriving Inhabited
def p_(P:Program)(t:TypeId):Bool:=
 match P.underlying t with
 |some (.struct _)|some (.array ..)=>true
 |_=>false
def qJ(P:Program)(t:TypeId):Bool:=
 match P.underlying t with
 |some .bool|some (.int _)|some .string=>true
 |_=>false
def qN(P:Program)(t:TypeId):Nat:=
 match P.underlying t with
 |some .bool=>1
 |some (.int _)=>2
 |some .string=>3
 |_=>0
def cA(P:Program)(t:TypeId):Nat:=if(P.underlying t).isSome then((P.info? t).map (·.size)).getD 0 else 0
def aaC(P:Program)(f:Field):Option (List Nat):=
 if qJ P f.type&&cA P f.type==1 then some [qN P f.type]else match P.underlying f.type with
  |some (.array n e)=>if qJ P e&&cA P e==1 then some (List.replicate n (qN P e))else none
  |_=>none
def Cc(P:Program):Nat->List Field->Option (List Nat)
 |_,[]=>some []
 |o,f::fs=>match aaC P f with
  |some ks=>if f.name != "_"&&f.offset==o&&cA P f.type==ks.length then (Cc P (o+ks.length) fs).map (ks++·) else none
  |none=>none
def Ga(P:Program)(t:TypeId)(F:Array Field):List Nat:=match Cc P 0 F.toList with
 |some ks=>if !P.stoodInHeld t&& !P.eqGuardType P.depth t then 0::ks else[]
 |none=>[]
def aj(P:Program)(t:TypeId):TI:={
 k:=(match P.underlying t with
  |some .bool=> .bool
  |some (.int k)=> .int k
  |some .string=> .str
  |some (.slice e)=> .slice e (cA P e) (((P.info? e).map (·.bytes)).getD 0) (p_ P e)
  |some (.array n e)=> .arr n (cA P e) (p_ P e)
  |some (.struct fs)=> .struct (fs.toList.map fun f=>(f.offset,cA P f.type,p_ P f.type)) (if fs.toList.all (fun f=>f.name != "_"&&qJ P f.type&&cA P f.type==1)&& !P.stoodInHeld t&& !P.eqGuardType P.depth t&&(fs.toList.map (·.offset))==List.range fs.size&&cA P t==fs.size then fs.toList.map fun f=>qN P f.type else Ga P t fs)
  |some (.interface _)=> .bK
  |some (.map kt et)=> .map kt et
  |some _=> .other
  |none=> .none)
 size:=cA P t
 agg:=p_ P t
 zero:=(((P.info? t).bind (·.zero)).map fun z=>z.cells.toList.map ED).getD []}
def j7(d:D)(j:Nat)(ag:Bool)(k:Nat):Option D:=
 if ag then(if j+k<=d.cells.length then some (.agg ((d.cells.drop j).take k))else none)else d.cells[j]?
def ed(d:D)(j:Nat)(cs:List D):Option D:=
 if j+cs.length<=d.cells.length then
  match d with
  | .agg ds=>some (.agg (ds.take j++cs++ds.drop (j+cs.length)))
  |_=>match cs with
   |[c]=>some c
   |_=>none
 else none
def xM:D->D->Option Bool
 | .int k a,.int k' b=>if k=k' then some (a==b)else none
 | .bool a,.bool b=>some (a==b)
 | .str a,.str b=>some (a==b)
 |_,_=>none
def mO:List D->List D->Option Bool
 |[],[]=>some true
 |a::as,b::bs=>match xM a b with
  |some true=>mO as bs
  |some false=>match mO as bs with
   |some _=>some false
   |none=>none
  |none=>none
 |_,_=>none
def bU:List Nat->List D->Bool
 |[],[]=>true
 |1::ks,.bool _::ds=>bU ks ds
 |2::ks,.int _ _::ds=>bU ks ds
 |3::ks,.str _::ds=>bU ks ds
 |_,_=>false
def HA(k:Nat)(ks:List Nat)(a b:List D):Option Bool:=if k=0/\bU ks a=true/\mO a b=some true then some true else none
def JS(ti:TI)(x y:D):Option Bool:=
 match ti.k,x,y with
 | .struct _ (k::ks),.agg a,.agg b=>if bU (k::ks) a then mO a b else HA k ks a b
 | .bool,.bool a,.bool b=>some (a==b)
 |_,_,_=>none
def Yf(op:BinOp)(a b:Int):Option D:=
 match op with
 | .eql=>some (.bool (a==b))
 | .neq=>some (.bool (a != b))
 | .lss=>some (.bool (decide (a<b)))
 | .leq=>some (.bool (decide (a<=b)))
 | .gtr=>some (.bool (decide (b<a)))
 | .geq=>some (.bool (decide (b<=a)))
 |_=>none
def fg(op:BinOp)(k:IntKind)(a b:Int):Int:=
 k.wrap ((match op with
  | .and=>BitVec.ofInt k.bits a&&& BitVec.ofInt k.bits b
  | .or=>BitVec.ofInt k.bits a|||BitVec.ofInt k.bits b
  | .xor=>BitVec.ofInt k.bits a ^^^ BitVec.ofInt k.bits b
  |_=>BitVec.ofInt k.bits a&&& ~~~(BitVec.ofInt k.bits b):BitVec k.bits).toNat:Int)
def La(op:BinOp)(k:IntKind)(a b:Int):Option D:=
 if b<0 then none else match op with
 | .shl=>some (.int k (k.wrap (a * 2 ^ (min b.toNat k.bits))))
 | .shr=>some (.int k (a.fdiv (2 ^ (min b.toNat k.bits))))
 |_=>none
def oP(op:BinOp)(k:IntKind)(a b:Int):Option D:=
 match op with
 | .and=>some (.int k (fg .and k a b))
 | .or=>some (.int k (fg .or k a b))
 | .xor=>some (.int k (fg .xor k a b))
 | .andNot=>some (.int k (fg .andNot k a b))
 | .shl=>La .shl k a b
 | .shr=>La .shr k a b
 | .add=>some (.int k (k.wrap (a+b)))
 | .sub=>some (.int k (k.wrap (a - b)))
 | .mul=>some (.int k (k.wrap (a * b)))
 | .quo=>if b=0 then none else some (.int k (k.wrap (a.tdiv b)))
 | .rem=>if b=0 then none else some (.int k (a.tmod b))
 |op=>Yf op a b
def vG(op:BinOp)(a b:List UInt8):Option D:=
 match op with
 | .add=>if a.length+b.length<=9223372036854775807 then some (.str (a++b))else none
 | .eql=>some (.bool (a==b))
 | .neq=>some (.bool (!(a==b)))
 | .lss=>some (.bool (Op.bytesLess a b))
 | .leq=>some (.bool (Op.bytesLess a b||a==b))
 | .gtr=>some (.bool (!(Op.bytesLess a b||a==b)))
 | .geq=>some (.bool (!Op.bytesLess a b))
 |_=>none
def Sa(ti:TI)(op:BinOp)(a b:D):Option D:=
 match op with
 | .eql=>(JS ti a b).map .bool
 | .neq=>(JS ti a b).map fun x=> .bool (!x)
 |_=>none
def yC(op:BinOp)(x:D):Option D:=match op,x with
 | .eql,.ak=>some (.bool true)
 | .neq,.ak=>some (.bool false)
 | .eql,.ba ..=>some (.bool false)
 | .neq,.ba ..=>some (.bool true)
 | .eql,.sl _ es=>some (if es.isEmpty then .jd else .bool false)
 | .neq,.sl _ es=>some (if es.isEmpty then .jd else .bool true)
 |_,_=>none
def IZ(ti:TI)(op:BinOp)(x:D):Option D:=match ti.k with
 | .slice ..=>yC op x
 |_=>none
def oy(ti:TI)(op:BinOp):D->D->Option D
 | .int k a,.int k' b=>if k=k' then oP op k a b else La op k a b
 | .str a,.str b=>vG op a b
 |x,.ak=>IZ ti op x
 |a,b=>Sa ti op a b
def isNil:Operand->Bool
 | .const .nilIface=>true
 |_=>false
def sQ:D->Option Bool
 | .bK _ _=>some false
 | .raw .nilIface=>some true
 |_=>none
def Zz(ti:TI)(op:BinOp)(x:D):Option D:=
 match ti.k,op with
 | .bK,.eql=>(sQ x).map .bool
 | .bK,.neq=>(sQ x).map fun b=> .bool (!b)
 |_,_=>none
def ER(ti:TI)(op:BinOp)(x y:D)(c:Bool):Option D:=if c then Zz ti op x else oy ti op x y
def Xu(op:UnOp):D->Option D
 | .bool b=>match op with
   | .not=>some (.bool (!b))
   |_=>none
 | .int k n=>match op with
   | .neg=>some (.int k (k.wrap (0 - n)))
   | .xor=>some (.int k (fg .xor k (if k.signed then -1 else k.max) n))
   |_=>none
 |_=>none
def kJ:D->Nat->Option D
 | .loc t e i j,o=>some (.loc t e i (j+o))
 | .bR d j,o=>some (.bR d (j+o))
 |_,_=>none
def pk(ti:TI)(x:D)(i:Nat):Option D:=
 match ti.k with
 | .struct fs _=>match fs[i]? with
   |some (off,sz,_)=>if sz=0 then none else kJ x off
   |none=>none
 |_=>none
def Cg(ti:TI)(x:D)(i:Nat):Option D:=
 match ti.k,x with
 | .struct fs _, .agg ds=>match fs[i]? with
   |some (off,sz,ag)=>if sz=0 then none else j7 (.agg ds) off ag sz
   |none=>none
 |_,_=>none
def fT(ti:TI)(x:D)(n:Int):Option D:=
 match ti.k with
 | .slice _ esz _ _=>match x with
   | .sl sz es=>if 0<=n/\sz=esz/\0<esz then(es[n.toNat]?).map fun d=> .bR d 0 else none
   | .ba t e sz o len=>if 0<=n/\n<len/\sz=esz/\0<esz then some (.loc t e (o+n.toNat) 0)else none
   | .nu sz es=>if 0<=n/\sz=esz/\0<esz then(es[n.toNat]?).map fun d=> .bR d 0 else none
   | .ic t e i j len=>if 0<=n/\n<len/\esz=1 then some (.loc t e i (j+n.toNat))else none
   |_=>none
 | .arr len esz _=>if 0<=n/\n<len/\1<len/\0<esz then kJ x (n.toNat * esz)else none
 |_=>none
def uZ(ti:TI)(x:D)(n:Int):Option D:=
 match ti.k,x with
 | .str,.str s=>if 0<=n then(s[n.toNat]?).map fun b=> .int .u8 (b.toNat:Int)else none
 | .arr len esz ag,.agg ds=>if 0<=n/\n<len/\0<esz then j7 (.agg ds) (n.toNat * esz) ag esz else none
 |_,_=>none
def jh(ti:TI)(bx:ab):D->Option D
 | .loc t e i j=>if(bx t).ep=e/\lv (bx t).k/\0<ti.size then((bx t).es[i]?).bind fun d=>j7 d j ti.agg ti.size else none
 | .bR d j=>if 0<ti.size then j7 d j ti.agg ti.size else none
 |_=>none
def jZ(x:Option D)(xs:Option (List D)):Option (List D):=match x,xs with
 |some x,some xs=>some (x::xs)
 |_,_=>none
def je(b:Bool)(x y:Prop)(_:Tok (x/\y):=⟨⟩):Prop:=if b then x else y
def F8(d:D)(x y:Prop)(_:Tok (x/\y):=⟨⟩):Prop:=match d with
 | .bool t=>je t x y
 | .jd=>x/\y
 |_=>False
def ze(d:D):Option (Option Bool):=match d with
 | .bool b=>some (some b)
 | .raw (.tuple vs)=>if vs.size=0 then some none else none
 |_=>none
def kx(x:Option Oper)(σ:Env):Option (Option Bool):=match x with
 |some o=>match o.dst with
  |some d=>ze (σ d)
  |none=>none
 |none=>none
def gK(g:Option Bool)(want:Bool)(x y:Prop)(_:Tok (x/\y):=⟨⟩):Prop:=if g=some want then x else y
def uJ(d a b:D):Option D:=match d with
 | .bool t=>some (if t then a else b)
 |_=>none
def qG(d:D)(f:Int->Option D):Option D:=match d with
 | .int _ n=>f n
 |_=>none
def Lw(d:D)(i:Nat):Option D:=match d with
 | .aL ds=>ds[i]?
 |_=>none
def C9(a b:Option (Option Int))(f:Option Int->Option Int->Option D):Option D:=match a,b with
 |some l,some h=>f l h
 |_,_=>none
def E9(d:D):Option (Option Int):=match d with
 | .int _ n=>some (some n)
 |_=>none
def IY(d:D):Option D:=match d with
 | .loc t e i j=>some (.loc t e i j)
 | .bR d j=>some (.bR d j)
 |_=>none
def minD:List D->Option D
 |[.int k a,.int k' b]=>if k=k' then some (.int k (if b<a then b else a))else none
 |_=>none
def Hf:D->D->Option D
 | .int k a,.int k' b=>if k=k' then some (.int k (if a<b then b else a))else none
 |_,_=>none
def maxD:List D->Option D
 |[x,y]=>Hf x y
 |[x,y,z]=>(Hf x y).bind fun m=>Hf m z
 |_=>none
def fu(σ:Env):Option Operand->Option (Option Int)
 |none=>some none
 |some x=>E9 (ev σ x)
def fy(len:Nat)(lo hi:Option Int):Option (Nat×Nat):=
 let h:Int:=hi.getD len;let l:Int:=lo.getD 0
 if 0<=l/\l<=h/\h<=len then some (l.toNat,h.toNat)else none
def kK(ti:TI)(x:D)(lo hi:Option Int):Option D:=
 match ti.k,x with
 | .str,.str s=>(fy s.length lo hi).map fun p=> .str ((s.drop p.1).take (p.2 - p.1))
 | .slice _ esz _ _,.sl sz es=>if sz=esz/\0<esz then(fy es.length lo hi).map fun p=> .sl sz ((es.drop p.1).take (p.2 - p.1))else none
 | .slice _ esz _ _,.ba t e sz o n=>if sz=esz/\0<esz then(fy n lo hi).map fun p=> .ba t e sz (o+p.1) (p.2 - p.1)else none
 | .slice _ esz _ _,.nu sz es=>if sz=esz/\0<esz then(fy es.length lo hi).map fun p=> .sl sz ((es.drop p.1).take (p.2 - p.1))else none
 | .slice _ esz _ _,.ic t e i j n=>if esz=1 then(fy n lo hi).map fun p=> .ic t e i (j+p.1) (p.2 - p.1)else none
 | .arr n esz _,.loc t e i j=>if esz=1/\n<=65536 then(fy n lo hi).map fun p=> .ic t e i (j+p.1) (p.2 - p.1)else none
 | .arr n esz _,.bR d j=>if esz=1/\n<=65536/\j+n<=d.cells.length/\d.cells.all D.one=true then(fy n lo hi).map fun p=> .sl 1 ((d.cells.drop (j+p.1)).take (p.2 - p.1))else none
 | .slice _ esz _ _,.ak=>if 0<esz then(fy 0 lo hi).map fun _=> .ak else none
 |_,_=>none
def Rz(ti:TI)(x:D)(lo:Option Int)(h m:Int):Option D:=
 match ti.k,x with
 | .slice _ esz _ _,.sl sz es=>if sz=esz/\0<esz/\m=h then(fy es.length lo (some h)).map fun p=> .nu sz ((es.drop p.1).take (p.2 - p.1))else none
 | .slice _ esz _ _,.ak=>if m=0/\h=0/\lo.getD 0=0/\0<esz then some .ak else none
 |_,_=>none
def ZF(ti:TI)(x:D)(lo hi mx:Option (Option Int)):Option D:=match lo,hi,mx with
 |some l,some (some h),some (some m)=>Rz ti x l h m
 |_,_,_=>none
def jW(fs:List (Nat×Nat×Bool)):List D->List (Nat×D)->Option (List D)
 |cs,[]=>some cs
 |cs,(i,d)::ps=>match fs[i]? with
  |some (off,sz,_)=>if d.cells.length=sz/\off+sz<=cs.length/\d.cells.all D.one then jW fs (cs.take off++d.cells++cs.drop (off+sz)) ps else none
  |none=>none
def nt(ti:TI)(ps:List (Nat×D)):Option D:=
 match ti.k with
 | .struct fs _=>if ti.zero.length=ti.size/\0<ti.size/\fs.all (fun f=>decide (0<f.2.1))=true then(jW fs ti.zero ps).map .agg else none
 | .arr n esz ag=>if ti.zero.length=ti.size/\0<ti.size/\0<esz then(jW ((List.range n).map fun i=>(i * esz,esz,ag)) ti.zero ps).map .agg else none
 |_=>none
mutual
def D.pure:D->Bool
 | .agg ds| .aL ds| .fn _ ds| .fW _ ds=>D.aH ds
 | .bK _ d=>d.pure
 | .loc ..| .ba ..| .ic ..| .omap ..=>false
 |_=>true
def D.aH:List D->Bool
 |[]=>true
 |d::ds=>d.pure&&D.aH ds
end
def D.tf(c:D):D:=if c.pure then c else .undef
def D.FO:D->D
 | .agg ds=> .agg (ds.map D.tf)
 |d=>D.tf d
def nK(T:TypeId->TI)(ti:TI)(len:Nat)(ps:List (Nat×D)):Option D:=
 match ti.k with
 | .slice e esz _ _=>if ps.map (·.1)=List.range len/\ps.all (fun p=>p.2.cells.length==esz&&p.2.cells.all D.one&&p.2.pure)=true/\0<esz/\len * esz<=65536/\(T e).zero.length=esz then some (.sl esz (ps.map (·.2)))else none
 |_=>none
def AG:TK->D->Option Nat
 | .str,.str s=>some s.length
 | .slice _ _ _ _,.sl _ es=>some es.length
 | .slice _ _ _ _,.ak=>some 0
 | .slice _ _ _ _,.ba _ _ _ _ n=>some n
 | .slice _ _ _ _,.nu _ es=>some es.length
 | .slice _ _ _ _,.ic _ _ _ _ n=>some n
 | .arr n _ _,_=>some n
 |_,_=>none
def pI(b:Builtin)(tis:List TI)(xs:List D):Option D:=
 match b,tis,xs with
 | .len,[ti],[x]=>(AG ti.k x).map fun n:Nat=>D.int .i64 (n:Int)
 | .min,_,xs=>minD xs
 | .max,_,xs=>maxD xs
 | .cap,[⟨.slice _ _ _ _,_,_,_⟩],[.ak]=>some (.int .i64 0)
 |_,_,_=>none
def oz:List D->Option (List UInt8)
 |[]=>some []
 | .int .u8 n::es=>(oz es).map (UInt8.ofNat n.toNat::·)
 |_::_=>none
def TK.vB:TK->Bool
 | .int .u8=>true
 |_=>false
def As(T:TypeId->TI)(s d:TI):D->Option D
 | .int _ n=>match s.k,d.k with
   | .int _,.int k=>some (.int k (k.wrap n))
   |_,_=>none
 | .str x=>match s.k,d.k with
   | .str,.str=>some (.str x)
   |_,_=>none
 | .sl sz es=>match s.k,d.k with
   | .slice e _ _ _,.str=>if sz=1/\(T e).k.vB=true then(oz es).map .str else none
   |_,_=>none
 | .nu sz es=>match s.k,d.k with
   | .slice e _ _ _,.str=>if sz=1/\(T e).k.vB=true then(oz es).map .str else none
   |_,_=>none
 | .ak=>match s.k,d.k with
   | .slice e _ _ _,.str=>if(T e).k.vB=true then some (.str [])else none
   |_,_=>none
 |_=>none
def EB(ag:Bool)(cs:List D):D:=if ag then .agg cs else cs.headD .undef
def kT(ti:TI):Option D:=if 0<ti.size/\ti.zero.length=ti.size/\(ti.agg=true\/ti.size=1)/\ti.zero.all D.one then some (EB ti.agg ti.zero)else none
def DY(ti:TI)(t:TypeId)(x:D):Option D:=match ti.k with
 | .none| .bK=>none
 |_=>some (.bK t x)
def HP(ti:TI)(t:TypeId)(ok:Bool)(x:D):Option D:=match ti.k with
 | .none| .bK=>none
 |_=>match x with
  | .bK t' v=>if t'=t then some (if ok then .aL [v,.bool true]else v)else if ok&& !ti.zero.isEmpty then some (.aL [.undef,.bool false])else none
  | .raw .nilIface=>if ok&& !ti.zero.isEmpty then some (.aL [.undef,.bool false])else none
  |_=>none
def adU(f:Fn)(ds:List D):Option D:=match f with
 | .func g=>some (.fW g ds)
 |_=>none
def zeroV(P:Program)(t:TypeId):Option D:=((P.info? t).bind (·.zero)).map BK
def vL(ti:TI)(z:Option D):Bool:=match ti.k,z with
 | .struct [] _,some (.agg [])=>ti.size==0
 |_,_=>false
def BM(x:Option D)(b:Bool):Option D:=match x with
 |some d=>some d
 |none=>if b then some (.agg [])else none
def zN(x:Option ab)(b:Bool)(bx:ab)(a v:D):Option ab:=match x with
 |some r=>some r
 |none=>match a with
  | .loc ..=>if b=true/\v.cells=[]then some bx else none
  |_=>none
def yT(ti:TI)(x:D):Option D:=match ti.k,x with
 | .arr len _ _,.sl sz es=>if 0<len/\len<=es.length/\sz=1/\(es.take len).all D.one=true then some (.bR (.agg (es.take len)) 0)else none
 |_,_=>none
def cv(P:Program)(σ:Env)(bx:ab):Op->Option D
 | .move x| .assign x=>some (ev σ x)
 | .pick c a b=>uJ (ev σ c) (ev σ a) (ev σ b)
 | .binOp op t x y _=>ER (aj P t) op (ev σ x) (ev σ y) (isNil y)
 | .unOp op _ x=>Xu op (ev σ x)
 | .fieldAddr t x i=>pk (aj P t) (ev σ x) i
 | .field t x i=>Cg (aj P t) (ev σ x) i
 | .indexAddr t x ix=>qG (ev σ ix) (fT (aj P t) (ev σ x))
 | .index t x ix=>qG (ev σ ix) (uZ (aj P t) (ev σ x))
 | .load t a=>jh (aj P t) bx (ev σ a)
 | .extract x i=>Lw (ev σ x) i
 | .slice t x lo hi none=>C9 (fu σ lo) (fu σ hi) (kK (aj P t) (ev σ x))
 | .slice t x lo hi (some mx)=>ZF (aj P t) (ev σ x) (fu σ lo) (fu σ hi) (E9 (ev σ mx))
 | .build t ps=>BM (nt (aj P t) (ps.toList.map fun p=>(p.1,ev σ p.2))) (ps.toList.isEmpty&&vL (aj P t) (zeroV P t))
 | .buildSlice t n ps=>nK (aj P) (aj P t) n (ps.toList.map fun p=>(p.1,ev σ p.2))
 | .nilCheck x=>IY (ev σ x)
 | .makeInterface t x=>DY (aj P t) t (ev σ x)
 | .typeAssert x _ t ok=>HP (aj P t) t ok (ev σ x)
 | .makeFunc f first caps=>if first.size=0 then some (.fn f (caps.toList.map (ev σ)))else if caps.size=0 then adU f (first.toList.map (ev σ))else none
 | .convert s d x=>As (aj P) (aj P s) (aj P d) (ev σ x)
 | .sliceToArrayPointer t x=>yT (aj P t) (ev σ x)
 | .call {callee:=.builtin b,args,argTypes}=>pI b (argTypes.toList.map (aj P)) (args.toList.map (ev σ))
 |_=>none
mutual
def D.bare:D->Bool
 | .agg ds| .aL ds| .fn _ ds| .fW _ ds=>D.Ly ds
 | .bK _ d=>d.bare
 | .loc ..| .ba ..| .ic ..| .omap ..| .sl ..| .nu ..| .bR ..| .undef| .fN=>false
 |_=>true
def D.Ly:List D->Bool
 |[]=>true
 |d::ds=>d.bare&&D.Ly ds
end
mutual
def aU(bx:ab):D->Option D
 | .loc t e i j=>if(bx t).ep=e/\lv (bx t).k then match(bx t).es[i]? with
  |some d=>if d.pure then some (.bR d j)else some (.bR d.FO j)
  |none=>none
   else none
 | .ba t e sz o n=>if(bx t).ep=e/\lv (bx t).k/\(bx t).sz=sz/\o+n<=(bx t).es.length then
  (if D.aH (((bx t).es.drop o).take n)then some (.sl sz (((bx t).es.drop o).take n))else none)else none
 | .ic t e i j n=>if(bx t).ep=e/\lv (bx t).k then match(bx t).es[i]? with
  |some d=>if j+n<=d.cells.length/\D.aH ((d.cells.drop j).take n)=true/\((d.cells.drop j).take n).all D.one=true then some (.sl 1 ((d.cells.drop j).take n))else none
  |none=>none
   else none
 | .agg ds=>(cE bx ds).map .agg
 | .aL ds=>(cE bx ds).map .aL
 | .fn f ds=>(cE bx ds).map (.fn f)
 | .fW f ds=>(cE bx ds).map (.fW f)
 | .bK t d=>(aU bx d).map (.bK t)
 | .omap ..=>none
 |d=>some d
def cE(bx:ab):List D->Option (List D)
 |[]=>some []
 |d::ds=>jZ (aU bx d) (cE bx ds)
end
mutual
def cK(bx:ab):D->ab
 | .loc t _ _ _| .ba t _ _ _ _| .ic t _ _ _ _=>ah bx t {bx t with k:=if(bx t).k=1 then 2 else(bx t).k}
 | .agg ds| .aL ds| .fn _ ds| .fW _ ds=>aS bx ds
 | .bK _ d=>cK bx d
 |_=>bx
def aS(bx:ab):List D->ab
 |[]=>bx
 |d::ds=>aS (cK bx d) ds
end
def B0(ti:TI)(v:D):Option D:=if 0<ti.size/\v.cells.length=ti.size/\v.cells.all D.one then some v else none
def put(σ:Env)(dst:Option Tmp)(v:D):Env:=
 match dst with
 |some d=>ah σ d v
 |none=>σ
def aJ{α:Type}(x:Option α)(f:α->Prop)(_:Tok f:=⟨⟩):Prop:=
 match x with
 |some v=>f v
 |none=>False
def mz(bx:ab)(esz:Nat):D->Option (List D)
 | .ak=>some []
 | .sl sz es=>if sz=esz then some es else none
 | .ba t e sz o n=>if sz=esz/\(bx t).ep=e/\lv (bx t).k/\(bx t).sz=sz/\o+n<=(bx t).es.length then some (((bx t).es.drop o).take n)else none
 | .nu sz es=>if sz=esz then some es else none
 | .ic t e i j n=>if esz=1/\(bx t).ep=e/\lv (bx t).k then match(bx t).es[i]? with
  |some d=>if j+n<=d.cells.length/\((d.cells.drop j).take n).all D.one=true then some ((d.cells.drop j).take n)else none
  |none=>none
   else none
 |_=>none
def slO(x:D)(bx:ab):Option (D×ab):=match x with
 | .nu sz es=>some (.sl sz es,bx)
 | .ak=>some (x,bx)
 | .ba ..=>some (x,bx)
 | .sl ..=>some (x,bx)
 |_=>none
def Md(lo d el esz bytes:Nat)(bx:ab)(t:Nat)(b:Bx)(e sz o n:Nat)(ys:List D):Option (D×ab):=
 if lo<=t/\sz=esz/\o=0/\b.ep=e/\b.k=1/\b.sz=sz/\b.ty=el/\n<=b.es.length/\(n+ys.length) * bytes<=140737488355328/\0<esz/\0<bytes then
  some (.ba d ((bx d).ep+1) esz 0 (n+ys.length),ah (ah bx t {b with k:=0}) d ⟨(bx d).ep+1,1,esz,el,b.es.take n++ys⟩)else none
def Ac(lo d el esz bytes:Nat)(bx:ab)(x:D)(ys:List D):Option (D×ab):=match x with
 | .ak=>if ys.length * bytes<=140737488355328/\0<esz/\0<bytes then
  some (.ba d ((bx d).ep+1) esz 0 ys.length,ah bx d ⟨(bx d).ep+1,1,esz,el,ys⟩)else none
 | .ba t e sz o n=>Md lo d el esz bytes bx t (bx t) e sz o n ys
 | .nu sz es=>if sz=esz/\(es.length+ys.length) * bytes<=140737488355328/\0<esz/\0<bytes then
  some (.ba d ((bx d).ep+1) esz 0 (es.length+ys.length),ah bx d ⟨(bx d).ep+1,1,esz,el,es++ys⟩)else none
 |_=>none
def cM(s:List UInt8):List D:=s.map fun b=> .int .u8 (b.toNat:Int)
def jC(lo:Nat)(T:TypeId->TI)(ti:TI)(dst:Option Tmp)(bx:ab)(x:D)(ys:List D):Option (D×ab):=
 match ti.k,dst with
 | .slice el esz bytes _,some d=>if ys=[]then slO x bx else if(T el).zero.length=esz then Ac lo d el esz bytes bx x ys else none
 |_,_=>none
def R6(lo:Nat)(T:TypeId->TI)(ti:TI)(dst:Option Tmp)(bx:ab)(x y:D):Option (D×ab):=match ti.k with
 | .slice _ esz _ _=>if esz=0 then none else(mz bx esz y).bind fun ys=>jC lo T ti dst bx x ys
 |_=>none
def aay(lo d el esz bytes:Nat)(bx:ab)(x:D)(ys:List D):Option (D×ab):=match x with
 | .ak=>if ys=[]then some (x,bx)else Ac lo d el esz bytes bx x ys
 | .ba ..=>if ys=[]then some (x,bx)else Ac lo d el esz bytes bx x ys
 |_=>none
def Me(lo:Nat)(T:TypeId->TI)(ti ti':TI)(dst:Option Tmp)(bx:ab)(x y:D):Option (D×ab):=match ti.k,ti'.k,dst,y with
 | .slice el esz bytes _,.int _,some d,.int _ n=>if 0<=n/\n<=140737488355328/\(T el).zero.length=esz/\0<esz/\0<bytes then(kT (T el)).bind fun z=>aay lo d el esz bytes bx x (List.replicate n.toNat z)else none
 | .slice el esz _ _,.str,some _,.str s=>if(T el).zero.length=esz/\esz=1/\(T el).k.vB=true then jC lo T ti dst bx x (cM s)else none
 |_,_,_,_=>none
def BZ(lo:Nat)(T:TypeId->TI)(t t':TypeId)(dst:Option Tmp)(bx:ab)(x y:D):Option (D×ab):=
 if t=t' then R6 lo T (T t) dst bx x y else Me lo T (T t) (T t') dst bx x y
def Lv(lo:Nat)(T:TypeId->TI)(ts:List TypeId)(dst:Option Tmp)(bx:ab)(xs:List D):Option (D×ab):=match ts,xs with
 |[t,t'],[x,y]=>BZ lo T t t' dst bx x y
 |_,_=>none
def Ai(bx:ab)(t:Nat)(b:Bx)(e i j:Nat)(cs:List D):Option ab:=if b.ep=e/\b.k=1 then
 match b.es[i]? with
 |some d0=>(ed d0 j cs).map fun d'=>ah bx t {b with es:=b.es.set i d'}
 |none=>none
 else none
def gZ(lo:Nat)(ti:TI)(bx:ab)(a v:D):Option ab:=
 match a with
 | .loc t e i j=>if lo<=t/\v.cells.length=ti.size/\0<ti.size/\v.cells.all D.one then Ai bx t (bx t) e i j v.cells else none
 |_=>none
inductive Cl where
 |n
 |r (t:Nat)
 |w (t:Nat)
 |ra
 |wa
 |cd (d:D)
def Cl.rd:Cl->Nat->Bool
 | .n,_=>false
 | .r t,s| .w t,s=>s==t
 |_,_=>true
def Cl.wr:Cl->Nat->Bool
 | .w t,s=>s==t
 | .wa,_| .cd _,_=>true
 |_,_=>false
def pE:D->Cl
 | .loc t _ _ _=> .r t
 |_=> .n
def ot:D->Cl
 | .loc t _ _ _=> .w t
 |_=> .wa
def apart:Cl->Cl->Prop
 | .n,_|_,.n=>True
 | .r _,.r _| .ra,.r _| .r _,.ra| .ra,.ra=>True
 | .r s,.w t| .w s,.r t| .w s,.w t=>s≠t
 |_,_=>False
def FX:Option Cl->Option Cl->Prop
 |some a,some b=>apart a b
 |_,_=>False
def j_:List (Nat×Nat)->List Cl->Prop
 |[],_=>True
 |(i,j)::ps,acc=>FX acc[i]? acc[j]?/\j_ ps acc
def mj:List (Nat×List (Nat×Nat))->Nat->List (Nat×Nat)
 |[],_=>[]
 |(k,ps)::r,id=>if k=id then ps else mj r id
structure ik where
 to:FuncId->List D->D->Prop
 pT:FuncId->Nat->List D->ab->(D->ab->Prop)->(D->ab->Prop)->Prop
 it:FuncId->List D->List (List D)->Nat->Prop
 CJ:FuncId->Bx->List (List D)->Option D->Nat->Prop
structure Calc where
 o:ik
 tab:List (Nat×List (Nat×Nat))
 base:Nat
 aN:Nat
 lo:Nat
 yl:Option (List (List D)×Nat×Nat×Nat)
 pn:Bool
 df:Bool
def Calc.wN(C:Calc):Calc:=⟨⟨C.o.to,fun _ _ _ _ _ _=>False,fun _ _ _ _=>False,fun _ _ _ _ _=>False⟩,C.tab,C.base,C.aN,C.lo,none,false,false⟩
mutual
def D.simple:D->Bool
 | .int ..| .bool _| .str _| .raw _| .ak=>true
 | .agg ds| .fn _ ds=>D.pD ds
 |_=>false
def D.pD:List D->Bool
 |[]=>true
 |d::ds=>d.simple&&D.pD ds
end
def oq:TK->D->D->Option Bool
 | .int _,.int k a,.int k' b=>if k=k' then some (a==b)else none
 | .str,.str a,.str b=>some (a==b)
 | .bool,.bool a,.bool b=>some (a==b)
 |_,_,_=>none
def oh:TK->D->Bool
 | .int j,.int k _=>decide (k=j)
 | .str,.str _=>true
 | .bool,.bool _=>true
 |_,_=>false
def dX(tk:TK)(k:D):List D->Nat->Option (Option (Nat×D))
 |[],_=>some none
 | .aL [k',v,_]::es,i=>match oq tk k k' with
   |some true=>some (some (i,v))
   |some false=>dX tk k es (i+1)
   |none=>none
 |_,_=>none
def Ft(k v:D):D->D
 | .aL [_,_,b]=> .aL [k,v,b]
 |d=>d
def nj(tk:TK)(k v:D)(c:Int)(es:List D):Option (List D):=match dX tk k es 0 with
 |some (some (i,_))=>some (.int .i64 c::es.modify i (Ft k v))
 |some none=>some (.int .i64 (c+1)::(es++[.aL [k,v,.int .i64 c]]))
 |none=>none
def MI(tk:TK)(k:D)(c:Int)(es:List D):Option (List D):=match dX tk k es 0 with
 |some (some (i,_))=>some (.int .i64 c::es.eraseIdx i)
 |some none=>some (.int .i64 c::es)
 |none=>none
def He(t:Nat):List D->Option (Nat×Int×List D)
 | .int .i64 c::es=>some (t,c,es)
 |_=>none
def jI(bx:ab):D->Option (Nat×Int×List D)
 | .omap t e=>if(bx t).ep=e/\(bx t).k=3 then He t (bx t).es else none
 |_=>none
def CL(t:Nat):List D->Option (Nat×D×Int×Int×List D)
 | .omap m k:: .int .i64 s:: .int .i64 l::seen=>some (t,.omap m k,s,l,seen)
 |_=>none
def zB(bx:ab):D->Option (Nat×D×Int×Int×List D)
 | .loc t e 0 0=>if(bx t).ep=e/\(bx t).k=3 then CL t (bx t).es else none
 |_=>none
def intOf:D->Int
 | .int _ n=>n
 |_=>0
def iQ:D->Int
 | .aL [_,_,.int .i64 n]=>n
 |_=>0
def vJ(Z:Option D)(ok:Bool):Option (Option (Nat×D))->Option D
 |some (some (_,v))=>some (if ok then .aL [v,.bool true]else v)
 |some none=>Z.map fun z=>if ok then .aL [z,.bool false]else z
 |none=>none
def x7(P:Program)(T:TypeId->TI)(ti:TI)(bx:ab)(m k:D)(ok:Bool):Option D:=match ti.k with
 | .map kt et=>if oh (T kt).k k=true then(jI bx m).bind fun r=>vJ (zeroV P et) ok (dX (T kt).k k r.2.2 0)else none
 |_=>none
def Bh:D->Cl
 | .omap t _=> .r t
 |_=> .n
def ff(bx:ab)(t:Nat)(es:List D):ab:=ah bx t {bx t with es:=es}
def vH(T:TypeId->TI)(ti:TI)(bx:ab)(m k v:D):Option ab:=match ti.k with
 | .map kt _=>if oh (T kt).k k=true/\v.simple=true then(jI bx m).bind fun r=>(nj (T kt).k k v r.2.1 r.2.2).map (ff bx r.1)else none
 |_=>none
def Sr(T:TypeId->TI)(ti:TI)(bx:ab)(m k:D):Option ab:=match ti.k with
 | .map kt _=>if oh (T kt).k k=true then(jI bx m).bind fun r=>(MI (T kt).k k r.2.1 r.2.2).map (ff bx r.1)else none
 |_=>none
def DI(T:TypeId->TI)(ts:List TypeId)(bx:ab)(xs:List D):Option ab:=match ts,xs with
 |t::_,[m,k]=>Sr T (T t) bx m k
 |_,_=>none
def Fa(bx:ab)(xs:List D):Option D:=match xs with
 |[m]=>(jI bx m).map fun r=> .int .i64 (r.2.2.length:Int)
 |_=>none
def Fy(ti:TI)(bx:ab)(x:D):Option (List D):=match ti.k with
 | .map _ _=>(jI bx x).map fun r=>[x,.int .i64 r.2.1,.int .i64 r.2.1]
 |_=>none
def DJ(seen:List D)(es:List D):Option D:=match seen.getLast? with
 |some s=>match es.find? fun e=>iQ e==intOf s with
  |some (.aL [k,v,_])=>some (.aL [k,v])
  |_=>none
 |none=>none
def wP(bx:ab)(x:D):Option D:=(zB bx x).bind fun i=>(jI bx i.2.1).bind fun r=>if r.2.1=i.2.2.2.1 then DJ i.2.2.2.2 r.2.2 else none
def jf(seen es:List D):List D:=es.filter fun e=> !(seen.map intOf).contains (iQ e)
def AM(bx:ab)(x:D)(K:D->ab->Prop)(_:Tok (K .undef bx):=⟨⟩):Prop:=aJ (zB bx x) fun i=>aJ (jI bx i.2.1) fun r=>
 (i.2.2.2.2=[]\/r.2.2=[]\/∃e∈r.2.2,iQ e<i.2.2.2.1)/\
 (∀k v b,.aL [k,v,.int .i64 b]∈jf i.2.2.2.2 r.2.2->K (.aL [.bool true,k,v]) (ff bx i.1 (i.2.1:: .int .i64 i.2.2.1:: .int .i64 r.2.1::(i.2.2.2.2++[.int .i64 b]))))/\
 ((∀e∈jf i.2.2.2.2 r.2.2,i.2.2.1<=iQ e)->K (.aL [.bool false]) bx)
def bg(n:Nat)(bx:ab):ab:=fun s=>if s<n then bx s else .none
def CX(lo hi:Nat)(bx bx1:ab):ab:=fun s=>if lo<=s/\s<hi then bx s else bx1 s
inductive bA:D->D->Prop where
 |refl (d:D):bA d d
 |nil (sz:Nat):bA .ak (.sl sz [])
 |aL {ds ds':List D} (hl:ds.length=ds'.length) (h:∀(i:Nat) x x',ds[i]? =some x->ds'[i]? =some x'->bA x x'):bA (.aL ds) (.aL ds')
 |agg {ds ds':List D} (hl:ds.length=ds'.length) (h:∀(i:Nat) x x',ds[i]? =some x->ds'[i]? =some x'->bA x x'):bA (.agg ds) (.agg ds')
 |sl {sz:Nat} {ds ds':List D} (hl:ds.length=ds'.length) (hz:∀(i:Nat) x x',ds[i]? =some x->ds'[i]? =some x'->x.cells.length=x'.cells.length)
  (h:∀(i:Nat) x x' (j:Nat) c c',ds[i]? =some x->ds'[i]? =some x'->x.cells[j]? =some c->x'.cells[j]? =some c'->bA c c'):bA (.sl sz ds) (.sl sz ds')
def loF(lo:Nat)(bx:ab)(bP Pan:D->ab->Prop):Prop:=lo=0\/((∀d bx',bP d bx'->bg lo bx'=bg lo bx)/\∀d bx',Pan d bx'->bg lo bx'=bg lo bx)
abbrev yB(lo hi gs:Nat)(bx bx1:ab)(n:Nat):ab:=ah (CX lo hi bx bx1) gs {bx gs with sz:=n}
def c_(C:Calc)(f:FuncId)(ds:List D)(bx:ab)(K:Cl->D->ab->Prop)(_:Tok (K .n .undef bx):=⟨⟩):Prop:=
 (∃d,D.aH ds=true/\C.o.to f ds d/\K .n d bx)\/
 (∃ds' d,cE bx ds=some ds'/\C.o.to f ds' d/\d.bare=true/\K .ra d bx)\/
 (∃ds' d,C.lo=0/\cE bx ds=some ds'/\C.o.to f ds' d/\K .wa d (aS bx ds))\/
 (∃bP Pan,loF C.lo bx bP Pan/\C.o.pT f C.aN ds bx bP Pan/\(∀d bx',bP d bx'->K .wa d bx'\/C.lo=0/\∃r r',aU bx' d=some r/\bA r r'/\K .wa r' (aS bx' [d]))/\∀d bx',Pan d bx'->K (.cd d) .undef bx')
def tv(C:Calc)(l:Nat)(ds:List D)(bx:ab)(K:Cl->D->ab->Prop)(_:Tok (K .n .undef bx):=⟨⟩):Prop:=match C.yl with
 |some (items,gs,l',_)=>(l'=l/\D.aH ds=true/\items[(bx gs).sz]? =some ds)/\∀bx1:ab,
  K .wa (.bool true) (yB C.lo C.aN gs bx bx1 ((bx gs).sz+1))/\
  K .wa (.bool false) (yB C.lo C.aN gs bx bx1 (items.length+1))
 |none=>False
def gk(C:Calc)(d:D)(ds:List D)(bx:ab)(K:Cl->D->ab->Prop)(_:Tok (K .n .undef bx):=⟨⟩):Prop:=match d with
 | .fn (.func f) caps=>c_ C f (ds++caps) bx K
 | .fn (.yield l) []=>tv C l ds bx K
 | .fW f fs=>c_ C f (fs++ds) bx K
 |_=>False
def eI:Nat:=1000000000
def I4(d:D)(f:D->Prop)(_:Tok (f .undef):=⟨⟩):Prop:=match d with
 | .bK t v=>f (.bK t v)
 |_=>False
def Hp:D->D->List D->D
 | .any l,fo,args=> .any (.aL (fo::args)::l)
 |_,fo,args=> .any [.aL (fo::args)]
def x9(T:TypeId->TI)(ti:TI)(l c:D):Option (Nat×TypeId×List D):=match ti.k,l,c with
 | .slice el esz bytes _,.int _ n,.int _ m=>if 0<=n/\n<=m/\m * bytes<=140737488355328/\0<esz/\0<bytes/\(T el).size=esz then(kT (T el)).map fun z=>(esz,el,List.replicate n.toNat z)else none
 |_,_,_=>none
def x6(T:TypeId->TI)(ti:TI)(len:Nat)(ps:List (Nat×D)):Option (Nat×TypeId×List D):=
 match ti.k with
 | .slice e esz _ _=>if ps.map (·.1)=List.range len/\ps.all (fun p=>p.2.cells.length==esz&&p.2.cells.all D.one)=true/\0<esz/\len * esz<=65536/\(T e).zero.length=esz then some (esz,e,ps.map (·.2))else none
 |_=>none
def qP:List (Nat×List (Nat×Nat))->Nat->Bool
 |[],_=>false
 |(k,_)::r,d=>if k=1000000+d then true else qP r d
def afL(tab:List (Nat×List (Nat×Nat))):Option Tmp->Bool
 |some d=>qP tab d
 |none=>false
def lL(b:Nat):Option Tmp->Option Nat
 |some d=>some (b+d)
 |none=>none
def aaB(lo:Nat)(bx:ab)(x:D)(ys:List D):Option (Nat×ab):=match x with
 | .ak=>some (0,bx)
 | .ba t e sz o n=>if lo<=t/\sz=1/\(bx t).ep=e/\(bx t).k=1/\(bx t).sz=1/\o+n<=(bx t).es.length then
  some (min ys.length n,ah bx t {bx t with es:=(bx t).es.take o++ys.take n++(bx t).es.drop (o+min ys.length n)})else none
 | .ic t e i j n=>if lo<=t/\(bx t).ep=e/\(bx t).k=1 then match(bx t).es[i]? with
  |some d=>(ed d j (ys.take n)).map fun d'=>(min ys.length n,ah bx t {bx t with es:=(bx t).es.set i d'})
  |none=>none
   else none
 |_=>none
def Sp(lo:Nat)(ti ti':TI)(bx:ab)(x y:D):Option (Nat×ab):=match ti.k,ti'.k with
 | .slice _ esz _ _,.slice _ _ _ _=>if esz=1 then(mz bx 1 y).bind fun ys=>if ys.all D.one=true then aaB lo bx x ys else none else none
 |_,_=>none
def F9(lo:Nat)(T:TypeId->TI)(ts:List TypeId)(bx:ab)(xs:List D):Option (Nat×ab):=match ts,xs with
 |[t,t'],[x,y]=>Sp lo (T t) (T t') bx x y
 |_,_=>none
def TK.SY:TK->Bool
 | .map ..=>true
 |_=>false
def qQ(P:Program):Op->Bool
 | .makeMap ..| .mapUpdate ..| .insert ..| .range ..| .next ..| .entry ..=>true
 | .call {callee:= .builtin b,args:=_,argTypes}=>match b with
   | .delete=>true
   | .copy=>true
   | .len=>match argTypes.toList with
     |[T]=>(aj P T).k.SY
     |_=>false
   |_=>false
 |_=>false
def nH:Op->Bool
 | .next ..=>true
 | .call {callee:=.builtin .len,..}=>true
 |_=>false
def iL(P:Program)(C:Calc)(dst:Option Tmp)(op:Op)(σ:Env)(bx:ab)(K:Cl->Env->ab->Prop):Prop:=match op with
 | .makeMap T none=>match dst with
   |some d=>K .wa (ah σ d (.omap (C.base+d) ((bx (C.base+d)).ep+1))) (ah bx (C.base+d) ⟨(bx (C.base+d)).ep+1,3,0,T,[.int .i64 0]⟩)
   |none=>False
 | .mapUpdate T m k v=>aJ (vH (aj P) (aj P T) bx (ev σ m) (ev σ k) (ev σ v)) fun bx'=>K .wa (put σ dst (.raw undef)) bx'
 | .insert T m k v=>aJ (vH (aj P) (aj P T) bx (ev σ m) (ev σ k) (ev σ v)) fun bx'=>K .wa (put σ dst (.raw undef)) bx'
 | .range T x=>match dst with
   |some d=>aJ (Fy (aj P T) bx (ev σ x)) fun es=>K .wa (ah σ d (.loc (C.base+d) ((bx (C.base+d)).ep+1) 0 0)) (ah bx (C.base+d) ⟨(bx (C.base+d)).ep+1,3,0,0,es⟩)
   |none=>False
 | .next it false=>AM bx (ev σ it) fun v bx'=>K .wa (put σ dst v) bx'
 | .entry it=>aJ (wP bx (ev σ it)) fun v=>K .wa (put σ dst v) bx
 | .call {callee:= .builtin b,args,argTypes}=>match b with
   | .delete=>aJ (DI (aj P) argTypes.toList bx (args.toList.map (ev σ))) fun bx'=>K .wa (put σ dst (.raw (.tuple #[]))) bx'
   | .len=>aJ (Fa bx (args.toList.map (ev σ))) fun v=>K .wa (put σ dst v) bx
   | .copy=>aJ (F9 C.lo (aj P) argTypes.toList bx (args.toList.map (ev σ))) fun r=>K .wa (put σ dst (.int .i64 (r.1:Int))) r.2
   |_=>False
 |_=>False
def R7(lo d el esz bytes:Nat)(bx:ab)(x:D)(ys:List D):Option ((D×ab)×(D×ab)):=match x with
 | .ba t e sz o n=>if lo<=t/\sz=esz/\(bx t).ep=e/\(bx t).k=1/\(bx t).sz=sz/\(bx t).ty=el/\o+n<=(bx t).es.length/\(n+ys.length) * bytes<=140737488355328/\0<esz/\0<bytes then
  some ((.ba d ((bx d).ep+1) esz 0 (n+ys.length),ah (ah bx t {bx t with k:=0}) d ⟨(bx d).ep+1,1,esz,el,((bx t).es.drop o).take n++ys⟩),
   (.ba d ((bx d).ep+1) esz o (n+ys.length),ah (ah bx t {bx t with k:=0}) d ⟨(bx d).ep+1,1,esz,el,(bx t).es.take (o+n)++ys⟩))else none
 | .nu sz es=>if sz=esz/\(es.length+ys.length) * bytes<=140737488355328/\0<esz/\0<bytes then
  some ((.ba d ((bx d).ep+1) esz 0 (es.length+ys.length),ah bx d ⟨(bx d).ep+1,1,esz,el,es++ys⟩),(.ba d ((bx d).ep+1) esz 0 (es.length+ys.length),ah bx d ⟨(bx d).ep+1,1,esz,el,es++ys⟩))else none
 | .ak=>if ys.length * bytes<=140737488355328/\0<esz/\0<bytes then
  some ((.ba d ((bx d).ep+1) esz 0 ys.length,ah bx d ⟨(bx d).ep+1,1,esz,el,ys⟩),(.ba d ((bx d).ep+1) esz 0 ys.length,ah bx d ⟨(bx d).ep+1,1,esz,el,ys⟩))else none
 |_=>none
def Xd(x:D)(bx:ab):Option ((D×ab)×(D×ab)):=match x with
 | .nu sz es=>some ((.sl sz es,bx),(.sl sz es,bx))
 | .ak| .ba ..| .sl ..=>some ((x,bx),(x,bx))
 |_=>none
def sk(T:TypeId->TI)(t t':TypeId)(esz el:Nat)(bx:ab)(y:D):Option (List D):=if t=t' then mz bx esz y else match(T t').k,y with
 | .str,.str s=>if(T el).k.vB=true/\esz=1 then some (cM s)else none
 |_,_=>none
def xK(lo:Nat)(T:TypeId->TI)(ti:TI)(t t':TypeId)(dst:Option Tmp)(bx:ab)(x y:D):Option ((D×ab)×(D×ab)):=match ti.k,dst with
 | .slice el esz bytes _,some d=>if(T el).zero.length=esz/\0<esz then(sk T t t' esz el bx y).bind fun ys=>if ys=[]then Xd x bx else R7 lo d el esz bytes bx x ys else none
 |_,_=>none
def R8(lo:Nat)(T:TypeId->TI)(ts:List TypeId)(dst:Option Tmp)(bx:ab)(xs:List D):Option ((D×ab)×(D×ab)):=match ts,xs with
 |[t,t'],[x,y]=>xK lo T (T t) t t' dst bx x y
 |_,_=>none
def Lu(tab:List (Nat×List (Nat×Nat))):Option Tmp->Bool
 |some d=>qP tab (2000000+d)
 |none=>false
def wk(P:Program)(t:TypeId)(name:String):Option FuncId:=match P.info? t,P.underlying t with
 |some i,some d=>match d with
  | .pointer _=>none
  |_=>match i.methods.find? (·.name==name)with
   |some m=>if m.path.size=0 then(match m.func with
    |some (f,false)=>some f
    |_=>none)else none
   |none=>none
 |_,_=>none
def qM(P:Program)(C:Calc)(d:D)(name:String)(ds:List D)(bx:ab)(K:Cl->D->ab->Prop)(_:Tok (K .n .undef bx):=⟨⟩):Prop:=match d with
 | .bK t d=>aJ (wk P t name) fun f=>c_ C f (d::ds) bx K
 |_=>False
def gu(P:Program)(C:Calc)(dst:Option Tmp)(op:Op)(σ:Env)(bx:ab)(K:Cl->Env->ab->Prop):Prop:=match op with
 | .buildSlice T n ps=>if afL C.tab dst=true then (match dst with
   |some d=>aJ (x6 (aj P) (aj P T) n (ps.toList.map fun p=>(p.1,ev σ p.2))) fun r=>K (.w (C.base+d)) (ah σ d (.ba (C.base+d) ((bx (C.base+d)).ep+1) r.1 0 r.2.2.length)) (ah bx (C.base+d) ⟨(bx (C.base+d)).ep+1,1,r.1,r.2.1,r.2.2⟩)
   |none=>False)else aJ (cv P σ bx (.buildSlice T n ps)) fun v=>K .n (put σ dst v) bx
 | .lookup T m k ok=>aJ (x7 P (aj P) (aj P T) bx (ev σ m) (ev σ k) ok) fun v=>aJ (some (Bh (ev σ m))) fun c=>K c (put σ dst v) bx
 | .call {callee:=.invoke recv name,args,argTypes:=_}=>qM P C (ev σ recv) name (args.toList.map (ev σ)) bx fun c d bx'=>K c (put σ dst d) bx'
 |op=>if qQ P op=true then(nH op=true->C.pn=true)/\C.lo=0/\iL P C dst op σ bx K else aJ (cv P σ bx op) fun v=>K .n (put σ dst v) bx
def a_(P:Program)(C:Calc)(o:Oper)(σ:Env)(bx:ab)(K:Cl->Env->ab->Prop):Prop:=
 match o.op with
 | .alloc T=>match o.dst with
   |some d=>aJ (BM (kT (aj P T)) (vL (aj P T) (zeroV P T))) fun z=>aJ (some (aj P T).size) fun s=>K (.w (C.base+d)) (ah σ d (.loc (C.base+d) ((bx (C.base+d)).ep+1) 0 0)) (ah bx (C.base+d) ⟨(bx (C.base+d)).ep+1,1,s,T,[z]⟩)
   |none=>False
 | .box T x=>match o.dst with
   |some d=>aJ (B0 (aj P T) (ev σ x)) fun v=>aJ (some (aj P T).size) fun s=>K (.w (C.base+d)) (ah σ d (.loc (C.base+d) ((bx (C.base+d)).ep+1) 0 0)) (ah bx (C.base+d) ⟨(bx (C.base+d)).ep+1,1,s,T,[v]⟩)
   |none=>False
 | .store T a x=>aJ (zN (gZ C.lo (aj P T) bx (ev σ a) (ev σ x)) (vL (aj P T) (zeroV P T)) bx (ev σ a) (ev σ x)) fun bx'=>aJ (some (ot (ev σ a))) fun c=>K c (put σ o.dst (.raw undef)) bx'
 | .load T a=>aJ (jh (aj P T) bx (ev σ a)) fun v=>aJ (some (pE (ev σ a))) fun c=>K c (put σ o.dst v) bx
 | .call {callee:= .builtin .append,args,argTypes}=>if Lu C.tab o.dst=true then (C.pn=true/\aJ (R8 C.lo (aj P) argTypes.toList (lL C.base o.dst) bx (args.toList.map (ev σ))) fun r=>K .wa (put σ o.dst r.1.1) r.1.2/\K .wa (put σ o.dst r.2.1) r.2.2) else
   aJ (Lv C.lo (aj P) argTypes.toList (lL C.base o.dst) bx (args.toList.map (ev σ))) fun r=>K .wa (put σ o.dst r.1) r.2
 | .call {callee:=.value fo,args,argTypes:=_}=>gk C (ev σ fo) (args.toList.map (ev σ)) bx fun c d bx'=>K c (put σ o.dst d) bx'
 | .panic x=>C.pn=true/\I4 (ev σ x) fun d=>K (.cd d) σ bx
 | .defer {callee:=.value fo,args,argTypes:=_}=>C.df=true/\(match ev σ fo with| .fn (.func f) caps=>K .n (put (ah σ eI (Hp (σ eI) (.fn (.func f) caps) (args.toList.map (ev σ)))) o.dst (.raw undef)) bx|_=>False)
 | .makeSlice T l c=>match o.dst with
   |some d=>aJ (x9 (aj P) (aj P T) (ev σ l) (ev σ c)) fun r=>K (.w (C.base+d)) (ah σ d (.ba (C.base+d) ((bx (C.base+d)).ep+1) r.1 0 r.2.2.length)) (ah bx (C.base+d) ⟨(bx (C.base+d)).ep+1,1,r.1,r.2.1,r.2.2⟩)
   |none=>False
 |op=>gu P C o.dst op σ bx K
def iN(c:Cl)(x y:Prop)(_:Tok (x/\y):=⟨⟩):Prop:=match c with
 | .cd _=>x
 |_=>y
def xu(P:Program)(C:Calc)(full:List Oper):List Oper->List Cl->Env->ab->(List Cl->Env->ab->Prop)->Prop
 |[],acc,σ,bx,K=>K acc σ bx
 |o::rest,acc,σ,bx,K=>
  match o.guard with
  |none=>a_ P C o σ bx fun c σ' bx'=>iN c (K (c::acc) σ' bx') (xu P C full rest (c::acc) σ' bx' K)
  |some (j,want)=>aJ (kx full[j]? σ) fun g=>
   gK g want (a_ P C o σ bx fun c σ' bx'=>iN c (K (c::acc) σ' bx') (xu P C full rest (c::acc) σ' bx' K))
    (xu P C full rest (.n::acc) (put σ o.dst (.raw undef)) bx K)
def qg(P:Program)(C:Calc)(full l:List Oper)(acc:List Cl)(σ:Env)(bx:ab)(K:List Cl->Env->ab->Prop)(_:Tok (full,l):=⟨⟩)(_:Tok (K acc σ bx):=⟨⟩):Prop:=xu P C full l acc σ bx K
def afM(lo:Nat):D->Bool
 | .ba s ..| .ic s ..| .loc s ..=>decide (lo<=s)
 |x=>x.pure
def dO(bx:ab)(s:Nat)(es:List D):ab:=ah (aS bx (bx s).es) s {aS bx (bx s).es s with es:=es}
def Ck(lo t:Nat)(σ:Env)(bx:ab):Option (Env×ab):=if t<eI/\(lo=0\/afM lo (σ t)=true)then
 (aU bx (σ t)).map fun v=>(ah σ t v,cK bx (σ t))
 else if lo=0/\2000000000<=t then(if(bx (t - 2000000000)).k=1 then(cE bx (bx (t - 2000000000)).es).map fun es=>(σ,dO bx (t - 2000000000) es)else some (σ,bx))else none
def pt(lo:Nat):List Nat->Env->ab->Option (Env×ab)
 |[],σ,bx=>some (σ,bx)
 |t::ts,σ,bx=>(Ck lo t σ bx).bind fun s=>pt lo ts s.1 s.2
def xv(acc:List Cl)(x y:Prop)(_:Tok (x/\y):=⟨⟩):Prop:=match acc with
 | .cd _::_=>x
 |_=>y
def uQ:List (Nat×Nat)->Nat->List Nat
 |[],_=>[]
 |(a,t)::ps,i=>if a=i then t::uQ ps i else uQ ps i
def ya(P:Program)(C:Calc)(full:List Oper)(ps:List (Nat×Nat)):Nat->List Oper->List Cl->Env->ab->(List Cl->Env->ab->Prop)->Prop
 |_,[],acc,σ,bx,K=>K acc σ bx
 |i,o::rest,acc,σ,bx,K=>aJ (pt C.lo (uQ ps i) σ bx) fun s=>qg P C full [o] acc s.1 s.2 fun BW σ' bx'=>xv BW (K BW σ' bx') (ya P C full ps (i+1) rest BW σ' bx' K)
def To(P:Program)(C:Calc)(full:List Oper)(ps:List (Nat×Nat))(i:Nat)(l:List Oper)(acc:List Cl)(σ:Env)(bx:ab)(K:List Cl->Env->ab->Prop)(_:Tok (full,l):=⟨⟩)(_:Tok (K acc σ bx):=⟨⟩):Prop:=ya P C full ps i l acc σ bx K
def C8(P:Program)(C:Calc)(full:List Oper)(ps:List (Nat×Nat))(l:List Oper)(acc:List Cl)(σ:Env)(bx:ab)(K:List Cl->Env->ab->Prop)(_:Tok (full,l):=⟨⟩)(_:Tok (K acc σ bx):=⟨⟩):Prop:=match ps with
 |[]=>qg P C full l acc σ bx K
 |p::ps=>ya P C full (p::ps) 0 l acc σ bx K
def ordered(b:Array Nat)(i j:Nat):Bool:=(b.getD (max i j) 0).testBit (min i j)
def tmpsOf(full:List Oper)(o:Oper):List Tmp:=
 o.dst.toList++o.looksAt full.toArray
def eV:Op->Nat
 | .load ..| .lookup ..=>1
 | .alloc ..| .box ..| .store ..| .makeSlice ..| .buildSlice ..=>2
 | .call {callee:=.builtin .append,..}=>2
 | .call {callee:=.value _,..}=>2
 | .call {callee:=.invoke _ _,..}=>2
 | .call {callee:=.builtin .delete,..}=>2
 | .call {callee:=.builtin .copy,..}=>2
 | .makeMap ..| .mapUpdate ..| .insert ..| .range ..| .entry ..=>2
 |_=>0
def Cb(full:List Oper)(ps:List (Nat×Nat)):Bool:=
 let b:=Region.before full.toArray
 full.zipIdx.all fun(o,j)=>o.after.toList.all (fun e=> !Region.binds .any e||decide (e.on<j))&&
  full.zipIdx.all fun(o',i)=>i==j||ordered b i j||
   (
    (match o'.dst with|some d=> !(tmpsOf full o).contains d|none=>true)&&
    (match o.dst with|some d=> !(tmpsOf full o').contains d|none=>true)&&
    (!(eV o.op==2&&eV o'.op != 0)||ps.contains (full.length - 1 - j,full.length - 1 - i)||ps.contains (full.length - 1 - i,full.length - 1 - j)))
inductive sc where
 |fin
 |stop
 |aD (i:Nat) (n:sc)
 |load (i s:Nat) (n:sc)
 |both (i:Nat) (nd:List Nat) (a r:sc)
def IU(o:Oper):Bool:=match o.op with
 | .move ..| .assign ..| .pick ..| .binOp ..| .unOp ..| .fieldAddr ..| .field ..| .indexAddr ..| .index ..| .extract ..| .slice ..| .build ..| .nilCheck ..| .makeInterface ..| .typeAssert ..| .makeFunc ..| .convert ..=>true
 |_=>false
def N1(o:Oper):Bool:=match o.op with
 | .load ..=>true
 |_=>false
def xz(full:List Oper)(L:Nat->Bool)(i:Nat):Bool:= !L i&&match full[i]? with
 |some o=>o.after.toList.all fun e=> !Region.binds .any e||L e.on
 |none=>false
def nQ(L:Nat->Bool)(i:Nat):Nat->Bool:=fun k=>k==i||L k
def iU(full:List Oper):(Nat->Bool)->List (Nat×Nat)->List Nat->sc->Bool
 |L,_,oA,.fin=>oA.isEmpty&&(List.range full.length).all fun j=> !xz full L j
 |L,_,oA,.stop=> !oA.isEmpty&&(List.range full.length).all fun j=> !xz full L j||oA.contains j
 |L,F,oA,.aD i n=>oA.isEmpty&&xz full L i&&(match full[i]? with|some o=>IU o|none=>false)&&iU full (nQ L i) F [] n
 |L,F,oA,.load i s n=>oA.isEmpty&&xz full L i&&(match full[i]? with|some o=>N1 o|none=>false)&&iU full (nQ L i) ((i,s)::F) [] n
 |L,F,oA,.both i nd a r=>xz full L i&&(F.all fun p=>ordered (Region.before full.toArray) p.1 i||nd.contains p.2)&&iU full (nQ L i) F [] a&&iU full L F (i::oA) r
def Ea(full:List Oper):Bool:=
 let b:=Region.before full.toArray
 full.zipIdx.all fun(o,j)=>o.guard.isNone&&o.after.toList.all (fun e=> !Region.binds .any e||decide (e.on<j))&&
  full.zipIdx.all fun(o',i)=>i==j||ordered b i j||
   (
    (match o'.dst with|some d=> !(tmpsOf full o).contains d|none=>true)&&
    (match o.dst with|some d=> !(tmpsOf full o').contains d|none=>true))
def EE(full:List Oper)(t:sc):Bool:=Ea full&&iU full (fun _=>false) [] [] t
def qT(x:Option Oper)(f:Oper->Prop)(_:Tok f:=⟨⟩):Prop:=match x with
 |some o=>f o
 |none=>False
def AA(base:Nat)(bx bx':ab):List Nat->Prop
 |[]=>True
 |s::l=>bx' (base+s)=bx (base+s)/\AA base bx bx' l
def ug(Pn:D->ab->Prop)(c:Cl)(bx:ab)(_:Tok (Pn .undef bx):=⟨⟩):Prop:=match c with
 | .cd d=>Pn d bx
 |_=>False
def Q6(c:Cl)(t:Nat):Prop:=c= .n\/c= .r t
def DW(P:Program)(base s:Nat)(o:Oper)(σ:Env)(bx:ab)(f:Env->Prop)(_:Tok (f σ):=⟨⟩):Prop:=match o.op with
 | .load T a=>Q6 (pE (ev σ a)) (base+s)/\aJ (jh (aj P T) bx (ev σ a)) fun v=>f (put σ o.dst v)
 |_=>False
def lY(P:Program)(C:Calc)(full:List Oper)(Pn:D->ab->Prop)(Q:Env->ab->Prop):sc->Env->ab->Prop
 | .fin,σ,bx=>Q σ bx
 | .stop,_,_=>True
 | .aD i n,σ,bx=>qT full[i]? fun o=>aJ (cv P σ bx o.op) fun v=>lY P C full Pn Q n (put σ o.dst v) bx
 | .load i s n,σ,bx=>qT full[i]? fun o=>DW P C.base s o σ bx fun σ'=>lY P C full Pn Q n σ' bx
 | .both i nd a r,σ,bx=>(qT full[i]? fun o=>a_ P C o σ bx fun c σ' bx'=>iN c (ug Pn c bx') (AA C.base bx bx' nd/\lY P C full Pn Q a σ' bx'))/\lY P C full Pn Q r σ bx
def uj(P:Program)(C:Calc)(full:List Oper)(t:sc)(Pn:D->ab->Prop)(Q:Env->ab->Prop)(σ:Env)(bx:ab)(_:Tok full:=⟨⟩)(_:Tok (Q σ bx):=⟨⟩):Prop:=lY P C full Pn Q t σ bx
def At(P:Program)(C:Calc)(full:List Oper)(Pn:D->ab->Prop)(Q:Env->ab->Prop)(σ:Env)(bx:ab)(_:Tok full:=⟨⟩)(_:Tok (Q σ bx):=⟨⟩):Prop:=∃ts s t,pt C.lo ts σ bx=some s/\EE full t=true/\uj P ⟨C.o,C.tab,C.base,C.aN,C.lo,none,false,false⟩ full t Pn Q s.1 s.2
def Gd(tab:List (Nat×List (Nat×Nat)))(id:Nat):Bool:=qP tab (1000000+id)
def G_(tab:List (Nat×List (Nat×Nat)))(id:Nat):Bool:=qP tab (7000000+id)
def mh(o:Oper):Oper:={o with dst:=none,op:=.move (.const (.int .i64 0)),guard:=none}
def sn:List Oper->List Oper
 |[]=>[]
 |[o]=>[mh o]
 |o::p::l=>o::sn (p::l)
def afG(full:List Oper):Bool:=(List.range (full.length - 1)).all fun j=>ordered (Region.before full.toArray) j (full.length - 1)
def S2:List Oper->Bool
 |[]=>false
 |[o]=>o.guard.isNone
 |_::p::l=>S2 (p::l)
def wj(P:Program)(C:Calc):List Oper->Env->ab->(Cl->Env->ab->Prop)->Prop
 |[],_,_,_=>False
 |[o],σ,bx,K=>a_ P C o σ bx K
 |_::p::l,σ,bx,K=>wj P C (p::l) σ bx K
def LI(P:Program)(C:Calc)(id:Nat)(l:List Oper)(Pn:D->Env->ab->Prop)(Qn:Env->ab->Prop)(σ:Env)(bx:ab)(_:Tok (Qn σ bx):=⟨⟩):Prop:=
 xu P C.wN (sn l) (sn l) [] σ bx fun acc σ' bx'=>j_ (mj C.tab id) acc/\wj P ⟨C.o,C.tab,C.base,C.aN,C.lo,none,false,false⟩ l σ' bx' fun c σ'' bx''=>iN c (ug (fun d bx=>Pn d σ'' bx) c bx'') (Qn σ'' bx'')
def dH(tab:List (Nat×List (Nat×Nat)))(N:Nat):Code->Bool
 | .region id ops draw=>ops.toList.all (fun o=>match o.dst with|some d=>decide (d<N)|none=>true)&&(!draw||Gd tab id||if G_ tab id then S2 ops.toList&&(afG (sn ops.toList)&&Cb (sn ops.toList) (mj tab id))else Cb ops.toList (mj tab id))
 | .seq a b=>dH tab N a&&dH tab N b
 | .cond _ x y=>dH tab N x&&dH tab N y
 | .block _ c=>dH tab N c
 | .loop c=>dH tab N c
 | .scope c=>dH tab N c
 | .rangeFunc _ ps a b=>ps.toList.all (fun t=>decide (t<N))&&dH tab N a&&dH tab N b
 |_=>true
inductive DX where
 |normal
 |exit (id:Nat)
 |goto (l:Nat)
 |ret
 |cd (d:D)
def yJ(Q:DX->Env->ab->Prop)(acc:List Cl)(σ:Env)(bx:ab):Prop:=match acc with
 | .cd d::_=>Q (.cd d) σ bx
 |_=>Q .normal σ bx
def codeOk(tab:List (Nat×List (Nat×Nat)))(N:Nat)(c:Code):Bool:=decide (N<=1000000000)&&dH tab N c
def dK(K:Env->ab->Prop)(Q:DX->Env->ab->Prop):DX->Env->ab->Prop
 | .normal,σ,bx=>K σ bx
 |e,σ,bx=>Q e σ bx
def uO(id:Nat)(Q:DX->Env->ab->Prop):DX->Env->ab->Prop
 | .exit Kn,σ,bx=>if Kn=id then Q .normal σ bx else Q (.exit Kn) σ bx
 |e,σ,bx=>Q e σ bx
def agu(Q:DX->Env->ab->Prop):DX->Env->ab->Prop
 | .goto _,_,_=>False
 |e,σ,bx=>Q e σ bx
def agh(C:Calc)(d:D)(K:List (List D)->Nat->Prop):Prop:=∃f caps items ext,d= .fn (.func f) caps/\D.aH caps=true/\C.o.it f caps items ext/\K items ext
def agf(C:Calc)(d:D)(bx:ab)(K:Nat->List (List D)->Option D->Nat->Prop):Prop:=∃f t e b items pd ext,d= .fn (.func f) [.loc t e 0 0]/\t<C.aN/\C.lo<=t/\bx t=⟨e,1,b.sz,b.ty,b.es⟩/\C.o.CJ f b items pd ext/\K t items pd ext
def C_(Q:DX->Env->ab->Prop)(σ:Env)(bx:ab):Option D->Prop
 |none=>Q .normal σ bx
 |some d=>Q (.cd d) σ bx
def kp(σ:Env):List Tmp->List D->Env
 |t::ts,d::ds=>kp (ah σ t d) ts ds
 |_,_=>σ
def qC(aN ext:Nat)(J:Nat->ab->Prop)(n:Nat)(Q:DX->Env->ab->Prop)(σ:Env)(bx1:ab):DX->Env->ab->Prop:=fun e _ bx'=>
 (∀s,aN<=s->s<aN+ext->bx' s=bx1 s)/\match e with
  | .normal=>J (n+1) (bg aN bx')
  | .ret=>∀aT,bg aN aT=bg aN bx'->Q .ret σ aT
  | .exit id=>∀aT,bg aN aT=bg aN bx'->Q (.exit id) σ aT
  |_=>False
def KC:DX->Env->ab->Prop:=fun _ _ _=>False
def XZ(C:Calc)(bx bx':ab):Prop:=bx'=bx\/(C.lo=0/\∃s es,(bx s).k=1/\cE bx (bx s).es=some es/\bx'=dO bx s es)
def DZ(lo aN ext:Nat):Option (List (List D)×Nat×Nat×Nat)->Prop
 |none=>lo=0
 |some (_,_,_,sO)=>lo<=aN/\aN+ext<=sO
set_option linter.unusedVariables false in
def cR(P:Program):Calc->Code->(DX->Env->ab->Prop)->Env->ab->Prop
 |C,.skip,Q,σ,bx=>Q .normal σ bx
 |C,.region id ops false,Q,σ,bx=>C8 P C ops.toList (mj C.tab (4000000+id)) ops.toList [] σ bx fun acc σ' bx'=>yJ Q acc σ' bx'
 |C,.region id ops true,Q,σ,bx=>if Gd C.tab id=true then At P C ops.toList (fun d bx=>∀σ,Q (.cd d) σ bx) (Q .normal) σ bx else if G_ C.tab id=true then LI P C id ops.toList (fun d σ bx=>Q (.cd d) σ bx) (Q .normal) σ bx else qg P C.wN ops.toList ops.toList [] σ bx fun acc σ' bx'=>j_ (mj C.tab id) acc/\Q .normal σ' bx'
 |C,.seq a b,Q,σ,bx=>cR P C a (dK (cR P C b Q) Q) σ bx
 |C,.cond c x y,Q,σ,bx=>F8 (ev σ c) (cR P C x Q σ bx) (cR P C y Q σ bx)
 |C,.block id c,Q,σ,bx=>cR P C c (uO id Q) σ bx
 |C,.loop c,Q,σ,bx=>∃(I:Env->ab->Prop) (μ:Env->ab->Nat),I σ bx/\∀σ bx,I σ bx->∃bx0,XZ C bx bx0/\cR P C c (dK (fun σ' bx'=>I σ' bx'/\μ σ' bx'<μ σ bx) Q) σ bx0
 |C,.scope c,Q,σ,bx=>cR P C c (agu Q) σ bx
 |C,.exit id,Q,σ,bx=>Q (.exit id) σ bx
 |C,.ret,Q,σ,bx=>Q .ret σ bx
 |C,.label _,Q,σ,bx=>Q .normal σ bx
 |C,.rangeFunc g ps assign body,Q,σ,bx=>((agh C (ev σ g) fun items ext=>DZ C.lo C.aN ext C.yl/\∃J:Nat->ab->Prop,J 0 (bg C.aN bx)/\
  (∀n it bx1,items[n]? =some it->J n (bg C.aN bx1)->it.length=ps.size/\
   cR P ⟨C.o,C.tab,C.base,C.aN+ext,C.lo,C.yl,false,false⟩ assign (dK (cR P ⟨C.o,C.tab,C.base,C.aN+ext,C.lo,C.yl,false,false⟩ body (qC C.aN ext J n Q σ bx1)) KC) (kp σ ps.toList it) bx1)/\
  ∀bx1,J items.length (bg C.aN bx1)->Q .normal σ bx1)\/
  (agf C (ev σ g) bx fun t items pd ext=>DZ C.lo C.aN ext C.yl/\∃J:Nat->ab->Prop,J 0 (bg C.aN (ah bx t {bx t with k:=0}))/\
   (∀n it bx1,items[n]? =some it->J n (bg C.aN bx1)->it.length=ps.size/\
    cR P ⟨C.o,C.tab,C.base,C.aN+ext,C.lo,C.yl,false,false⟩ assign (dK (cR P ⟨C.o,C.tab,C.base,C.aN+ext,C.lo,C.yl,false,false⟩ body (qC C.aN ext J n Q σ bx1)) KC) (kp σ ps.toList it) bx1)/\
   ∀bx1,J items.length (bg C.aN bx1)->C_ Q σ bx1 pd))
 |_,_,_,_,_=>False
def cD(P:Program)(C:Calc)(c:Code)(Q:DX->Env->ab->Prop)(σ:Env)(bx:ab)(_:Tok c:=⟨⟩)(_:Tok (Q .normal σ bx):=⟨⟩):Prop:=cR P C c Q σ bx
def yK(P:Program)(σ:Env)(bx:ab):ResultVar->Option D
 | .tmp t=>some (σ t)
 | .cell a T=>jh (aj P T) bx (σ a)
def jz(P:Program)(σ:Env)(bx:ab):List ResultVar->Option (List D)
 |[]=>some []
 |r::rs=>jZ (yK P σ bx r) (jz P σ bx rs)
def mL:List D->D
 |[d]=>d
 |ds=> .aL ds
def Fx(P:Program)(rv:List ResultVar)(d:D):DX->Env->ab->Prop
 | .normal,σ,bx| .ret,σ,bx=>aJ (jz P σ bx rv) fun rs=>aJ (aU bx (mL rs)) fun r=>bA r d
 |_,_,_=>False
def aM:Nat->List D->Env
 |_,[]=>fun _=> .raw undef
 |n,d::ds=>ah (aM (n+1) ds) n d
def fnD(P:Program)(O:ik)(tab:List (Nat×List (Nat×Nat)))(fn:Func)(ds:List D)(d:D):Prop:=
 ∃c,fn.body=some c/\codeOk tab fn.ntmps c=true/\cD P ⟨O,tab,0,fn.ntmps,0,none,false,false⟩ c (Fx P fn.results.toList d) (aM 0 ds) (fun _=> .none)
def Df(P:Program)(rv:List ResultVar)(bP Pan:D->ab->Prop):DX->Env->ab->Prop
 | .normal,σ,bx| .ret,σ,bx=>aJ (jz P σ bx rv) fun rs=>bP (mL rs) bx
 | .cd d,_,bx=>Pan d bx
 |_,_,_=>False
def M3(P:Program)(O:ik)(tab:List (Nat×List (Nat×Nat)))(fn:Func)(base:Nat)(ds:List D)(bx:ab)(bP Pan:D->ab->Prop):Prop:=
 ∃c,fn.body=some c/\codeOk tab fn.ntmps c=true/\cD P ⟨O,tab,base,base+fn.ntmps,0,none,true,false⟩ c (Df P fn.results.toList bP Pan) (aM 0 ds) bx
def Hv(gs n:Nat)(pd:Option D):DX->Env->ab->Prop
 | .normal,_,bx| .ret,_,bx=>n<=(bx gs).sz/\(pd=none\/n<(bx gs).sz)
 | .cd d,_,bx=>pd=some d/\(bx gs).sz=n
 |_,_,_=>False
def SC(P:Program)(O:ik)(tab:List (Nat×List (Nat×Nat)))(fn:Func)(b:Bx)(items:List (List D))(pd:Option D)(ext:Nat):Prop:=
 fn.ntmps+2<=ext/\∃c,fn.body=some c/\codeOk tab fn.ntmps c=true/\fn.results.toList=[]/\∀(gs l e:Nat) (bx:ab),(bx gs).k=0->(bx gs).sz=0->bx (gs+1)=⟨e,1,b.sz,b.ty,b.es⟩->
  cD P ⟨O,tab,gs+2,gs+2+fn.ntmps,gs+1,some (items,gs,l,gs+ext),true,false⟩ c (Hv gs items.length pd) (aM 0 [.fn (.yield l) [],.loc (gs+1) e 0 0]) bx
abbrev ael(P:Program)(O:ik)(tab:List (Nat×List (Nat×Nat)))(fn:Func)(b:Bx)(items:List (List D))(pd:Option D):Prop:=SC P O tab fn b items pd (fn.ntmps+2)
end Go.V
namespace Go.V
open Go.RowKit
def tR{α:Type}(p q:Prop)[Decidable p][Decidable q](x y:α):(if p/\q then x else y)=if p then(if q then x else y)else y:=by by_cases hp:p<;>by_cases hq:q<;>simp[hp,hq]
variable {P:Program} {C:Calc} {Q:DX->Env->ab->Prop} {σ:Env} {bx:ab}
attribute [go_sem] Nat.le_add_right Bool.false_eq_true eq_self decide_true decide_false Nat.zero_le Nat.le_refl aY List.take_succ_cons List.take_zero List.drop_succ_cons List.drop_zero List.getElem?_cons_zero List.getElem?_cons_succ List.length_cons List.length_nil Option.map_some Option.map_none Option.bind_some List.length_map List.getElem?_map Int.toNat_natCast List.map_cons List.map_nil List.cons_append List.nil_append List.append_nil Nat.zero_add Nat.add_zero List.set_cons_zero List.set_cons_succ Bool.not_not Bool.not_true Bool.not_false Int.natCast_zero
@[go_sem] def aso{α:Type}(σ:Nat->α)(t:Nat)(v:α)(x:Nat):ah σ t v x=if x=t then v else σ x:=ax
@[go_sem] def Ah{α:Type}(v:α)(f:α->Prop):aJ (some v) f=f v:=ax
@[go_sem] theorem Sm(x y:Prop):je true x y=x:=by simp[je]
@[go_sem] theorem Pq(x y:Prop):je false x y=y:=by simp[je]
@[go_sem] def aj6(b:Bool)(x y:Prop):je (!b) x y=je b y x:=by grind [je]
def aO{b:Bool}{x y:Prop}(h1:b=true->x)(h2:b=false->y):je b x y:=by
 cases b
 ·exact h2 rfl
 ·exact h1 rfl
@[go_sem ↓] def apl:cD P C .skip Q σ bx=Q .normal σ bx:=ax
@[go_sem ↓] def ag9(id:Nat)(l:List Oper):cD P C (.region id l.toArray false) Q σ bx=C8 P C l (mj C.tab (4000000+id)) l [] σ bx fun acc σ' bx'=>yJ Q acc σ' bx':=by simp[cD,cR]
@[go_sem ↓] def aom{full l:List Oper}{acc:List Cl}{K:List Cl->Env->ab->Prop}:C8 P C full [] l acc σ bx K=qg P C full l acc σ bx K:=ax
@[go_sem ↓] def alH{full l:List Oper}{acc:List Cl}{K:List Cl->Env->ab->Prop}(p:Nat×Nat)(ps:List (Nat×Nat)):C8 P C full (p::ps) l acc σ bx K=To P C full (p::ps) 0 l acc σ bx K:=ax
@[go_sem ↓] def aon{full:List Oper}{acc:List Cl}{K:List Cl->Env->ab->Prop}(ps:List (Nat×Nat))(i:Nat):To P C full ps i [] acc σ bx K=K acc σ bx:=ax
@[go_sem ↓] def alI{full rest:List Oper}{o:Oper}{acc:List Cl}{K:List Cl->Env->ab->Prop}(ps:List (Nat×Nat))(i:Nat):To P C full ps i (o::rest) acc σ bx K=aJ (pt C.lo (uQ ps i) σ bx) fun s=>qg P C full [o] acc s.1 s.2 fun BW σ' bx'=>xv BW (K BW σ' bx') (To P C full ps (i+1) rest BW σ' bx' K):=ax
@[go_sem] def ah2(i:Nat):uQ [] i=[]:=ax
@[go_sem] def ahf(a t i:Nat)(ps:List (Nat×Nat)):uQ ((a,t)::ps) i=if a=i then t::uQ ps i else uQ ps i:=ax
@[go_sem] def akl(lo:Nat):pt lo [] σ bx=some (σ,bx):=ax
@[go_sem] def ah9(lo t:Nat)(ts:List Nat):pt lo (t::ts) σ bx=(Ck lo t σ bx).bind fun s=>pt lo ts s.1 s.2:=ax
@[go_sem] def aow(d:D)(acc:List Cl)(x y:Prop):xv (.cd d::acc) x y=x:=ax
@[go_sem] def ar7(acc:List Cl)(x y:Prop):xv (.n::acc) x y=y:=ax
@[go_sem] def ar8(t:Nat)(acc:List Cl)(x y:Prop):xv (.r t::acc) x y=y:=ax
@[go_sem] def ar9(t:Nat)(acc:List Cl)(x y:Prop):xv (.w t::acc) x y=y:=ax
@[go_sem] def apT(acc:List Cl)(x y:Prop):xv (.ra::acc) x y=y:=ax
@[go_sem] def apU(acc:List Cl)(x y:Prop):xv (.wa::acc) x y=y:=ax
@[go_sem] def akk(t:Nat)(h:t<1000000000):Ck 0 t σ bx=(aU bx (σ t)).map fun v=>(ah σ t v,cK bx (σ t)):=by simp[Ck,eI,h]
@[go_sem] def akj(t:Nat)(h:2000000000<=t):Ck 0 t σ bx=if(bx (t - 2000000000)).k=1 then(cE bx (bx (t - 2000000000)).es).map fun es=>(σ,dO bx (t - 2000000000) es)else some (σ,bx):=by grind [Ck,eI]
@[go_sem ↓] def ag_(id:Nat)(l:List Oper):cD P C (.region id l.toArray true) Q σ bx=if Gd C.tab id=true then At P C l (fun d bx=>∀σ,Q (.cd d) σ bx) (fun σ bx=>Q .normal σ bx) σ bx else if G_ C.tab id=true then LI P C id l (fun d σ bx=>Q (.cd d) σ bx) (fun σ bx=>Q .normal σ bx) σ bx else qg P C.wN l l [] σ bx fun acc σ' bx'=>j_ (mj C.tab id) acc/\Q .normal σ' bx':=by simp[cD,cR,qg]
@[go_sem] def aiG(tab:List (Nat×List (Nat×Nat)))(id:Nat):G_ tab id=qP tab (7000000+id):=ax
def DT{id:Nat}{l l':List Oper}{Pn:D->Env->ab->Prop}{Qn:Env->ab->Prop}(h:sn l=l')(hs:qg P C.wN l' l' [] σ bx fun acc σ' bx'=>j_ (mj C.tab id) acc/\wj P ⟨C.o,C.tab,C.base,C.aN,C.lo,none,false,false⟩ l σ' bx' fun c σ'' bx''=>iN c (ug (fun d bx=>Pn d σ'' bx) c bx'') (Qn σ'' bx'')):LI P C id l Pn Qn σ bx:=by subst h;exact hs
def vY(o p:Oper)(l:List Oper):sn (o::p::l)=o::sn (p::l):=rfl
def xN(dst:Option Tmp)(op:Op)(ty:TypeId)(pos:String)(af:Array Edge)(g:Option (Nat×Bool)):sn [⟨dst,op,ty,pos,af,g⟩]=[⟨none,.move (.const (.int .i64 0)),ty,pos,af,none⟩]:=rfl
@[go_sem ↓] def aiF(o p:Oper)(l:List Oper)(K:Cl->Env->ab->Prop):wj P C (o::p::l) σ bx K=wj P C (p::l) σ bx K:=ax
@[go_sem ↓] def alu(o:Oper)(K:Cl->Env->ab->Prop):wj P C [o] σ bx K=a_ P C o σ bx K:=ax
@[go_sem] def ah3(tab:List (Nat×List (Nat×Nat)))(id:Nat):Gd tab id=qP tab (1000000+id):=ax
def gU{full:List Oper}{Pn:D->ab->Prop}{Q:Env->ab->Prop}(t:sc)(h:EE full t=true)(hs:uj P ⟨C.o,C.tab,C.base,C.aN,C.lo,none,false,false⟩ full t Pn Q σ bx):At P C full Pn Q σ bx:=⟨[],(σ,bx),t,rfl,h,hs⟩
theorem Yp{full:List Oper}{Pn:D->ab->Prop}{Q:Env->ab->Prop}(ts:List Nat)(t:sc)(h:EE full t=true)(hs:aJ (pt C.lo ts σ bx) fun s=>uj P ⟨C.o,C.tab,C.base,C.aN,C.lo,none,false,false⟩ full t Pn Q s.1 s.2):At P C full Pn Q σ bx:=by
 cases hf:pt _ ts σ bx with
 |none=>rw[hf]at hs;exact hs.elim
 |some s=>rw[hf]at hs;exact⟨ts,s,t,hf,h,hs⟩
@[go_sem ↓] def aoS{full:List Oper}{Pn:D->ab->Prop}{Q:Env->ab->Prop}:uj P C full .fin Pn Q σ bx=Q σ bx:=ax
@[go_sem ↓] def al1{full:List Oper}{Pn:D->ab->Prop}{Q:Env->ab->Prop}:uj P C full .stop Pn Q σ bx=True:=ax
@[go_sem ↓] def ai8{full:List Oper}{Pn:D->ab->Prop}{Q:Env->ab->Prop}(i:Nat)(n:sc):uj P C full (.aD i n) Pn Q σ bx=qT full[i]? fun o=>aJ (cv P σ bx o.op) fun v=>uj P C full n Pn Q (put σ o.dst v) bx:=ax
@[go_sem ↓] def al0{full:List Oper}{Pn:D->ab->Prop}{Q:Env->ab->Prop}(i s:Nat)(n:sc):uj P C full (.load i s n) Pn Q σ bx=qT full[i]? fun o=>DW P C.base s o σ bx fun σ'=>uj P C full n Pn Q σ' bx:=ax
@[go_sem ↓] def alZ{full:List Oper}{Pn:D->ab->Prop}{Q:Env->ab->Prop}(i:Nat)(nd:List Nat)(a r:sc):uj P C full (.both i nd a r) Pn Q σ bx=((qT full[i]? fun o=>a_ P C o σ bx fun c σ' bx'=>iN c (ug Pn c bx') (AA C.base bx bx' nd/\uj P C full a Pn Q σ' bx'))/\uj P C full r Pn Q σ bx):=ax
@[go_sem] def ajO(o:Oper)(f:Oper->Prop):qT (some o) f=f o:=ax
@[go_sem] def aln(b:Nat)(bx bx':ab):AA b bx bx' []=True:=ax
@[go_sem] def aiE(b s:Nat)(bx bx':ab)(l:List Nat):AA b bx bx' (s::l)=(bx' (b+s)=bx (b+s)/\AA b bx bx' l):=ax
@[go_sem] def aox(Pn:D->ab->Prop)(d:D)(bx:ab):ug Pn (.cd d) bx=Pn d bx:=ax
@[go_sem] def asp(t:Nat):Q6 .n t=True:=by simp[Q6]
@[go_sem] def asq(s t:Nat):Q6 (.r s) t=(s=t):=by simp[Q6]
@[go_sem ↓] def anX{dst:Option Tmp}{T:TypeId}{a:Operand}{ty pos af g}(base s:Nat)(f:Env->Prop):DW P base s ⟨dst,.load T a,ty,pos,af,g⟩ σ bx f=(Q6 (pE (ev σ a)) (base+s)/\aJ (jh (aj P T) bx (ev σ a)) fun v=>f (put σ dst v)):=ax
@[go_sem ↓] def aqe(a b:Code):cD P C (.seq a b) Q σ bx=cD P C a (dK (fun σ bx=>cD P C b Q σ bx) Q) σ bx:=ax
@[go_sem] def ah1(t:Bool)(x y:Prop):F8 (.bool t) x y=je t x y:=ax
@[go_sem ↓] def apj(c:Operand)(x y:Code):cD P C (.cond c x y) Q σ bx=F8 (ev σ c) (cD P C x Q σ bx) (cD P C y Q σ bx):=ax
@[go_sem ↓] def amH(id:Nat)(c:Code):cD P C (.block id c) Q σ bx=cD P C c (uO id Q) σ bx:=ax
@[go_sem ↓] def apk(id:Nat):cD P C (.exit id) Q σ bx=Q (.exit id) σ bx:=ax
@[go_sem ↓] def aqd:cD P C .ret Q σ bx=Q .ret σ bx:=ax
def pc{c:Code}(I:Env->ab->Prop)(μ:Env->ab->Nat)(h0:I σ bx)(h:∀σ bx,I σ bx->cD P C c (dK (fun σ' bx'=>I σ' bx'/\μ σ' bx'<μ σ bx) Q) σ bx):
 cD P C (.loop c) Q σ bx:=⟨I,μ,h0,fun σ bx hi=>⟨bx,.inl rfl,h σ bx hi⟩⟩
@[go_sem ↓] def asd(acc:List Cl):yJ Q (.n::acc) σ bx=Q .normal σ bx:=ax
@[go_sem ↓] def ase(t:Nat)(acc:List Cl):yJ Q (.r t::acc) σ bx=Q .normal σ bx:=ax
@[go_sem ↓] def asf(t:Nat)(acc:List Cl):yJ Q (.w t::acc) σ bx=Q .normal σ bx:=ax
@[go_sem ↓] def apY(acc:List Cl):yJ Q (.wa::acc) σ bx=Q .normal σ bx:=ax
@[go_sem ↓] def aoJ(d:D)(acc:List Cl):yJ Q (.cd d::acc) σ bx=Q (.cd d) σ bx:=ax
@[go_sem ↓] def apq(x y:Prop):iN .n x y=y:=ax
@[go_sem ↓] def apr(t:Nat)(x y:Prop):iN (.r t) x y=y:=ax
@[go_sem ↓] def aps(t:Nat)(x y:Prop):iN (.w t) x y=y:=ax
@[go_sem ↓] def amR(x y:Prop):iN .ra x y=y:=ax
@[go_sem ↓] def amS(x y:Prop):iN .wa x y=y:=ax
@[go_sem ↓] def aj7(d:D)(x y:Prop):iN (.cd d) x y=x:=ax
@[go_sem ↓] def amh(K:Env->ab->Prop)(d:D):dK K Q (.cd d) σ bx=Q (.cd d) σ bx:=ax
@[go_sem ↓] def ahQ(id:Nat)(d:D):uO id Q (.cd d) σ bx=Q (.cd d) σ bx:=ax
@[go_sem ↓] def agN(K:Env->ab->Prop):dK K Q .normal σ bx=K σ bx:=ax
@[go_sem ↓] def ami(K:Env->ab->Prop):dK K Q .ret σ bx=Q .ret σ bx:=ax
@[go_sem ↓] def ajt(K:Env->ab->Prop)(id:Nat):dK K Q (.exit id) σ bx=Q (.exit id) σ bx:=ax
@[go_sem ↓] def adq(id:Nat):uO id Q .normal σ bx=Q .normal σ bx:=ax
@[go_sem ↓] def ahR(id:Nat):uO id Q .ret σ bx=Q .ret σ bx:=ax
@[go_sem ↓] def ag6(id Kn:Nat):uO id Q (.exit Kn) σ bx=if Kn=id then Q .normal σ bx else Q (.exit Kn) σ bx:=ax
def aW{p:Prop}[Decidable p]{x y:Prop}(h1:p->x)(h2:¬p->y):je (decide p) x y:=by by_cases h:p<;>grind [Sm,Pq]
def JF{p:Prop}[Decidable p]{x y:Prop}(h:p)(h1:x):je (decide p) x y:=aW (fun _=>h1) (fun n=>absurd h n)
def ME{p:Prop}[Decidable p]{x y:Prop}(h:¬p)(h1:y):je (decide p) x y:=aW (fun n=>absurd n h) (fun _=>h1)
attribute [go_sem] decide_true decide_false not_true_eq_false not_false_eq_true
@[go_sem] def ajM(n:Nat):aM n []=fun _=> .raw undef:=ax
@[go_sem] def ahN(n:Nat)(d:D)(ds:List D):aM n (d::ds)=ah (aM (n+1) ds) n d:=ax
def E3{O:ik}{tab:List (Nat×List (Nat×Nat))}{fn:Func}{ds:List D}{d:D}(c:Code)(rv:List ResultVar)(n:Nat)(hc:fn.body=some c)(hr:fn.results=rv.toArray)(hn:fn.ntmps=n)(bm:codeOk tab n c=true)
 (h:cD P ⟨O,tab,0,n,0,none,false,false⟩ c (Fx P rv d) (aM 0 ds) (fun _=> .none)):fnD P O tab fn ds d:=by
 subst hn;refine⟨c,hc,bm,?_⟩
 exact awN
def eG{O:ik}{tab:List (Nat×List (Nat×Nat))}{fn:Func}{base:Nat}{ds:List D}{bx:ab}{bP Pan:D->ab->Prop}(c:Code)(rv:List ResultVar)(n:Nat)(hc:fn.body=some c)(hr:fn.results=rv.toArray)(hn:fn.ntmps=n)(bm:codeOk tab n c=true)
 (h:cD P ⟨O,tab,base,base+n,0,none,true,false⟩ c (Df P rv bP Pan) (aM 0 ds) bx):M3 P O tab fn base ds bx bP Pan:=by
 subst hn;refine⟨c,hc,bm,?_⟩
 exact awN
@[go_sem ↓] def aoM(rv:List ResultVar)(bP Pan:D->ab->Prop)(d:D):Df P rv bP Pan (.cd d) σ bx=Pan d bx:=ax
@[go_sem ↓] def aoN(rv:List ResultVar)(bP Pan:D->ab->Prop):Df P rv bP Pan .ret σ bx=aJ (jz P σ bx rv) fun rs=>bP (mL rs) bx:=ax
@[go_sem ↓] def ahq(rv:List ResultVar)(bP Pan:D->ab->Prop):Df P rv bP Pan .normal σ bx=aJ (jz P σ bx rv) fun rs=>bP (mL rs) bx:=ax
@[go_sem] def ahW(f:Nat)(caps ds:List D)(K:Cl->D->ab->Prop):gk C (.fn (.func f) caps) ds bx K=c_ C f (ds++caps) bx K:=ax
@[go_sem] def ajX(f:Nat)(fs ds:List D)(K:Cl->D->ab->Prop):gk C (.fW f fs) ds bx K=c_ C f (fs++ds) bx K:=ax
@[go_sem] def aha(l:Nat)(ds:List D)(K:Cl->D->ab->Prop):gk C (.fn (.yield l) []) ds bx K=tv C l ds bx K:=ax
@[go_sem] def ahP:kp σ [] []=σ:=ax
@[go_sem] def ag5(t:Nat)(ts:List Nat)(d:D)(ds:List D):kp σ (t::ts) (d::ds)=kp (ah σ t d) ts ds:=ax
@[go_sem] def Ij(n s:Nat):bg n bx s=if s<n then bx s else .none:=ax
@[go_sem] def apH(lo hi s:Nat)(bx1:ab):CX lo hi bx bx1 s=if lo<=s then(if s<hi then bx s else bx1 s)else bx1 s:=by grind [CX]
def wA{items:List (List D)}{gs l sO:Nat}{ds:List D}{K:Cl->D->ab->Prop}(hy:C.yl=some (items,gs,l,sO))(hp:D.aH ds=true)(hi:items[(bx gs).sz]? =some ds)
 (hk:∀bx1:ab,K .wa (.bool true) (ah (CX C.lo C.aN bx bx1) gs {bx gs with sz:=(bx gs).sz+1})/\K .wa (.bool false) (ah (CX C.lo C.aN bx bx1) gs {bx gs with sz:=items.length+1})):tv C l ds bx K:=by
 simp_all[tv]
def JC{pn df:Bool}{o:ik}{tab:List (Nat×List (Nat×Nat))}{base aN:Nat}{g:Operand}{ps:List Tmp}{assign body:Code}(f:FuncId)(t e:Nat)(b:Bx)(items:List (List D))(pd:Option D)(ext:Nat)(J:Nat->ab->Prop)(hg:ev σ g= .fn (.func f) [.loc t e 0 0])(ht:t<aN)(hb:bx t=⟨e,1,b.sz,b.ty,b.es⟩)(hit:o.CJ f b items pd ext)
 (h0:J 0 (bg aN (ah bx t {bx t with k:=0}))) (hr:∀n it bx1,items[n]? =some it->J n (bg aN bx1)->it.length=ps.length/\
  cD P ⟨o,tab,base,aN+ext,0,none,false,false⟩ assign (dK (fun σ' bx'=>cD P ⟨o,tab,base,aN+ext,0,none,false,false⟩ body (qC aN ext J n Q σ bx1) σ' bx') KC) (kp σ ps it) bx1)
 (hq:∀bx1,J items.length (bg aN bx1)->C_ Q σ bx1 pd):cD P ⟨o,tab,base,aN,0,none,pn,df⟩ (.rangeFunc g ps.toArray assign body) Q σ bx:=
 .inr ⟨f,t,e,b,items,pd,ext,hg,ht,aes _,hb,hit,rfl,J,h0,fun n it bx1 h1 h2=>aum,hq⟩
def Se{pn df:Bool}{o:ik}{tab:List (Nat×List (Nat×Nat))}{base aN lo gs l0 sO:Nat}{NP:List (List D)}{g:Operand}{ps:List Tmp}{assign body:Code}(f:FuncId)(t e:Nat)(b:Bx)(items:List (List D))(pd:Option D)(ext:Nat)(J:Nat->ab->Prop)(hg:ev σ g= .fn (.func f) [.loc t e 0 0])(ht:t<aN)(au:lo<=t)(hb:bx t=⟨e,1,b.sz,b.ty,b.es⟩)(hit:o.CJ f b items pd ext)
 (h2:aN+ext<=sO) (h0:J 0 (bg aN (ah bx t {bx t with k:=0}))) (hr:∀n it bx1,items[n]? =some it->J n (bg aN bx1)->it.length=ps.length/\
  cD P ⟨o,tab,base,aN+ext,lo,some (NP,gs,l0,sO),false,false⟩ assign (dK (fun σ' bx'=>cD P ⟨o,tab,base,aN+ext,lo,some (NP,gs,l0,sO),false,false⟩ body (qC aN ext J n Q σ bx1) σ' bx') KC) (kp σ ps it) bx1)
 (hq:∀bx1,J items.length (bg aN bx1)->C_ Q σ bx1 pd):cD P ⟨o,tab,base,aN,lo,some (NP,gs,l0,sO),pn,df⟩ (.rangeFunc g ps.toArray assign body) Q σ bx:=
 .inr ⟨f,t,e,b,items,pd,ext,hg,ht,au,hb,hit,⟨adz au (ak_ ht),h2⟩,J,h0,fun n it bx1 h1 h2=>aum,hq⟩
def Gm{O:ik}{tab:List (Nat×List (Nat×Nat))}{fn:Func}{b:Bx}{items:List (List D)}{pd:Option D}(c:Code)(n:Nat)(hc:fn.body=some c)(hr:fn.results= #[])(hn:fn.ntmps=n)(bm:codeOk tab n c=true)
 (h:∀(gs l e:Nat) (bx:ab),(bx gs).k=0->(bx gs).sz=0->bx (gs+1)=⟨e,1,b.sz,b.ty,b.es⟩->cD P ⟨O,tab,gs+2,gs+2+n,gs+1,some (items,gs,l,gs+(n+2)),true,false⟩ c (Hv gs items.length pd) (aM 0 [.fn (.yield l) [],.loc (gs+1) e 0 0]) bx):ael P O tab fn b items pd:=by
 subst hn;refine⟨aaN _,c,hc,bm,by rw[hr],h⟩
@[go_sem ↓] def alX(gs n:Nat)(pd:Option D):Hv gs n pd .ret σ bx=(n<=(bx gs).sz/\(pd=none\/n<(bx gs).sz)):=ax
@[go_sem ↓] def agl(gs n:Nat)(pd:Option D):Hv gs n pd .normal σ bx=(n<=(bx gs).sz/\(pd=none\/n<(bx gs).sz)):=ax
@[go_sem ↓] def alW(gs n:Nat)(pd:Option D)(d:D):Hv gs n pd (.cd d) σ bx=(pd=some d/\(bx gs).sz=n):=ax
@[go_sem ↓] def adt(aN ext n:Nat)(J:Nat->ab->Prop)(σ':Env)(bx1:ab):qC aN ext J n Q σ bx1 .normal σ' bx=((∀s,aN<=s->s<aN+ext->bx s=bx1 s)/\J (n+1) (bg aN bx)):=ax
@[go_sem ↓] def ai4(aN ext n:Nat)(J:Nat->ab->Prop)(σ':Env)(bx1:ab):qC aN ext J n Q σ bx1 .ret σ' bx=((∀s,aN<=s->s<aN+ext->bx s=bx1 s)/\∀aT,bg aN aT=bg aN bx->Q .ret σ aT):=ax
def F_{n s:Nat}{bx aT:ab}(h:bg n aT=bg n bx)(hs:s<n):aT s=bx s:=by
 have:=congrFun h s
 grind [bg]
@[go_sem ↓] def aoQ(rv:List ResultVar)(d:D):Fx P rv d .ret σ bx=aJ (jz P σ bx rv) fun rs=>aJ (aU bx (mL rs)) fun r=>bA r d:=ax
@[go_sem] theorem pg(x:D)(xs:List D):jZ (some x) (some xs)=some (x::xs):=ax
@[go_sem] def aoL:jz P σ bx []=some []:=ax
@[go_sem] def alV(r:ResultVar)(rs:List ResultVar):jz P σ bx (r::rs)=jZ (yK P σ bx r) (jz P σ bx rs):=ax
@[go_sem] def aoK(t:Nat):yK P σ bx (.tmp t)=some (σ t):=ax
@[go_sem] def alU(t T:Nat):yK P σ bx (.cell t T)=jh (aj P T) bx (σ t):=ax
@[go_sem] def ao8(d:D):mL [d]=d:=ax
@[go_sem] def ao9(d e:D)(ds:List D):mL (d::e::ds)= .aL (d::e::ds):=ax
@[go_sem] def ao7:mL []= .aL []:=ax
@[go_sem] theorem iw:cE bx []=some []:=by simp[cE]
@[go_sem] theorem dh(d:D)(ds:List D):cE bx (d::ds)=jZ (aU bx d) (cE bx ds):=by simp[cE]
@[go_sem] def ZG(k:IntKind)(n:Int):aU bx (.int k n)=some (.int k n):=awC
@[go_sem] def alK(b:Bool):aU bx (.bool b)=some (.bool b):=awC
@[go_sem] theorem ZI(b:List UInt8):aU bx (.str b)=some (.str b):=awC
@[go_sem] def aov(b:Value):aU bx (.raw b)=some (.raw b):=awC
@[go_sem] def Hi:aU bx .ak=some .ak:=awC
@[go_sem] theorem I2(sz:Nat)(es:List D):aU bx (.sl sz es)=some (.sl sz es):=awC
@[go_sem] def Fk(ds:List D):aU bx (.agg ds)=(cE bx ds).map .agg:=awC
@[go_sem] def ZJ(ds:List D):aU bx (.aL ds)=(cE bx ds).map .aL:=awC
@[go_sem] def apS(f:Fn)(ds:List D):aU bx (.fn f ds)=(cE bx ds).map (.fn f):=awC
def Tp(b:Bx)(e i j:Nat):Option D:=if b.ep=e/\lv b.k then match b.es[i]? with
 |some d=>if d.pure then some (.bR d j)else some (.bR d.FO j)
 |none=>none
 else none
@[go_sem] def ZH(t e i j:Nat):aU bx (.loc t e i j)=Tp (bx t) e i j:=by grind [aU,Tp]
def Tq(x:Option D)(j:Nat):Option D:=match x with
 |some d=>if d.pure then some (.bR d j)else some (.bR d.FO j)
 |none=>none
@[go_sem] def WC(e sz ty i j:Nat)(es:List D):Tp ⟨e,1,sz,ty,es⟩ e i j=Tq es[i]? j:=by grind [Tp,Tq,lv1]
@[go_sem] def Tr(d:D)(j:Nat):Tq (some d) j=if d.pure then some (.bR d j)else some (.bR d.FO j):=ax
@[go_sem] def apc(ds:List D):(D.agg ds).FO= .agg (ds.map D.tf):=ax
@[go_sem] def apb(c:D):D.tf c=if c.pure then c else .undef:=ax
@[go_sem] def apJ:Bx.none.ep=0:=ax
def Of(b:Bx)(e sz o n:Nat):Option D:=if b.ep=e/\lv b.k/\b.sz=sz/\o+n<=b.es.length then
 (if D.aH ((b.es.drop o).take n)then some (.sl sz ((b.es.drop o).take n))else none)else none
@[go_sem] def jQ(t e sz o n:Nat):aU bx (.ba t e sz o n)=Of (bx t) e sz o n:=by simp[aU,Of]
def ja(e k sz ty n:Nat)(es:List D)(hk:lv k)(hn:n=es.length)(hp:D.aH es=true):Of ⟨e,k,sz,ty,es⟩ e sz 0 n=some (.sl sz es):=by simp[Of,hk,hn,hp]
def I1(b:Bx)(e i j n:Nat):Option D:=if b.ep=e/\lv b.k then match b.es[i]? with
 |some d=>if j+n<=d.cells.length/\D.aH ((d.cells.drop j).take n)=true/\((d.cells.drop j).take n).all D.one=true then some (.sl 1 ((d.cells.drop j).take n))else none
 |none=>none
 else none
@[go_sem] def aoD(k:IntKind)(n:Int):D.pure (.int k n)=true:=av4
@[go_sem] def alP(b:Bool):D.pure (.bool b)=true:=av4
@[go_sem] def aoE(b:List UInt8):D.pure (.str b)=true:=av4
@[go_sem] def ai0:D.pure .ak=true:=av4
@[go_sem] def apW(sz:Nat)(es:List D):D.pure (.sl sz es)=true:=av4
@[go_sem] def alQ(d:D)(j:Nat):D.pure (.bR d j)=true:=av4
@[go_sem] def aoA(ds:List D):D.pure (.agg ds)=D.aH ds:=av4
@[go_sem] def aoB(f:FuncId)(ds:List D):D.pure (.fW f ds)=D.aH ds:=av4
@[go_sem] def apV(f:Fn)(ds:List D):D.pure (.fn f ds)=D.aH ds:=av4
@[go_sem] def alO:D.aH []=true:=awq
@[go_sem] def aiZ(d:D)(ds:List D):D.aH (d::ds)=(d.pure&&D.aH ds):=awq
def kg{α:Type}(f:α->D)(l:List α)(h:∀x,(f x).pure=true):D.aH (l.map f)=true:=by induction l<;>grind [D.aH]
variable {full rest:List Oper} {acc:List Cl} {K:List Cl->Env->ab->Prop} {dst:Option Tmp} {ty:TypeId} {pos:String} {af:Array Edge} {g:Option (Nat×Bool)} {K1:Cl->Env->ab->Prop}
@[go_sem ↓] def aol:qg P C full [] acc σ bx K=K acc σ bx:=ax
@[go_sem ↓] def alF(op:Op):qg P C full (⟨dst,op,ty,pos,af,none⟩::rest) acc σ bx K=
 a_ P C ⟨dst,op,ty,pos,af,none⟩ σ bx fun c σ' bx'=>iN c (K (c::acc) σ' bx') (qg P C full rest (c::acc) σ' bx' K):=ax
@[go_sem] def apB(want:Bool)(x y:Prop):gK none want x y=y:=by simp[gK]
@[go_sem] def apC(b:Bool)(x y:Prop):gK (some b) true x y=je b x y:=by grind [gK,je]
@[go_sem] def am3(b:Bool)(x y:Prop):gK (some b) false x y=je b y x:=by grind [gK,je]
@[go_sem ↓] def alG(op:Op)(j:Nat)(want:Bool):qg P C full (⟨dst,op,ty,pos,af,some (j,want)⟩::rest) acc σ bx K=
 aJ (kx full[j]? σ) fun g=>gK g want (a_ P C ⟨dst,op,ty,pos,af,some (j,want)⟩ σ bx fun c σ' bx'=>iN c (K (c::acc) σ' bx') (qg P C full rest (c::acc) σ' bx' K))
  (qg P C full rest (.n::acc) (put σ dst (.raw undef)) bx K):=ax
@[go_sem] def ahi(b:Bool):ze (.bool b)=some (some b):=ax
@[go_sem] def aer:ze (.raw undef)=some none:=by simp[ze,undef]
@[go_sem] def ahh(op:Op)(d:Nat):kx (some ⟨some d,op,ty,pos,af,g⟩) σ=ze (σ d):=ax
@[go_sem] def al6(t e i j:Nat):pE (.loc t e i j)= .r t:=ax
@[go_sem] def aji(d:D)(j:Nat):pE (.bR d j)= .n:=ax
@[go_sem] def al7(t e i j:Nat):ot (.loc t e i j)= .w t:=ax
section
variable (o:ik) (tab:List (Nat×List (Nat×Nat))) (base aN lo:Nat) (yl:Option (List (List D)×Nat×Nat×Nat)) (pn df:Bool)
@[go_sem] def apn:(Calc.mk o tab base aN lo yl pn df).pn=pn:=ax
@[go_sem] def amK:(Calc.mk o tab base aN lo yl pn df).tab=tab:=ax
@[go_sem] def ajW:(Calc.mk o tab base aN lo yl pn df).base=base:=ax
@[go_sem] def apm:(Calc.mk o tab base aN lo yl pn df).lo=lo:=ax
@[go_sem] def amJ:(Calc.mk o tab base aN lo yl pn df).wN=⟨⟨o.to,fun _ _ _ _ _ _=>False,fun _ _ _ _=>False,fun _ _ _ _ _=>False⟩,tab,base,aN,lo,none,false,false⟩:=ax
end
@[go_sem] def aoZ(a c:Nat):(a+2+c=a)=False:=awe
@[go_sem] def ao0(a c:Nat):(a+1=a+2+c)=False:=awe
@[go_sem] def aoX(a c:Nat):(a+1<=a+2+c)=True:=awe
@[go_sem] def aoY(a c:Nat):(a=a+1+c)=False:=awe
@[go_sem] def ap3(a:Nat):(a+1<=a)=False:=awP
@[go_sem] def ajh(b d:Nat):lL b (some d)=some (b+d):=ax
@[go_sem] def aly(id:Nat):mj [] id=[]:=ax
@[go_sem] def aiO(k id:Nat)(ps:List (Nat×Nat))(r:List (Nat×List (Nat×Nat))):mj ((k,ps)::r) id=if k=id then ps else mj r id:=ax
@[go_sem] def apo(acc:List Cl):j_ [] acc=True:=ax
@[go_sem] def amN(i j:Nat)(ps:List (Nat×Nat))(acc:List Cl):j_ ((i,j)::ps) acc=(FX acc[i]? acc[j]?/\j_ ps acc):=ax
@[go_sem] def ag3(a b:Cl):FX (some a) (some b)=apart a b:=ax
@[go_sem] def amu(b:Cl):apart .n b=True:=Eq.trans (by cases b<;>rfl) rfl
@[go_sem] def amv(b:Cl):apart b .n=True:=Eq.trans (by cases b<;>rfl) rfl
@[go_sem] def amw(s t:Nat):apart (.r s) (.r t)=True:=ax
@[go_sem] def ajK(t:Nat):apart (.r t) .ra=True:=ax
@[go_sem] def amx(s t:Nat):apart (.r s) (.w t)=¬s=t:=ax
attribute [go_sem] not_false_eq_true
@[go_sem ↓] def aoG(d:Nat)(v:D):put σ (some d) v=ah σ d v:=ax
@[go_sem ↓] def aoF(v:D):put σ none v=σ:=ax
@[go_sem ↓] def aqo(t:Nat):ev σ (.tmp t)=σ t:=ax
@[go_sem ↓] def amV(v:Value):ev σ (.const v)=BK v:=ax
@[go_sem ↓] def apA(f:Nat):ev σ (.func f)= .fn (.func f) []:=ax
@[go_sem] def apK(k:IntKind)(n:Int):BK (.int k n)= .int k n:=ax
@[go_sem] def aod(b:Bool):BK (.bool b)= .bool b:=ax
@[go_sem] def aiS(l:List UInt8):BK (.string ⟨l.toArray⟩)= .str l:=ax
@[go_sem] def apL:BK (.slice none 0 0)= .ak:=ax
@[go_sem] def ahd(x y:Prop):F8 .jd x y=(x/\y):=ax
@[go_sem] def amC(ti:TI)(op:BinOp)(x:D):oy ti op x .ak=IZ ti op x:=by cases x<;>rfl
@[go_sem] def aiR(e sz b size:Nat)(g ag:Bool)(z:List D)(op:BinOp)(x:D):IZ ⟨.slice e sz b g,size,ag,z⟩ op x=yC op x:=ax
@[go_sem] def aob:yC .eql .ak=some (.bool true):=ax
@[go_sem] def aoc(t e sz o n:Nat):yC .eql (.ba t e sz o n)=some (.bool false):=ax
@[go_sem] def apI(sz:Nat)(es:List D):yC .eql (.sl sz es)=some (if es.isEmpty then .jd else .bool false):=ax
@[go_sem] def aoh(t e:Nat):D.one (.omap t e)=true:=ax
@[go_sem] def alp(s:List UInt8):oh .str (.str s)=true:=ax
@[go_sem] def alo(k:IntKind)(n:Int):oh (.int k) (.int k n)=true:=by simp[oh]
@[go_sem] def an0(t:Nat)(c:Int)(es:List D):He t (.int .i64 c::es)=some (t,c,es):=ax
@[go_sem] def alm(t m k:Nat)(s l:Int)(es:List D):CL t (.omap m k:: .int .i64 s:: .int .i64 l::es)=some (t,.omap m k,s,l,es):=ax
def S_(t e:Nat)(b:Bx):Option (Nat×Int×List D):=if b.ep=e/\b.k=3 then He t b.es else none
@[go_sem] def anZ(t e:Nat):jI bx (.omap t e)=S_ t e (bx t):=ax
@[go_sem] def anY(t e sz ty:Nat)(es:List D):S_ t e ⟨e,3,sz,ty,es⟩=He t es:=by simp[S_]
def NR(t e:Nat)(b:Bx):Option (Nat×D×Int×Int×List D):=if b.ep=e/\b.k=3 then CL t b.es else none
@[go_sem] def alk(t e:Nat):zB bx (.loc t e 0 0)=NR t e (bx t):=ax
@[go_sem] def alj(t e sz ty:Nat)(es:List D):NR t e ⟨e,3,sz,ty,es⟩=CL t es:=by simp[NR]
@[go_sem] def alx(T:TypeId->TI)(kt et size:Nat)(ag ok:Bool)(z:List D)(m k:D):x7 P T ⟨.map kt et,size,ag,z⟩ bx m k ok=if oh (T kt).k k=true then(jI bx m).bind fun r=>vJ (zeroV P et) ok (dX (T kt).k k r.2.2 0)else none:=ax
@[go_sem] def aml(Z:Option D)(i:Nat)(v:D):vJ Z true (some (some (i,v)))=some (.aL [v,.bool true]):=ax
@[go_sem] def ajz(Z:Option D)(i:Nat)(v:D):vJ Z false (some (some (i,v)))=some v:=ax
@[go_sem] def amk(Z:Option D):vJ Z true (some none)=Z.map fun z=> .aL [z,.bool false]:=ax
@[go_sem] def ajy(Z:Option D):vJ Z false (some none)=Z:=by cases Z<;>rfl
@[go_sem] def ajg(t e:Nat):Bh (.omap t e)= .r t:=ax
@[go_sem] def apa(T:TypeId->TI)(kt et size:Nat)(ag:Bool)(z:List D)(m k v:D):vH T ⟨.map kt et,size,ag,z⟩ bx m k v=if oh (T kt).k k=true then(if v.simple=true then((jI bx m).bind fun r=>(nj (T kt).k k v r.2.1 r.2.2).map (ff bx r.1))else none)else none:=by simp[vH,tR]
@[go_sem] def amT(T:TypeId->TI)(kt et size:Nat)(ag:Bool)(z:List D)(m k:D):Sr T ⟨.map kt et,size,ag,z⟩ bx m k=if oh (T kt).k k=true then(jI bx m).bind fun r=>(MI (T kt).k k r.2.1 r.2.2).map (ff bx r.1)else none:=ax
@[go_sem] def ajb(k:IntKind)(n:Int):D.simple (.int k n)=true:=ax
@[go_sem] def ahu(b:Bool):D.simple (.bool b)=true:=ax
@[go_sem] def aja(ds:List D):D.simple (.agg ds)=D.pD ds:=ax
@[go_sem] def al3(f:Fn)(ds:List D):D.simple (.fn f ds)=D.pD ds:=ax
@[go_sem] def aht:D.pD []=true:=ax
@[go_sem] def agy(d:D)(ds:List D):D.pD (d::ds)=(d.simple&&D.pD ds):=ax
@[go_sem] def anR(m:D):Fa bx [m]=(jI bx m).map fun r=> .int .i64 (r.2.2.length:Int):=ax
@[go_sem] def aoR(kt et size:Nat)(ag:Bool)(z:List D)(x:D):Fy ⟨.map kt et,size,ag,z⟩ bx x=(jI bx x).map fun r=>[x,.int .i64 r.2.1,.int .i64 r.2.1]:=ax
@[go_sem ↓] def ahD(T:Nat)(m k:Operand)(ok:Bool):a_ P C ⟨dst,.lookup T m k ok,ty,pos,af,g⟩ σ bx K1=aJ (x7 P (aj P) (aj P T) bx (ev σ m) (ev σ k) ok) fun v=>aJ (some (Bh (ev σ m))) fun c=>K1 c (put σ dst v) bx:=ax
@[go_sem ↓] def agI(T d:Nat):a_ P C ⟨some d,.makeMap T none,ty,pos,af,g⟩ σ bx K1=(C.lo=0/\aJ (some (C.base+d)) fun s=>K1 .wa (ah σ d (.omap s ((bx s).ep+1))) (ah bx s ⟨(bx s).ep+1,3,0,T,[.int .i64 0]⟩)):=by simp[a_,gu,qQ,iL,nH,aJ]
@[go_sem ↓] def ac8(T:Nat)(m k v:Operand):a_ P C ⟨dst,.mapUpdate T m k v,ty,pos,af,g⟩ σ bx K1=(C.lo=0/\aJ (vH (aj P) (aj P T) bx (ev σ m) (ev σ k) (ev σ v)) fun bx'=>K1 .wa (put σ dst (.raw undef)) bx'):=auR
@[go_sem ↓] def ahB(T:Nat)(m k v:Operand):a_ P C ⟨dst,.insert T m k v,ty,pos,af,g⟩ σ bx K1=(C.lo=0/\aJ (vH (aj P) (aj P T) bx (ev σ m) (ev σ k) (ev σ v)) fun bx'=>K1 .wa (put σ dst (.raw undef)) bx'):=auR
@[go_sem ↓] def ajq(T d:Nat)(x:Operand):a_ P C ⟨some d,.range T x,ty,pos,af,g⟩ σ bx K1=(C.lo=0/\aJ (Fy (aj P T) bx (ev σ x)) fun es=>K1 .wa (ah σ d (.loc (C.base+d) ((bx (C.base+d)).ep+1) 0 0)) (ah bx (C.base+d) ⟨(bx (C.base+d)).ep+1,3,0,0,es⟩)):=auR
@[go_sem ↓] def amc(it:Operand):a_ P C ⟨dst,.next it false,ty,pos,af,g⟩ σ bx K1=(C.pn=true/\C.lo=0/\AM bx (ev σ it) fun v bx'=>K1 .wa (put σ dst v) bx'):=by simp[a_,gu,qQ,iL,nH]
@[go_sem ↓] def ajn(it:Operand):a_ P C ⟨dst,.entry it,ty,pos,af,g⟩ σ bx K1=(C.lo=0/\aJ (wP bx (ev σ it)) fun v=>K1 .wa (put σ dst v) bx):=auR
@[go_sem ↓] def ahA(T T':Nat)(x y:Operand):a_ P C ⟨dst,.call {callee:=.builtin .delete,args:= #[x,y],argTypes:= #[T,T']},ty,pos,af,g⟩ σ bx K1=(C.lo=0/\aJ (Sr (aj P) (aj P T) bx (ev σ x) (ev σ y)) fun bx'=>K1 .wa (put σ dst (.raw (.tuple #[]))) bx'):=by grind [a_,gu,qQ,iL,nH,DI]
@[go_sem ↓] def ahC(x:Operand)(name:String)(args:List Operand)(ts:Array TypeId):a_ P C ⟨dst,.call {callee:=.invoke x name,args:=args.toArray,argTypes:=ts},ty,pos,af,g⟩ σ bx K1=qM P C (ev σ x) name (args.map (ev σ)) bx fun c d bx'=>K1 c (put σ dst d) bx':=ax
@[go_sem] def ale(t:TypeId)(d:D)(name:String)(ds:List D)(K:Cl->D->ab->Prop):qM P C (.bK t d) name ds bx K=aJ (wk P t name) fun f=>c_ C f (d::ds) bx K:=ax
@[go_sem ↓] def abv(T d:Nat)(l c:Operand):a_ P C ⟨some d,.makeSlice T l c,ty,pos,af,g⟩ σ bx K1=aJ (x9 (aj P) (aj P T) (ev σ l) (ev σ c)) fun r=>K1 (.w (C.base+d)) (ah σ d (.ba (C.base+d) ((bx (C.base+d)).ep+1) r.1 0 r.2.2.length)) (ah bx (C.base+d) ⟨(bx (C.base+d)).ep+1,1,r.1,r.2.1,r.2.2⟩):=ax
@[go_sem] def an8(T:TypeId->TI)(el esz bytes size:Nat)(g ag:Bool)(z:List D)(k k':IntKind)(n m:Int)(h1:0<esz)(h2:0<bytes):x9 T ⟨.slice el esz bytes g,size,ag,z⟩ (.int k n) (.int k' m)=if 0<=n then(if n<=m then(if m * bytes<=140737488355328 then(if(T el).size=esz then(kT (T el)).map fun z=>(esz,el,List.replicate n.toNat z)else none)else none)else none)else none:=by simp_all[x9,tR]
@[go_sem] def ahe(T:TypeId->TI)(e z0 b s s':Nat)(g0 g g':Bool)(z z':List D)(es:List D):As T ⟨.slice e z0 b g0,s,g,z⟩ ⟨.str,s',g',z'⟩ (.sl 1 es)=if(T e).k.vB=true then(oz es).map .str else none:=by simp[As]
@[go_sem] def apF:TK.vB (.int .u8)=true:=ax
@[go_sem ↓] def ahv(T d:Nat):a_ P C ⟨some d,.alloc T,ty,pos,af,g⟩ σ bx K1=aJ (BM (kT (aj P T)) (vL (aj P T) (zeroV P T))) fun z=>aJ (some (aj P T).size) fun s=>
 K1 (.w (C.base+d)) (ah σ d (.loc (C.base+d) ((bx (C.base+d)).ep+1) 0 0)) (ah bx (C.base+d) ⟨(bx (C.base+d)).ep+1,1,s,T,[z]⟩):=ax
@[go_sem ↓] def al_(T d:Nat)(x:Operand):a_ P C ⟨some d,.box T x,ty,pos,af,g⟩ σ bx K1=aJ (B0 (aj P T) (ev σ x)) fun v=>aJ (some (aj P T).size) fun s=>
 K1 (.w (C.base+d)) (ah σ d (.loc (C.base+d) ((bx (C.base+d)).ep+1) 0 0)) (ah bx (C.base+d) ⟨(bx (C.base+d)).ep+1,1,s,T,[v]⟩):=ax
@[go_sem] def aop(d:D)(b:Bool):BM (some d) b=some d:=ax
@[go_sem] def aoo(b:Bool):BM none b=if b=true then some (.agg [])else none:=ax
@[go_sem] def aor(r:ab)(b:Bool)(a v:D):zN (some r) b bx a v=some r:=ax
@[go_sem] def aoq(b:Bool)(t e i j:Nat)(v:D):zN none b bx (.loc t e i j) v=if b=true then(if v.cells=[]then some bx else none)else none:=by simp[zN,tR]
@[go_sem] def aqm(q:List Nat)(ag:Bool)(z:List D):vL ⟨.struct [] q,0,ag,z⟩ (some (.agg []))=true:=ax
@[go_sem] def apf(q:List Nat)(ag:Bool)(z:List D):kT ⟨.struct [] q,0,ag,z⟩=none:=by simp[kT]
@[go_sem] def ajT(q:List Nat)(ag:Bool)(z:List D)(ps:List (Nat×D)):nt ⟨.struct [] q,0,ag,z⟩ ps=none:=by simp[nt]
@[go_sem] def amf(lo:Nat)(q:List Nat)(ag:Bool)(z:List D)(a v:D):gZ lo ⟨.struct [] q,0,ag,z⟩ bx a v=none:=by unfold gZ;grind
attribute [go_sem] List.isEmpty_nil Bool.true_and
@[go_sem] def apg(k:TK)(size:Nat)(ag:Bool)(z:List D)(h:0<size):kT ⟨k,size,ag,z⟩=if z.length=size then(if z.all D.one then(if ag then some (EB ag z)else if size=1 then some (EB ag z)else none)else none)else none:=by grind [kT]
@[go_sem] def api(k:TK)(size:Nat)(ag:Bool)(z:List D)(v:D)(h:0<size):B0 ⟨k,size,ag,z⟩ v=if v.cells.length=size then(if v.cells.all D.one then some v else none)else none:=by grind [B0]
@[go_sem] def apO(k:IntKind)(n:Int):D.one (.int k n)=true:=ax
@[go_sem] def aog(b:Bool):D.one (.bool b)=true:=ax
@[go_sem] def apR(s:List UInt8):D.one (.str s)=true:=ax
@[go_sem] def alE:D.one .ak=true:=ax
@[go_sem] def ar4(sz:Nat)(es:List D):D.one (.sl sz es)=true:=ax
@[go_sem] def apQ(t e sz o n:Nat):D.one (.ba t e sz o n)=true:=ax
@[go_sem] def apP(t e i j:Nat):D.one (.loc t e i j)=true:=ax
@[go_sem] def apM(f:FuncId)(ds:List D):D.one (.fW f ds)=true:=ax
@[go_sem] def ar3(f:Fn)(ds:List D):D.one (.fn f ds)=true:=ax
@[go_sem] def apN(t:TypeId)(d:D):D.one (.bK t d)=true:=ax
@[go_sem] def aok(x:Option Addr):D.one (.raw (.pointer x))=true:=ax
@[go_sem] def aoi:D.one (.raw .nilFunc)=true:=ax
@[go_sem] def aoj(x:Option Nat):D.one (.raw (.map x))=true:=ax
@[go_sem] def all_nil{α:Type}(p:α->Bool):[].all p=true:=ax
@[go_sem] def all_cons{α:Type}(p:α->Bool)(x:α)(l:List α):(x::l).all p=(p x&&l.all p):=ax
attribute [go_sem] Bool.and_self Bool.and_true Bool.true_and Bool.and_false Bool.false_and true_and and_true
@[go_sem ↓] def ahy(T:Nat)(a x:Operand):a_ P C ⟨dst,.store T a x,ty,pos,af,g⟩ σ bx K1=aJ (zN (gZ C.lo (aj P T) bx (ev σ a) (ev σ x)) (vL (aj P T) (zeroV P T)) bx (ev σ a) (ev σ x)) fun bx'=>aJ (some (ot (ev σ a))) fun c=>K1 c (put σ dst (.raw undef)) bx':=ax
@[go_sem ↓] def agE(T T':Nat)(x y:Operand):a_ P C ⟨dst,.call {callee:=.builtin .append,args:= #[x,y],argTypes:= #[T,T']},ty,pos,af,g⟩ σ bx K1=
 if Lu C.tab dst=true then(C.pn=true/\aJ (xK C.lo (aj P) (aj P T) T T' (lL C.base dst) bx (ev σ x) (ev σ y)) fun r=>K1 .wa (put σ dst r.1.1) r.1.2/\K1 .wa (put σ dst r.2.1) r.2.2)
 else aJ (BZ C.lo (aj P) T T' (lL C.base dst) bx (ev σ x) (ev σ y)) fun r=>K1 .wa (put σ dst r.1) r.2:=ax
@[go_sem] def ahK(tab:List (Nat×List (Nat×Nat)))(d:Tmp):Lu tab (some d)=qP tab (2000000+d):=ax
@[go_sem] def ag4(lo:Nat)(T:TypeId->TI)(e esz b size d:Nat)(ag jV:Bool)(z:List D)(x y:D)(t t':Nat)(h:0<esz):xK lo T ⟨.slice e esz b ag,size,jV,z⟩ t t' (some d) bx x y=if(T e).zero.length=esz then(sk T t t' esz e bx y).bind fun ys=>if ys=[]then Xd x bx else R7 lo d e esz b bx x ys else none:=by simp[xK,h]
@[go_sem] def ahg(T:TypeId->TI)(t esz el:Nat)(y:D):sk T t t esz el bx y=mz bx esz y:=by simp[sk]
@[go_sem] def ah4(T:TypeId->TI)(t t' el:Nat)(s:List UInt8)(h:t≠t'):sk T t t' 1 el bx (.str s)=match(T t').k with| .str=>if(T el).k.vB=true then some (cM s)else none|_=>none:=by simp[sk,aaw h];grind
@[go_sem] def asj(sz:Nat)(es:List D):Xd (.sl sz es) bx=some ((.sl sz es,bx),(.sl sz es,bx)):=ax
@[go_sem] def ap2(t e sz o n:Nat):Xd (.ba t e sz o n) bx=some ((.ba t e sz o n,bx),(.ba t e sz o n,bx)):=ax
@[go_sem] def ajL(lo:Nat)(T:TypeId->TI)(t:TypeId)(x y:D):BZ lo T t t dst bx x y=R6 lo T (T t) dst bx x y:=by simp_all[BZ]
@[go_sem] def amy(lo:Nat)(T:TypeId->TI)(e b size d ajc:Nat)(ag jV ams:Bool)(z z':List D)(x:D)(s:List UInt8):Me lo T ⟨.slice e 1 b ag,size,jV,z⟩ ⟨.str,ajc,ams,z'⟩ (some d) bx x (.str s)=
 if(T e).zero.length=1/\(T e).k.vB=true then jC lo T ⟨.slice e 1 b ag,size,jV,z⟩ (some d) bx x (cM s)else none:=by
 simp[Me]
@[go_sem] def ahL(lo:Nat)(T:TypeId->TI)(e esz b size:Nat)(ag jV:Bool)(z:List D)(x y:D):R6 lo T ⟨.slice e esz b ag,size,jV,z⟩ dst bx x y=if esz=0 then none else(mz bx esz y).bind fun ys=>jC lo T ⟨.slice e esz b ag,size,jV,z⟩ dst bx x ys:=ax
@[go_sem ↓] def ajj(fo:Operand)(args:List Operand)(b_:Array TypeId):a_ P C ⟨dst,.call {callee:=.value fo,args:=args.toArray,argTypes:=b_},ty,pos,af,g⟩ σ bx K1=
 gk C (ev σ fo) (args.map (ev σ)) bx fun c d bx'=>K1 c (put σ dst d) bx':=by
 simp[a_]
def aI{f:Nat}{ds:List D}{K2:Cl->D->ab->Prop}{d:D}(h:C.o.to f ds d)(hp:D.aH ds=true)(hk:K2 .n d bx):c_ C f ds bx K2:=.inl ⟨d,hp,h,hk⟩
def lx{f:Nat}{ds ds':List D}{K2:Cl->D->ab->Prop}{d:D}(h:C.o.to f ds' d)(ho:cE bx ds=some ds')(hb:d.bare=true)(hk:K2 .ra d bx):c_ C f ds bx K2:=.inr (.inl ⟨ds',d,ho,h,hb,hk⟩)
def ET{f:Nat}{ds ds':List D}{K2:Cl->D->ab->Prop}{d:D}(h:C.o.to f ds' d)(ho:cE bx ds=some ds')(bC:C.lo=0)(hk:K2 .wa d (aS bx ds)):c_ C f ds bx K2:=.inr (.inr (.inl ⟨ds',d,bC,ho,h,hk⟩))
def ao{f:Nat}{ds:List D}{K2:Cl->D->ab->Prop}{bP:D->ab->Prop}(h:C.o.pT f C.aN ds bx bP fun _ _=>False)(bC:C.lo=0)(hk:∀d bx',bP d bx'->K2 .wa d bx'):c_ C f ds bx K2:=.inr (.inr (.inr ⟨bP,_,.inl bC,h,fun d bx' hp=> .inl (hk d _ hp),fun _ _ h=>h.elim⟩))
def bj{f:Nat}{ds:List D}{K2:Cl->D->ab->Prop}{bP Pan:D->ab->Prop}(h:C.o.pT f C.aN ds bx bP Pan)(bC:C.lo=0)(hk:∀d bx',bP d bx'->K2 .wa d bx')(hp:∀d bx',Pan d bx'->K2 (.cd d) .undef bx'):c_ C f ds bx K2:=.inr (.inr (.inr ⟨bP,Pan,.inl bC,h,fun d bx' hp=> .inl (hk d _ hp),hp⟩))
def f_{f:Nat}{ds:List D}{K2:Cl->D->ab->Prop}{bP Pan:D->ab->Prop}(h:C.o.pT f C.aN ds bx bP Pan)(bC:C.lo=0)(hk:∀d bx',bP d bx'->∃r r',aU bx' d=some r/\bA r r'/\K2 .wa r' (aS bx' [d]))(hp:∀d bx',Pan d bx'->K2 (.cd d) .undef bx'):c_ C f ds bx K2:=.inr (.inr (.inr ⟨bP,Pan,.inl bC,h,fun d bx' hp=> .inr ⟨bC,hk d _ hp⟩,hp⟩))
def abH{f:Nat}{ds:List D}{K2:Cl->D->ab->Prop}{bP:D->ab->Prop}(h:C.o.pT f C.aN ds bx bP fun _ _=>False)(hl:∀d bx',bP d bx'->bg C.lo bx'=bg C.lo bx)(hk:∀d bx',bP d bx'->K2 .wa d bx'):c_ C f ds bx K2:=.inr (.inr (.inr ⟨bP,_,.inr ⟨hl,fun _ _ h=>h.elim⟩,h,fun d bx' hp=> .inl (hk d _ hp),fun _ _ h=>h.elim⟩))
@[go_sem] def aiY(a b:D):uJ (.bool true) a b=some a:=by simp[uJ]
@[go_sem] def aho(a b:D):uJ (.bool false) a b=some b:=by simp[uJ]
@[go_sem] def aoz(t a b:Bool):uJ (.bool t) (.bool a) (.bool b)=some (.bool (if t then a else b)):=by grind [uJ]
@[go_sem] def aoy(t:TypeId)(v:D)(f:D->Prop):I4 (.bK t v) f=f (.bK t v):=ax
@[go_sem ↓] def ahx(x:Operand):a_ P C ⟨dst,.panic x,ty,pos,af,g⟩ σ bx K1=(C.pn=true/\I4 (ev σ x) fun d=>K1 (.cd d) σ bx):=ax
@[go_sem ↓] def amb(x:Operand):a_ P C ⟨dst,.move x,ty,pos,af,g⟩ σ bx K1=aJ (some (ev σ x)) fun v=>K1 .n (put σ dst v) bx:=ax
@[go_sem ↓] def ahz(x:Operand):a_ P C ⟨dst,.assign x,ty,pos,af,g⟩ σ bx K1=aJ (some (ev σ x)) fun v=>K1 .n (put σ dst v) bx:=ax
@[go_sem ↓] def amd(x y z:Operand):a_ P C ⟨dst,.pick x y z,ty,pos,af,g⟩ σ bx K1=aJ (uJ (ev σ x) (ev σ y) (ev σ z)) fun v=>K1 .n (put σ dst v) bx:=ax
@[go_sem ↓] def ajl(op:BinOp)(t t':Nat)(x y:Operand):a_ P C ⟨dst,.binOp op t x y t',ty,pos,af,g⟩ σ bx K1=aJ (ER (aj P t) op (ev σ x) (ev σ y) (isNil y)) fun v=>K1 .n (put σ dst v) bx:=ax
@[go_sem ↓] def ali(t:Nat):isNil (.tmp t)=false:=ax
@[go_sem ↓] def alf(k:IntKind)(n:Int):isNil (.const (.int k n))=false:=ax
@[go_sem ↓] def alh(s:ByteArray):isNil (.const (.string s))=false:=ax
@[go_sem ↓] def alg:isNil (.const .nilIface)=true:=ax
@[go_sem] def ahO(ti:TI)(op:BinOp)(x y:D):ER ti op x y false=oy ti op x y:=ax
@[go_sem] def amF(size:Nat)(ag:Bool)(z:List D)(x y:D):ER ⟨.bK,size,ag,z⟩ .eql x y true=(sQ x).map .bool:=ax
@[go_sem] def amG(size:Nat)(ag:Bool)(z:List D)(x y:D):ER ⟨.bK,size,ag,z⟩ .neq x y true=(sQ x).map fun b=> .bool (!b):=ax
@[go_sem] def an_(t:TypeId)(d:D):sQ (.bK t d)=some false:=ax
@[go_sem] def aoa:sQ (.raw .nilIface)=some true:=ax
@[go_sem] def afZ:BK .nilIface= .raw .nilIface:=ax
@[go_sem ↓] def Xl(t:Nat)(x:Operand):a_ P C ⟨dst,.makeInterface t x,ty,pos,af,g⟩ σ bx K1=aJ (DY (aj P t) t (ev σ x)) fun v=>K1 .n (put σ dst v) bx:=ax
@[go_sem ↓] def abx(t t':Nat)(ok:Bool)(x:Operand):a_ P C ⟨dst,.typeAssert x t' t ok,ty,pos,af,g⟩ σ bx K1=aJ (HP (aj P t) t ok (ev σ x)) fun v=>K1 .n (put σ dst v) bx:=ax
def TK.EV:TK->Bool
 | .none| .bK=>false
 |_=>true
@[go_sem] def aj5:TK.EV .bool=true:=ax
@[go_sem] def amP(k:IntKind):TK.EV (.int k)=true:=ax
@[go_sem] def amQ:TK.EV .str=true:=ax
@[go_sem] def ah0(e z b:Nat)(ag:Bool):TK.EV (.slice e z b ag)=true:=ax
@[go_sem] def ahc(fs:List (Nat×Nat×Bool))(eq:List Nat):TK.EV (.struct fs eq)=true:=ax
@[go_sem] def an7(k:TK)(size:Nat)(ag:Bool)(z:List D)(t:TypeId)(x:D):DY ⟨k,size,ag,z⟩ t x=if k.EV then some (.bK t x)else none:=by cases k<;>rfl
@[go_sem] def amg(k:TK)(size:Nat)(ag:Bool)(z:List D)(t t':TypeId)(ok:Bool)(v:D):HP ⟨k,size,ag,z⟩ t ok (.bK t' v)=if k.EV then(if t'=t then some (if ok then .aL [v,.bool true]else v)else if ok&& !z.isEmpty then some (.aL [.undef,.bool false])else none)else none:=by cases k<;>rfl
@[go_sem] def isEmpty_cons{α:Type}(x:α)(l:List α):(x::l).isEmpty=false:=ax
@[go_sem ↓] def ame(op:UnOp)(t:Nat)(x:Operand):a_ P C ⟨dst,.unOp op t x,ty,pos,af,g⟩ σ bx K1=aJ (Xu op (ev σ x)) fun v=>K1 .n (put σ dst v) bx:=ax
@[go_sem ↓] def ac6(t i:Nat)(x:Operand):a_ P C ⟨dst,.fieldAddr t x i,ty,pos,af,g⟩ σ bx K1=aJ (pk (aj P t) (ev σ x) i) fun v=>K1 .n (put σ dst v) bx:=ax
@[go_sem ↓] def ajo(t i:Nat)(x:Operand):a_ P C ⟨dst,.field t x i,ty,pos,af,g⟩ σ bx K1=aJ (Cg (aj P t) (ev σ x) i) fun v=>K1 .n (put σ dst v) bx:=ax
@[go_sem] def ajN(k:IntKind)(n:Int)(f:Int->Option D):qG (.int k n) f=f n:=ax
@[go_sem ↓] def ajk(t:Nat)(x:Operand):a_ P C ⟨dst,.sliceToArrayPointer t x,ty,pos,af,g⟩ σ bx K1=aJ (yT (aj P t) (ev σ x)) fun v=>K1 .n (put σ dst v) bx:=ax
@[go_sem ↓] def ac7(t:Nat)(x y:Operand):a_ P C ⟨dst,.indexAddr t x y,ty,pos,af,g⟩ σ bx K1=aJ (qG (ev σ y) (fT (aj P t) (ev σ x))) fun v=>K1 .n (put σ dst v) bx:=ax
@[go_sem ↓] def ajp(t:Nat)(x y:Operand):a_ P C ⟨dst,.index t x y,ty,pos,af,g⟩ σ bx K1=aJ (qG (ev σ y) (uZ (aj P t) (ev σ x))) fun v=>K1 .n (put σ dst v) bx:=ax
@[go_sem ↓] def ama(t:Nat)(x:Operand):a_ P C ⟨dst,.load t x,ty,pos,af,g⟩ σ bx K1=aJ (jh (aj P t) bx (ev σ x)) fun v=>aJ (some (pE (ev σ x))) fun c=>K1 c (put σ dst v) bx:=ax
@[go_sem] def ajP(ds:List D)(i:Nat):Lw (.aL ds) i=ds[i]?:=ax
@[go_sem ↓] def agG(x:Operand)(i:Nat):a_ P C ⟨dst,.extract x i,ty,pos,af,g⟩ σ bx K1=aJ (Lw (ev σ x) i) fun v=>K1 .n (put σ dst v) bx:=ax
@[go_sem] def alJ(a b:Option Int)(f:Option Int->Option Int->Option D):C9 (some a) (some b) f=f a b:=ax
@[go_sem] def anN(k:IntKind)(n:Int):E9 (.int k n)=some (some n):=ax
@[go_sem] def ahl:fu σ none=some none:=ax
@[go_sem] def ahm(x:Operand):fu σ (some x)=E9 (ev σ x):=ax
@[go_sem ↓] def ajr(t:Nat)(x:Operand)(lo hi:Option Operand):a_ P C ⟨dst,.slice t x lo hi none,ty,pos,af,g⟩ σ bx K1=aJ (C9 (fu σ lo) (fu σ hi) (kK (aj P t) (ev σ x))) fun v=>K1 .n (put σ dst v) bx:=ax
@[go_sem ↓] def ajm(t:Nat)(ps:List (Nat×Operand)):a_ P C ⟨dst,.build t ps.toArray,ty,pos,af,g⟩ σ bx K1=aJ (BM (nt (aj P t) (ps.map fun p=>(p.1,ev σ p.2))) (ps.isEmpty&&vL (aj P t) (zeroV P t))) fun v=>K1 .n (put σ dst v) bx:=ax
@[go_sem ↓] def abw(t n d:Nat)(ps:List (Nat×Operand)):a_ P C ⟨some d,.buildSlice t n ps.toArray,ty,pos,af,g⟩ σ bx K1=if qP C.tab d=true then(aJ (x6 (aj P) (aj P t) n (ps.map fun p=>(p.1,ev σ p.2))) fun r=>K1 (.w (C.base+d)) (ah σ d (.ba (C.base+d) ((bx (C.base+d)).ep+1) r.1 0 r.2.2.length)) (ah bx (C.base+d) ⟨(bx (C.base+d)).ep+1,1,r.1,r.2.1,r.2.2⟩))else aJ (nK (aj P) (aj P t) n (ps.map fun p=>(p.1,ev σ p.2))) fun v=>K1 .n (put σ (some d) v) bx:=ax
@[go_sem] def alv(d:Nat):qP [] d=false:=ax
@[go_sem] def aiM(k d:Nat)(l:List (Nat×Nat))(r:List (Nat×List (Nat×Nat))):qP ((k,l)::r) d=if k=1000000+d then true else qP r d:=ax
attribute [go_sem] Bool.false_eq_true
@[go_sem] def an9(t e i j:Nat):IY (.loc t e i j)=some (.loc t e i j):=ax
@[go_sem] def alD(d:D)(j:Nat):IY (.bR d j)=some (.bR d j):=ax
@[go_sem ↓] def adv(x:Operand):a_ P C ⟨dst,.nilCheck x,ty,pos,af,g⟩ σ bx K1=aJ (IY (ev σ x)) fun v=>K1 .n (put σ dst v) bx:=ax
@[go_sem ↓] def agH(f:FuncId)(x:Operand):a_ P C ⟨dst,.makeFunc (.func f) #[x] #[],ty,pos,af,g⟩ σ bx K1=aJ (some (.fW f [ev σ x])) fun v=>K1 .n (put σ dst v) bx:=ax
@[go_sem ↓] def adu(f:Fn)(caps:List Operand):a_ P C ⟨dst,.makeFunc f #[] caps.toArray,ty,pos,af,g⟩ σ bx K1=aJ (some (.fn f (caps.map (ev σ)))) fun v=>K1 .n (put σ dst v) bx:=ax
@[go_sem ↓] def agF(s d:Nat)(x:Operand):a_ P C ⟨dst,.convert s d x,ty,pos,af,g⟩ σ bx K1=aJ (As (aj P) (aj P s) (aj P d) (ev σ x)) fun v=>K1 .n (put σ dst v) bx:=ax
def NX(C:Calc)(ti:TI)(x:D)(bx:ab)(K:Cl->D->Prop)(_:Tok (K .n .undef):=⟨⟩):Prop:=match ti.k with
 | .map _ _=>C.pn=true/\C.lo=0/\aJ (Fa bx [x]) (K .wa)
 |_=>aJ (pI .len [ti] [x]) (K .n)
@[go_sem ↓] def ao1(T:Nat)(x:Operand):a_ P C ⟨dst,.call {callee:=.builtin .len,args:= #[x],argTypes:= #[T]},ty,pos,af,g⟩ σ bx K1=NX C (aj P T) (ev σ x) bx fun c v=>K1 c (put σ dst v) bx:=by grind [a_,gu,qQ,NX,iL,cv,TK.SY,nH]
section
variable (size:Nat) (ag:Bool) (z:List D) (x:D) (K:Cl->D->Prop)
@[go_sem] def anT:NX C ⟨.str,size,ag,z⟩ x bx K=aJ (pI .len [⟨.str,size,ag,z⟩] [x]) fun v=>K .n v:=ax
@[go_sem] def aiJ(e sz b:Nat)(g:Bool):NX C ⟨.slice e sz b g,size,ag,z⟩ x bx K=aJ (pI .len [⟨.slice e sz b g,size,ag,z⟩] [x]) fun v=>K .n v:=ax
@[go_sem] def anS(kt et:Nat):NX C ⟨.map kt et,size,ag,z⟩ x bx K=(C.pn=true/\C.lo=0/\aJ (Fa bx [x]) fun v=>K .wa v):=ax
end
@[go_sem ↓] def ao2(ts:Array TypeId)(x:List Operand):a_ P C ⟨dst,.call {callee:=.builtin .min,args:=x.toArray,argTypes:=ts},ty,pos,af,g⟩ σ bx K1=aJ (minD (x.map (ev σ))) fun v=>K1 .n (put σ dst v) bx:=ax
@[go_sem ↓] def ajA(x:Operand):cv P σ bx (.assign x)=some (ev σ x):=ax
@[go_sem ↓] def amm(op:BinOp)(t t':Nat)(x y:Operand):cv P σ bx (.binOp op t x y t')=ER (aj P t) op (ev σ x) (ev σ y) (isNil y):=ax
@[go_sem ↓] def XX(t:Nat)(x:Operand):cv P σ bx (.makeInterface t x)=DY (aj P t) t (ev σ x):=ax
@[go_sem ↓] def adx(t i:Nat)(x:Operand):cv P σ bx (.fieldAddr t x i)=pk (aj P t) (ev σ x) i:=ax
@[go_sem ↓] def ady(t:Nat)(x y:Operand):cv P σ bx (.indexAddr t x y)=qG (ev σ y) (fT (aj P t) (ev σ x)):=ax
@[go_sem ↓] def amo(t:Nat)(x:Operand)(lo hi:Option Operand):cv P σ bx (.slice t x lo hi none)=C9 (fu σ lo) (fu σ hi) (kK (aj P t) (ev σ x)):=ax
@[go_sem ↓] def amn(t:Nat)(ps:List (Nat×Operand)):cv P σ bx (.build t ps.toArray)=BM (nt (aj P t) (ps.map fun p=>(p.1,ev σ p.2))) (ps.isEmpty&&vL (aj P t) (zeroV P t)):=ax
@[go_sem ↓] def agR(x:Operand):cv P σ bx (.nilCheck x)=IY (ev σ x):=ax
@[go_sem ↓] def ahF(f:FuncId)(x:Operand):cv P σ bx (.makeFunc (.func f) #[x] #[])=some (.fW f [ev σ x]):=ax
@[go_sem ↓] def agQ(f:Fn)(caps:List Operand):cv P σ bx (.makeFunc f #[] caps.toArray)=some (.fn f (caps.map (ev σ))):=ax
variable {ti:TI}
@[go_sem] def amB(op:BinOp)(k:IntKind)(a b:Int):oy ti op (.int k a) (.int k b)=oP op k a b:=by simp[oy]
@[go_sem] def amE(op:BinOp)(a b:List UInt8):oy ti op (.str a) (.str b)=vG op a b:=by simp[oy]
@[go_sem] def anD(k:IntKind)(a b:Int):oP .add k a b=some (.int k (k.wrap (a+b))):=ax
@[go_sem] def anM(k:IntKind)(a b:Int):oP .sub k a b=some (.int k (k.wrap (a - b))):=ax
@[go_sem] def anL(k:IntKind)(a b:Int)(h:b≠0):oP .rem k a b=some (.int k (a.tmod b)):=by simp[oP,h]
@[go_sem] def anF(k:IntKind)(a b:Int):oP .eql k a b=some (.bool (decide (a=b))):=by rfl
@[go_sem] def anK(k:IntKind)(a b:Int):oP .neq k a b=some (.bool (!decide (a=b))):=by grind [oP,Yf]
@[go_sem] def anJ(k:IntKind)(a b:Int):oP .lss k a b=some (.bool (decide (a<b))):=ax
@[go_sem] def anI(k:IntKind)(a b:Int):oP .leq k a b=some (.bool (decide (a<=b))):=ax
@[go_sem] def anH(k:IntKind)(a b:Int):oP .gtr k a b=some (.bool (decide (b<a))):=ax
@[go_sem] def anG(k:IntKind)(a b:Int):oP .geq k a b=some (.bool (decide (b<=a))):=ax
@[go_sem] def ao4(a b:List UInt8):vG .eql a b=some (.bool (decide (a=b))):=by grind [vG]
@[go_sem] def ao5(a b:List UInt8):vG .neq a b=some (.bool (!decide (a=b))):=by grind [vG]
@[go_sem] def ao3(a b:List UInt8)(h:a.length+b.length<=9223372036854775807):vG .add a b=some (.str (a++b)):=by simp[vG,h]
@[go_sem] def adV(a b:List D):oy ti .neq (.agg a) (.agg b)=(JS ti (.agg a) (.agg b)).map fun x=> .bool (!x):=ax
@[go_sem] def ado(size:Nat)(ag:Bool)(z:List D)(a b:Bool):oy ⟨.bool,size,ag,z⟩ .eql (.bool a) (.bool b)=some (.bool (a==b)):=ax
@[go_sem] def adp(size:Nat)(ag:Bool)(z:List D)(a b:Bool):oy ⟨.bool,size,ag,z⟩ .neq (.bool a) (.bool b)=some (.bool (!(a==b))):=ax
@[go_sem] def apw(fs:List (Nat×Nat×Bool))(k:Nat)(ks:List Nat)(size:Nat)(ag:Bool)(z a b:List D):JS ⟨.struct fs (k::ks),size,ag,z⟩ (.agg a) (.agg b)=if bU (k::ks) a then mO a b else HA k ks a b:=ax
@[go_sem] def alq(ks:List Nat)(ds:List D):bU (0::ks) ds=false:=awr
@[go_sem] def ahk:bU [] []=true:=by simp[bU]
@[go_sem] def alr(ks:List Nat)(k:IntKind)(n:Int)(ds:List D):bU (2::ks) (.int k n::ds)=bU ks ds:=by simp[bU]
@[go_sem] def als(ks:List Nat)(s:List UInt8)(ds:List D):bU (3::ks) (.str s::ds)=bU ks ds:=by simp[bU]
def Mb(a:Bool)(x:Option Bool):Option Bool:=x.map fun b=>a&&b
@[go_sem] def ajJ(a b:Bool):Mb a (some b)=some (a&&b):=ax
@[go_sem] def apy:mO [] []=some true:=by simp[mO]
@[go_sem] def apx(k:IntKind)(m n:Int)(xs ys:List D):mO (.int k m::xs) (.int k n::ys)=Mb (decide (m=n)) (mO xs ys):=by
 simp[mO,xM,abo,Mb];by_cases h:m=n
 ·exact awy
 exact awN
@[go_sem] def apz(m n:List UInt8)(xs ys:List D):mO (.str m::xs) (.str n::ys)=Mb (decide (m=n)) (mO xs ys):=by
 simp[mO,xM,Mb];by_cases h:m=n
 ·exact awy
 exact awN
@[go_sem] def anE(k:IntKind)(a b:Int):oP .and k a b=some (.int k (fg .and k a b)):=ax
@[go_sem] def apE(k:IntKind)(a b:Int):oP .or k a b=some (.int k (fg .or k a b)):=ax
@[go_sem ↓] def amD(k k':IntKind)(a b:Int):oy ti .shr (.int k a) (.int k' b)=La .shr k a b:=by simp only[oy];split<;>rfl
@[go_sem] def ap1(k:IntKind)(a b:Int)(h:0<=b):La .shr k a b=some (.int k (a.fdiv (2 ^ (min b.toNat k.bits)))):=by simp_all[La]
@[go_sem] def ap4(b:Bool):Xu .not (.bool b)=some (.bool (!b)):=ax
theorem wrap_i64{n:Int}(h1: -9223372036854775808<=n)(h2:n<=9223372036854775807):IntKind.i64.wrap n=n:=by grind [IntWalk.i64_in]
@[go_sem] def ai_(t e i j o:Nat):kJ (.loc t e i j) o=some (.loc t e i (j+o)):=ax
@[go_sem] def ahs(d:D)(j o:Nat):kJ (.bR d j) o=some (.bR d (j+o)):=ax
def aej(x:D):Option (Nat×Nat×Bool)->Option D
 |some (off,sz,_)=>if sz=0 then none else kJ x off
 |none=>none
@[go_sem] def akf(x:D)(off sz:Nat)(b:Bool):aej x (some (off,sz,b))=if sz=0 then none else kJ x off:=ax
@[go_sem] def XW(fs:List (Nat×Nat×Bool))(eq:List Nat)(size:Nat)(ag:Bool)(z:List D)(x:D)(i:Nat):pk ⟨.struct fs eq,size,ag,z⟩ x i=aej x fs[i]?:=ax
def aek(ds:List D):Option (Nat×Nat×Bool)->Option D
 |some (off,sz,ag)=>if sz=0 then none else j7 (.agg ds) off ag sz
 |none=>none
@[go_sem] def akg(x:List D)(off sz:Nat)(b:Bool):aek x (some (off,sz,b))=if sz=0 then none else j7 (.agg x) off b sz:=ax
@[go_sem] def adr(fs:List (Nat×Nat×Bool))(eq:List Nat)(size:Nat)(ag:Bool)(z:List D)(ds:List D)(i:Nat):Cg ⟨.struct fs eq,size,ag,z⟩ (.agg ds) i=aek ds fs[i]?:=ax
@[go_sem] def ahn(d:D)(j k:Nat):j7 d j false k=d.cells[j]?:=by simp[j7]
@[go_sem] def aiX(d:D)(j k:Nat):j7 d j true k=if j+k<=d.cells.length then some (.agg ((d.cells.drop j).take k))else none:=by simp[j7]
@[go_sem] def ajY(ds:List D):(D.agg ds).cells=ds:=ax
@[go_sem] def aj1(k:IntKind)(n:Int):(D.int k n).cells=[.int k n]:=ax
@[go_sem] def ahY(b:Bool):(D.bool b).cells=[.bool b]:=ax
@[go_sem] def aj4(s:List UInt8):(D.str s).cells=[.str s]:=ax
@[go_sem] def ahb:D.ak.cells=[.ak]:=ax
@[go_sem] def amM(sz:Nat)(es:List D):(D.sl sz es).cells=[.sl sz es]:=ax
@[go_sem] def aj3(t e sz o n:Nat):(D.ba t e sz o n).cells=[.ba t e sz o n]:=ax
@[go_sem] def aj2(t e i j:Nat):(D.loc t e i j).cells=[.loc t e i j]:=ax
@[go_sem] def ajZ(f:FuncId)(ds:List D):(D.fW f ds).cells=[.fW f ds]:=ax
@[go_sem] def amL(f:Fn)(ds:List D):(D.fn f ds).cells=[.fn f ds]:=ax
@[go_sem] def aj0(t:TypeId)(d:D):(D.bK t d).cells=[.bK t d]:=ax
@[go_sem] def ads(e esz b size:Nat)(ag jV:Bool)(z:List D)(es:List D)(n:Int)(h:0<=n)(h2:0<esz):fT ⟨.slice e esz b ag,size,jV,z⟩ (.sl esz es) n=(es[n.toNat]?).map fun d=> .bR d 0:=by grind [fT]
@[go_sem] def ach(e esz b size:Nat)(ag jV:Bool)(z:List D)(t e' o len:Nat)(n:Int)(h:0<=n)(h':n<len)(h2:0<esz):fT ⟨.slice e esz b ag,size,jV,z⟩ (.ba t e' esz o len) n=some (.loc t e' (o+n.toNat) 0):=by grind [fT]
@[go_sem] def aiB(size:Nat)(ag:Bool)(z:List D)(s:List UInt8)(n:Int)(h:0<=n):uZ ⟨.str,size,ag,z⟩ (.str s) n=(s[n.toNat]?).map fun b=> .int .u8 (b.toNat:Int):=by simp[uZ,h]
@[go_sem] def aiN(k:TK)(size:Nat)(ag:Bool)(z:List D)(d:D)(j:Nat)(h:0<size):jh ⟨k,size,ag,z⟩ bx (.bR d j)=j7 d j ag size:=by simp[jh,h]
def Sd(b:Bx)(e i:Nat)(f:D->Option D):Option D:=if b.ep=e/\lv b.k then(b.es[i]?).bind f else none
@[go_sem] def alw(k:TK)(size:Nat)(ag:Bool)(z:List D)(t e i j:Nat)(h:0<size):jh ⟨k,size,ag,z⟩ bx (.loc t e i j)=Sd (bx t) e i fun d=>j7 d j ag size:=by simp[jh,Sd,h]
@[go_sem] def ajV(e sz ty i:Nat)(es:List D)(f:D->Option D):Sd ⟨e,1,sz,ty,es⟩ e i f=(es[i]?).bind f:=by simp[Sd,lv1,lv2]
@[go_sem] def ajs(lo:Nat)(k:TK)(size:Nat)(ag:Bool)(z:List D)(t e i j:Nat)(v:D)(h:0<size):gZ lo ⟨k,size,ag,z⟩ bx (.loc t e i j) v=if lo<=t then(if v.cells.length=size then(if v.cells.all D.one then Ai bx t (bx t) e i j v.cells else none)else none)else none:=by grind [gZ]
def F4(bx:ab)(t e sz ty i:Nat)(es:List D)(x:Option D):Option ab:=x.map fun d'=>ah bx t ⟨e,1,sz,ty,es.set i d'⟩
@[go_sem] def ahU(t e sz ty i j:Nat)(es cs:List D):Ai bx t ⟨e,1,sz,ty,es⟩ e i j cs=F4 bx t e sz ty i es ((es[i]?).bind fun d0=>ed d0 j cs):=by grind [Ai,F4]
@[go_sem] def ag8(t e sz ty i:Nat)(es:List D)(d':D):F4 bx t e sz ty i es (some d')=some (ah bx t ⟨e,1,sz,ty,es.set i d'⟩):=by simp[F4]
@[go_sem] def aoT(ds cs:List D)(j:Nat):ed (.agg ds) j cs=if j+cs.length<=ds.length then some (.agg (ds.take j++cs++ds.drop (j+cs.length)))else none:=avu
@[go_sem] def aoU(k:IntKind)(n:Int)(c:D):ed (.int k n) 0 [c]=some c:=avu
@[go_sem] def al2(b:Bool)(c:D):ed (.bool b) 0 [c]=some c:=avu
@[go_sem] def aoW(s:List UInt8)(c:D):ed (.str s) 0 [c]=some c:=avu
@[go_sem] def aoV(x:Value)(c:D):ed (.raw x) 0 [c]=some c:=avu
@[go_sem] def ai9(c:D):ed .ak 0 [c]=some c:=avu
@[go_sem] def an6(cs:List D):EB true cs= .agg cs:=by simp[EB]
@[go_sem] def alB(c:D)(cs:List D):EB false (c::cs)=c:=by simp[EB]
@[go_sem] def aph(ti:TI)(x:D):pI .len [ti] [x]=(AG ti.k x).map fun n:Nat=>D.int .i64 (n:Int):=ax
@[go_sem] def anQ(s:List UInt8):AG .str (.str s)=some s.length:=ax
@[go_sem] def apG(e z b:Nat)(ag:Bool)(sz:Nat)(es:List D):AG (.slice e z b ag) (.sl sz es)=some es.length:=ax
@[go_sem] def anO(e z b:Nat)(ag:Bool):AG (.slice e z b ag) .ak=some 0:=ax
@[go_sem] def anP(e z b:Nat)(ag:Bool)(t e' sz o n:Nat):AG (.slice e z b ag) (.ba t e' sz o n)=some n:=ax
@[go_sem] def an1(k:IntKind)(a b:Int):minD [.int k a,.int k b]=some (.int k (min a b)):=by
 simp[minD,abo]
 exact awN
@[go_sem] def aj8(T:TypeId->TI)(k k':IntKind)(s s':Nat)(g g':Bool)(z z':List D)(k0:IntKind)(n:Int):As T ⟨.int k0,s,g,z⟩ ⟨.int k,s',g',z'⟩ (.int k' n)=some (.int k (k.wrap n)):=ax
@[go_sem] def al4(e esz b size:Nat)(ag jV:Bool)(z:List D)(es:List D)(lo hi:Option Int)(hz:0<esz):kK ⟨.slice e esz b ag,size,jV,z⟩ (.sl esz es) lo hi=(fy es.length lo hi).map fun p=> .sl esz ((es.drop p.1).take (p.2 - p.1)):=by simp[kK,hz]
@[go_sem] def aje(e esz b size:Nat)(ag jV:Bool)(z:List D)(t e' o n:Nat)(lo hi:Option Int)(hz:0<esz):kK ⟨.slice e esz b ag,size,jV,z⟩ (.ba t e' esz o n) lo hi=(fy n lo hi).map fun p=> .ba t e' esz (o+p.1) (p.2 - p.1):=by simp[kK,hz]
@[go_sem] def aiA(len esz size:Nat)(ag jV:Bool)(z ds:List D)(n:Int)(h0:0<=n)(h1:n<(len:Int))(hz:0<esz):uZ ⟨.arr len esz ag,size,jV,z⟩ (.agg ds) n=j7 (.agg ds) (n.toNat * esz) ag esz:=by simp_all[uZ]
@[go_sem] def ajd(m size:Nat)(ag jV:Bool)(z:List D)(t e i j:Nat)(lo hi:Option Int)(h:m<=65536):kK ⟨.arr m 1 ag,size,jV,z⟩ (.loc t e i j) lo hi=(fy m lo hi).map fun p=> .ic t e i (j+p.1) (p.2 - p.1):=by simp[kK,h]
@[go_sem] def aou(t e i j n:Nat):aU bx (.ic t e i j n)=I1 (bx t) e i j n:=by simp[aU,I1]
@[go_sem] def ajf(size:Nat)(ag:Bool)(z:List D)(s:List UInt8)(lo hi:Option Int):kK ⟨.str,size,ag,z⟩ (.str s) lo hi=(fy s.length lo hi).map fun p=> .str ((s.drop p.1).take (p.2 - p.1)):=by simp[kK]
@[go_sem] def apt(len:Nat)(h:Int)(h0:0<=h)(h1:h<=len):fy len none (some h)=some (0,h.toNat):=by simp[fy,h0,h1]
@[go_sem] def apu(len:Nat)(l:Int)(h0:0<=l)(h1:l<=len):fy len (some l) none=some (l.toNat,len):=by simp[fy,h0,h1]
@[go_sem] def aj9(len:Nat)(l h:Int)(h0:0<=l)(h1:l<=h)(h2:h<=len):fy len (some l) (some h)=some (l.toNat,h.toNat):=by simp[fy,h0,h1,h2]
def Iu(b:Bx):Bx:={b with k:=if b.k=1 then 2 else b.k}
@[go_sem] def amX(e sz ty:Nat)(es:List D):Iu ⟨e,1,sz,ty,es⟩=⟨e,2,sz,ty,es⟩:=by simp[Iu]
@[go_sem] def am1:aS bx []=bx:=by simp[aS]
@[go_sem] def aki(d:D)(ds:List D):aS bx (d::ds)=aS (cK bx d) ds:=by simp[aS]
@[go_sem] def amZ(t e sz o n:Nat):cK bx (.ba t e sz o n)=ah bx t (Iu (bx t)):=by simp[cK,Iu]
@[go_sem] def amY(t e i j:Nat):cK bx (.loc t e i j)=ah bx t (Iu (bx t)):=by simp[cK,Iu]
@[go_sem] def am0(x:List UInt8):cK bx (.str x)=bx:=by simp[cK]
@[go_sem] def akd(esz:Nat)(es:List D):mz bx esz (.sl esz es)=some es:=by simp[mz]
@[go_sem] def ajU(fs:List (Nat×Nat×Bool))(eq:List Nat)(size:Nat)(ag:Bool)(z:List D)(ps:List (Nat×D))(h:0<size):nt ⟨.struct fs eq,size,ag,z⟩ ps=if z.length=size then(if fs.all (fun f=>decide (0<f.2.1))=true then(jW fs z ps).map .agg else none)else none:=by simp_all[nt,tR]
@[go_sem] def ahS(n esz:Nat)(eag:Bool)(size:Nat)(ag:Bool)(z:List D)(ps:List (Nat×D))(h:0<size)(h2:0<esz):nt ⟨.arr n esz eag,size,ag,z⟩ ps=if z.length=size then(jW ((List.range n).map fun i=>(i * esz,esz,eag)) z ps).map .agg else none:=by simp_all[nt]
def Yc(fs:List (Nat×Nat×Bool))(cs:List D)(d:D)(ps:List (Nat×D)):Option (Nat×Nat×Bool)->Option (List D)
 |some (off,sz,_)=>if d.cells.length=sz then(if off+sz<=cs.length then(if d.cells.all D.one then jW fs (cs.take off++d.cells++cs.drop (off+sz)) ps else none)else none)else none
 |none=>none
@[go_sem] def ahT(fs:List (Nat×Nat×Bool))(cs:List D):jW fs cs []=some cs:=ax
@[go_sem] def ag7(fs:List (Nat×Nat×Bool))(cs:List D)(i:Nat)(d:D)(ps:List (Nat×D)):jW fs cs ((i,d)::ps)=Yc fs cs d ps fs[i]?:=by grind [jW,Yc]
@[go_sem] def ajS(fs:List (Nat×Nat×Bool))(cs:List D)(d:D)(ps:List (Nat×D))(off sz:Nat)(g:Bool):Yc fs cs d ps (some (off,sz,g))=if d.cells.length=sz then(if off+sz<=cs.length then(if d.cells.all D.one then jW fs (cs.take off++d.cells++cs.drop (off+sz)) ps else none)else none)else none:=ax
@[go_sem] def abF(T:TypeId->TI)(e esz b size:Nat)(ag jV:Bool)(z:List D)(len:Nat)(ps:List (Nat×D))(h3:0<esz)(h4:len * esz<=65536):nK T ⟨.slice e esz b ag,size,jV,z⟩ len ps=if ps.map (·.1)=List.range len then(if ps.all (fun p=>p.2.cells.length==esz&&p.2.cells.all D.one&&p.2.pure)=true then(if(T e).zero.length=esz then some (.sl esz (ps.map (·.2)))else none)else none)else none:=by simp_all[nK,tR]
@[go_sem] def anW(T:TypeId->TI)(e esz b size:Nat)(ag jV:Bool)(z:List D)(len:Nat)(ps:List (Nat×D))(h3:0<esz)(h4:len * esz<=65536):x6 T ⟨.slice e esz b ag,size,jV,z⟩ len ps=if ps.map (·.1)=List.range len then(if ps.all (fun p=>p.2.cells.length==esz&&p.2.cells.all D.one)=true then(if(T e).zero.length=esz then some (esz,e,ps.map (·.2))else none)else none)else none:=by simp_all[x6,tR]
@[go_sem] def apX:List.range 0=[]:=ax
attribute [go_sem] beq_self_eq_true
def aP(bx:ab)(ts:List Nat)(el esz:Nat)(x:D)(xs:List D):Prop:=
 (x= .ak/\xs=[])\/∃t e,t∈ts/\x= .ba t e esz 0 xs.length/\bx t=⟨e,1,esz,el,xs⟩
theorem aP.nil(bx:ab)(ts:List Nat)(el esz:Nat):aP bx ts el esz .ak []:=.inl ⟨rfl,rfl⟩
theorem aP.mk{bx:ab}{ts:List Nat}{el esz t e:Nat}{xs:List D}(ht:t∈ts)(h:bx t=⟨e,1,esz,el,xs⟩):aP bx ts el esz (.ba t e esz 0 xs.length) xs:=.inr ⟨t,e,ht,rfl,h⟩
theorem aP.of{bx bx':ab}{ts:List Nat}{el esz:Nat}{x:D}{xs:List D}(h:aP bx ts el esz x xs)(hb:∀t,t∈ts->bx' t=bx t):aP bx' ts el esz x xs:=by
 rcases h with h|⟨t,e,ht,hx,h⟩
 ·exact .inl h
 ·exact .inr ⟨t,e,ht,hx,awN⟩
theorem aP.len{bx:ab}{ts:List Nat}{el esz:Nat}{x:D}{xs:List D}(h:aP bx ts el esz x xs)(e b:Nat)(ag:Bool):AG (.slice e esz b ag) x=some xs.length:=by rcases h with⟨rfl,rfl⟩|⟨t,e',_,rfl,_⟩<;>rfl
theorem il{lo:Nat}{T:TypeId->TI}{e esz b size d:Nat}{ag jV:Bool}{z:List D}{x:D}{xs ys:List D}{ts:List Nat}{K2:D×ab->Prop}(hx:aP bx ts e esz x xs)(bh:ys≠[])(hz:(T e).zero.length=esz)
 (h1:(xs.length+ys.length) * b<=140737488355328) (h2:0<esz) (h3:0<b) (bC:∀t,t∈ts->lo<=t)
 (hk:∀(e':Nat) (bx':ab),bx' d=⟨e',1,esz,e,xs++ys⟩->(∀s,s≠d->s∉ts->bx' s=bx s)->K2 (.ba d e' esz 0 (xs++ys).length,bx')):
 aJ (jC lo T ⟨.slice e esz b ag,size,jV,z⟩ (some d) bx x ys) K2:=by
 rcases hx with⟨rfl,rfl⟩|⟨t,e',ht,rfl,hb⟩
 ·simp_all[jC,Ac,Ah,ah]
 ·simp only[jC,bh,aa_,hz,abo,Ac,Md,hb];rw[aaO ⟨bC t ht,trivial,trivial,trivial,trivial,trivial,trivial,aaN _,h1,h2,h3⟩,Ah];have:=hk ((bx d).ep+1) (ah (ah bx t ⟨e',0,esz,e,xs⟩) d ⟨(bx d).ep+1,1,esz,e,xs++ys⟩) awx (fun s hs bI=>by
   have:s≠t:=awN
   simp[ah,hs,this])
  exact awN
theorem nJ{lo:Nat}{T:TypeId->TI}{e esz b size d:Nat}{ag jV:Bool}{z:List D}{x:D}{xs:List D}{ts:List Nat}{K2:D×ab->Prop}(hx:aP bx ts e esz x xs)(hk:K2 (x,bx)):
 aJ (jC lo T ⟨.slice e esz b ag,size,jV,z⟩ (some d) bx x []) K2:=by
 rcases hx with⟨rfl,rfl⟩|⟨t,e',ht,rfl,hb⟩<;>simpa[jC,slO,Ah]using hk
end Go.V
namespace Go.V
open Go.RowKit
structure Place where
 b:Nat
 cap:Nat
 sz:Nat
 ty:TypeId
structure bX where
 at_:Nat->Nat->Option Place
 hold:Nat->Option Obj
instance:CoeFun bX (fun _=>Nat->Nat->Option Place):=⟨bX.at_⟩
def Obj.oQ:Obj->Bool
 | .cells ..=>true
 |_=>false
def oa(w w':World)(b:Nat):Prop:=∀o,w.heap[b]? =some o->Obj.oQ o=true->w'.heap[b]? =some o
theorem oa.of_eq{w w':World}{b:Nat}(h:w'.heap[b]? =w.heap[b]?):oa w w' b:=fun _ ho _=>h.trans ho
theorem oa.cell{w w':World}{b o:Nat}{v:Value}(h:oa w w' b)(hc:w.cell? ⟨b,o,none⟩=some v):w'.cell? ⟨b,o,none⟩=some v:=by
 unfold World.cell? at hc⊢;split at hc
 ·rename_i hb;have:=h _ hb rfl
  exact awN
 ·cases hc
inductive bc(w:World)(S:Nat->Prop):D->Value->Prop where
 |undef (v:Value):bc w S .undef v
 |any (ds:List D) (v:Value):bc w S (.any ds) v
 |fN (v:Value) (h:∀b d,E5 b=some d->bc w S (.bR d 0) (.pointer (some ⟨b,0,none⟩))) (hc:∀b cs,SH b=some cs->S b/\∃ty sp,w.heap[b]? =some (.cells cs ty sp)):bc w S .fN v
 |int (k:IntKind) (n:Int):bc w S (.int k n) (.int k n)
 |bool (b:Bool):bc w S (.bool b) (.bool b)
 |str (l:List UInt8):bc w S (.str l) (.string ⟨l.toArray⟩)
 |raw (x:Value):bc w S (.raw x) x
 |ak:bc w S .ak (.slice none 0 0)
 |agg {ds:List D} {vs:Array Value} (hl:vs.size=ds.length) (h:∀(i:Nat) d v,ds[i]? =some d->vs[i]? =some v->bc w S d v):bc w S (.agg ds) (.agg vs)
 |aL {ds:List D} {vs:Array Value} (hl:vs.size=ds.length) (h:∀(i:Nat) d v,ds[i]? =some d->vs[i]? =some v->bc w S d v):bc w S (.aL ds) (.tuple vs)
 |sl {sz:Nat} {es:List D} {A:Option Addr} {n cap b off:Nat} {us:Nat->Nat->Value} (hn:n=es.length) (cU:n<=cap) (gQ:cap<=maxLen) (hA:es≠[]->A=some ⟨b,off,none⟩/\S b)
  (bz:∀(i:Nat) d,es[i]? =some d->d.cells.length=sz)
  (hc:∀(i:Nat) d (j:Nat) c,es[i]? =some d->d.cells[j]? =some c->w.cell? ⟨b,off+i * sz+j,none⟩=some (us i j))
  (h1:∀(i:Nat) d (j:Nat) c,es[i]? =some d->d.cells[j]? =some c->(us i j).oneCell'=true)
  (hr:∀(i:Nat) d (j:Nat) c,es[i]? =some d->d.cells[j]? =some c->bc w S c (us i j)):bc w S (.sl sz es) (.slice A n cap)
 |nu {sz:Nat} {es:List D} {A:Option Addr} {n:Nat} (h:bc w S (.sl sz es) (.slice A n n)):bc w S (.nu sz es) (.slice A n n)
 |bR {d:D} {j b off p:Nat} {us:Nat->Value} (hS:S b) (hp:p=off+j)
  (hc:∀(m:Nat) c,d.cells[m]? =some c->w.cell? ⟨b,off+m,none⟩=some (us m))
  (h1:∀(m:Nat) c,d.cells[m]? =some c->(us m).oneCell'=true)
  (hr:∀(m:Nat) c,d.cells[m]? =some c->bc w S c (us m)):bc w S (.bR d j) (.pointer (some ⟨b,p,none⟩))
 |fn {f:Fn} {caps:List D} {vs:Array Value} (hl:vs.size=caps.length) (h:∀(i:Nat) d v,caps[i]? =some d->vs[i]? =some v->bc w S d v):bc w S (.fn f caps) (.func f #[] vs)
 |fW {f:FuncId} {caps:List D} {vs:Array Value} (hl:vs.size=caps.length) (h:∀(i:Nat) d v,caps[i]? =some d->vs[i]? =some v->bc w S d v):bc w S (.fW f caps) (.func (.func f) vs #[])
 |bK {t:TypeId} {d:D} {v:Value} (h:bc w S d v):bc w S (.bK t d) (.iface t v)
 |jd (b:Bool):bc w S .jd (.bool b)
theorem bc.fh{w w':World}{S S':Nat->Prop}{d:D}{v:Value}(h:bc w S d v)(hw:∀b,S b->oa w w' b)(hS:∀b,S b->S' b):bc w' S' d v:=by
 induction h with
 |undef v=>exact .undef v
 |any ds v=>exact .any ds v
 |fN v _ hc ih=>exact .fN v ih fun b cs h=>let ⟨h1,ty,sp,h2⟩:=hc b cs h;⟨hS b h1,ty,sp,hw b h1 _ h2 rfl⟩
 |int k n=>exact .int k n
 |bool b=>exact .bool b
 |jd b=>exact .jd b
 |str l=>exact .str l
 |raw x=>exact .raw x
 |ak=>exact .ak
 |agg hl _ ih=>exact .agg hl ih
 |aL hl _ ih=>exact .aL hl ih
 |@sl sz es A n cap b off us hn cU gQ hA bz hc h1 _ ih=>
  refine .sl hn cU gQ (fun bh=>⟨(hA bh).1,hS _ (hA bh).2⟩) bz (fun i d j c hi hj=>?_) h1 ih;have bh:es≠[]:=awN
  exact(hw b (hA bh).2).cell (hc i d j c hi hj)
 |nu _ ih=>exact .nu ih
 |@bR d j b off p us hb hp hc h1 _ ih=>
  refine .bR (hS _ hb) hp (fun m c hm=>?_) h1 ih;exact(hw b hb).cell (hc m c hm)
 |fn hl _ ih=>exact .fn hl ih
 |fW hl _ ih=>exact .fW hl ih
 |bK _ ih=>exact .bK ih
theorem bc.u_{w:World}{S:Nat->Prop}{sz:Nat}{es:List D}{v:Value}(h:bc w S (.nu sz es) v):bc w S (.sl sz es) v:=by cases h;assumption
theorem bc.yZ{w:World}{S:Nat->Prop}{sz:Nat}{es:List D}{v:Value}(h:bc w S (.nu sz es) v):∃A,v= .slice A es.length es.length:=by
 cases h with
 |nu h=>cases h<;>simp_all
theorem bc.mono{w w':World}{S S':Nat->Prop}{d:D}{v:Value}(h:bc w S d v)(hw:∀b,S b->w'.heap[b]? =w.heap[b]?)(hS:∀b,S b->S' b):bc w' S' d v:=
 h.fh (fun b hb=> .of_eq (hw b hb)) hS
inductive aG(w:World)(S:Nat->Prop)(ρ:bX):D->Value->Prop where
 |pure {d:D} {v:Value} (h:bc w S d v):aG w S ρ d v
 |loc {t e i j q:Nat} {p:Place} (hp:ρ t e=some p) (hq:q=i * p.sz+j):aG w S ρ (.loc t e i j) (.pointer (some ⟨p.b,q,none⟩))
 |ba {t e sz o n off cap:Nat} {p:Place} (hp:ρ t e=some p) (bz:p.sz=sz) (h0:o=0->off=0/\cap=p.cap) (ek:0<cap->off=o * sz) (hn:n<=cap) (cU:o+cap<=p.cap/\p.cap<=maxLen):
  aG w S ρ (.ba t e sz o n) (.slice (some ⟨p.b,off,none⟩) n cap)
 |ic {t e i j n off cap:Nat} {p:Place} (hp:ρ t e=some p) (ek:0<cap->off=i * p.sz+j) (hn:n<=cap) (cU:cap<=65536):aG w S ρ (.ic t e i j n) (.slice (some ⟨p.b,off,none⟩) n cap)
 |omap {t e:Nat} {p:Place} (hp:ρ t e=some p):aG w S ρ (.omap t e) (.map (some p.b))
 |agg {ds:List D} {vs:Array Value} (hl:vs.size=ds.length) (h:∀(i:Nat) d v,ds[i]? =some d->vs[i]? =some v->aG w S ρ d v):aG w S ρ (.agg ds) (.agg vs)
 |aL {ds:List D} {vs:Array Value} (hl:vs.size=ds.length) (h:∀(i:Nat) d v,ds[i]? =some d->vs[i]? =some v->aG w S ρ d v):aG w S ρ (.aL ds) (.tuple vs)
 |fn {f:Fn} {caps:List D} {vs:Array Value} (hl:vs.size=caps.length) (h:∀(i:Nat) d v,caps[i]? =some d->vs[i]? =some v->aG w S ρ d v):aG w S ρ (.fn f caps) (.func f #[] vs)
 |fW {f:FuncId} {caps:List D} {vs:Array Value} (hl:vs.size=caps.length) (h:∀(i:Nat) d v,caps[i]? =some d->vs[i]? =some v->aG w S ρ d v):aG w S ρ (.fW f caps) (.func (.func f) vs #[])
 |bK {t:TypeId} {d:D} {v:Value} (h:aG w S ρ d v):aG w S ρ (.bK t d) (.iface t v)
theorem aG.fh{w w':World}{S S':Nat->Prop}{ρ ρ':bX}{d:D}{v:Value}(h:aG w S ρ d v)(hw:∀b,S b->oa w w' b)(hS:∀b,S b->S' b)(hρ:∀t e p,ρ t e=some p->ρ' t e=some p):aG w' S' ρ' d v:=by
 induction h with
 |pure h=>exact .pure (h.fh hw hS)
 |loc hp hq=>exact .loc (hρ _ _ _ hp) hq
 |ba hp bz h0 ek hn cU=>exact .ba (hρ _ _ _ hp) bz h0 ek hn cU
 |ic hp ek hn cU=>exact .ic (hρ _ _ _ hp) ek hn cU
 |omap hp=>exact .omap (hρ _ _ _ hp)
 |agg hl _ ih=>exact .agg hl ih
 |aL hl _ ih=>exact .aL hl ih
 |fn hl _ ih=>exact .fn hl ih
 |fW hl _ ih=>exact .fW hl ih
 |bK _ ih=>exact .bK ih
theorem aG.mono{w w':World}{S S':Nat->Prop}{ρ ρ':bX}{d:D}{v:Value}(h:aG w S ρ d v)(hw:∀b,S b->w'.heap[b]? =w.heap[b]?)(hS:∀b,S b->S' b)(hρ:∀t e p,ρ t e=some p->ρ' t e=some p):aG w' S' ρ' d v:=
 h.fh (fun b hb=> .of_eq (hw b hb)) hS hρ
section
variable {w:World} {S:Nat->Prop} {ρ:bX} {d:D} {v:Value}
theorem aG.one(h:aG w S ρ d v)(ho:d.one=true):v.oneCell'=true:=by
 cases h with
 |pure h=>cases h<;>first|rfl|(simp[D.one]at ho;done)|exact ho
 |agg=>simp[D.one]at ho
 |aL=>simp[D.one]at ho
 |_=>rfl
def UB{v:Value}(h:v.oneCell'=true):v.cells= #[v]:=by cases v<;>first|rfl|grind [Value.oneCell']
theorem fD{d:D}(h:d.one=true):d.cells=[d]:=by cases d<;>first|rfl|(simp[D.one]at h)
theorem aG.cells(h:aG w S ρ d v)(ho:d.cells.all D.one=true):v.cells.size=d.cells.length/\∀(j:Nat) c,d.cells[j]? =some c->∃u,v.cells[j]? =some u/\aG w S ρ c u/\u.oneCell'=true:=by
 have agg:∀(ds:List D) (vs:Array _),vs.size=ds.length->(∀(i:Nat) d v,ds[i]? =some d->vs[i]? =some v->aG w S ρ d v)->ds.all D.one=true->
  (Value.agg vs).cells.size=(D.agg ds).cells.length/\∀(j:Nat) c,(D.agg ds).cells[j]? =some c->∃u,(Value.agg vs).cells[j]? =some u/\aG w S ρ c u/\u.oneCell'=true:=by
  intro ds vs hl h ho;refine⟨hl,fun j c hj=>?_⟩;have vP:j<ds.length:=(aaL.1 hj).1;have hv:vs[j]? =some vs[j]:=abd _;have hr:=h j c _ hj hv;exact⟨_,hv,hr,hr.one (aaI.1 ho _ (aat hj))⟩
 have single:d.one=true->d.cells=[d]->v.cells.size=d.cells.length/\∀(j:Nat) c,d.cells[j]? =some c->∃u,v.cells[j]? =some u/\aG w S ρ c u/\u.oneCell'=true:=by
  intro h1 hd;have hv:=UB (h.one h1);rw[hd,hv];refine⟨rfl,fun j c hj=>?_⟩;cases j with
  |zero=>simp at hj;subst hj;exact⟨v,rfl,h,h.one h1⟩
  |succ j=>simp at hj
 cases d with
 |agg ds=>
  cases h with
  |pure h=>cases h with|agg hl h=>exact agg ds _ hl (fun i d v hd hv=> .pure (h i d v hd hv)) ho
  |agg hl h=>exact agg ds _ hl h ho
 |_=>exact single (by simpa[D.cells]using ho) rfl
theorem aG.fw(h:aG w S ρ d v)(hp:d.pure=true):bc w S d v:=by
 have inL:∀(ds:List D),D.aH ds=true->∀(i:Nat) d,ds[i]? =some d->d.pure=true:=by
  intro ds;induction ds with
  |nil=>grind
  |cons x xs ih=>
   intro hp i d hd;simp[D.aH,aas]at hp
   exact awN
 induction h with
 |pure h=>exact h
 |loc=>simp[D.pure]at hp
 |ba=>simp[D.pure]at hp
 |ic=>simp[D.pure]at hp
 |omap=>simp[D.pure]at hp
 |agg hl _ ih=>exact .agg hl fun i d v hd hv=>ih i d v hd hv (inL _ avP i d hd)
 |aL hl _ ih=>exact .aL hl fun i d v hd hv=>ih i d v hd hv (inL _ avP i d hd)
 |fn hl _ ih=>exact .fn hl fun i d v hd hv=>ih i d v hd hv (inL _ avP i d hd)
 |fW hl _ ih=>exact .fW hl fun i d v hd hv=>ih i d v hd hv (inL _ avP i d hd)
 |bK _ ih=>exact .bK (ih avP)
theorem A5:∀(ds:List D),D.aH ds=true->∀d∈ds,d.pure=true
 :=by intro a;induction a<;>simp_all[D.aH]
def wu{d:D}(h:d.pure=true):∀c∈d.cells,c.pure=true:=by cases d<;>grind [A5,D.pure,D.cells]
theorem nO(v:Value):bc w S (ED v) v:=by
 unfold ED;split
 ·exact .int _ _
 ·exact .bool _
 ·exact .str _
 ·exact .ak
 ·exact .raw _
def I8(v:Value):bc w S (BK v) v:=by
 unfold BK;split
 ·refine .agg sI fun i d u hd hu=>?_
  grind [nO]
 ·exact nO _
theorem aG.yM{d d':D}{v:Value}(hw:bA d d'):bc w S d v->bc w S d' v:=by
 induction hw generalizing v with
 |refl=>simp
 |nil sz=>intro h;cases h;exact .sl (b:=0) (off:=0) (us:=fun _ _=>undef) rfl sI awN (fun h=>absurd rfl h) sI sI sI sI
 |aL hl _ ih=>
  intro h;cases h with
  |aL eh h=>
   refine .aL (eh.trans hl) fun i x' v hx hv=>?_
   exact awN
 |agg hl _ ih=>
  intro h;cases h with
  |agg eh h=>
   refine .agg (eh.trans hl) fun i x' v hx hv=>?_
   exact awN
 |@sl sz ds ds' hl hz _ ih=>
  intro h;cases h with
  |@sl _ _ A n cap b off us hn cU gQ hA bz hc h1 hr=>
   have at_:∀(i:Nat) d',ds'[i]? =some d'->∃d,ds[i]? =some d:=fun i d' BE=>awN
   have cell:∀(i:Nat) d d' (j:Nat) c',ds[i]? =some d->ds'[i]? =some d'->d'.cells[j]? =some c'->∃c,d.cells[j]? =some c:=fun i d d' j c' hd BE uS=>by
    have hj:=(aaL.1 uS).1;exact⟨_,aaS awN⟩
   refine .sl (A:=A) (b:=b) (off:=off) (us:=us) (hn.trans hl) cU gQ (fun bh=>hA fun e=>bh (ae4 awN)) (fun i d' BE=>?_) (fun i d' j c' BE uS=>?_) (fun i d' j c' BE uS=>?_) (fun i d' j c' BE uS=>?_)
   ·exact awN
   ·exact awN
   ·exact awN
   ·obtain⟨d,hd⟩:=at_ i d' BE;obtain⟨c,iR⟩:=cell i d d' j c' hd BE uS;exact ih i d d' j c c' hd BE iR uS (hr i d j c hd iR)
end
inductive fZ:D->Value->Prop where
 |int (k:IntKind) (n:Int):fZ (.int k n) (.int k n)
 |bool (b:Bool):fZ (.bool b) (.bool b)
 |str (l:List UInt8):fZ (.str l) (.string ⟨l.toArray⟩)
 |raw (x:Value):fZ (.raw x) x
 |ak:fZ .ak (.slice none 0 0)
 |agg {ds:List D} {vs:Array Value} (hl:vs.size=ds.length) (h:∀(i:Nat) d v,ds[i]? =some d->vs[i]? =some v->fZ d v):fZ (.agg ds) (.agg vs)
 |fn {f:Fn} {caps:List D} {vs:Array Value} (hl:vs.size=caps.length) (h:∀(i:Nat) d v,caps[i]? =some d->vs[i]? =some v->fZ d v):fZ (.fn f caps) (.func f #[] vs)
theorem fZ.rep{w:World}{S:Nat->Prop}{d:D}{v:Value}(h:fZ d v):bc w S d v:=by
 induction h with
 |int k n=>exact .int k n
 |bool b=>exact .bool b
 |str l=>exact .str l
 |raw x=>exact .raw x
 |ak=>exact .ak
 |agg hl _ ih=>exact .agg hl ih
 |fn hl _ ih=>exact .fn hl ih
theorem sZ:∀(ds:List D),D.pD ds=true->∀(i:Nat) d,ds[i]? =some d->d.simple=true
 |[],_,i,d,hd=>aws
 |x::xs,hp,i,d,hd=>by
  simp[D.pD,aas]at hp;cases i with
  |zero=>grind
  |succ i=>exact sZ xs hp.2 i d awN
theorem bc.simple{w:World}{S:Nat->Prop}{d:D}{v:Value}(h:bc w S d v)(hs:d.simple=true):fZ d v:=by
 induction h with
 |int k n=>exact .int k n
 |bool b=>exact .bool b
 |str l=>exact .str l
 |raw x=>exact .raw x
 |ak=>exact .ak
 |agg hl _ ih=>exact .agg hl fun i d v hd hv=>ih i d v hd hv (sZ _ avy i d hd)
 |fn hl _ ih=>exact .fn hl fun i d v hd hv=>ih i d v hd hv (sZ _ avy i d hd)
 |_=>simp[D.simple]at hs
theorem aG.simple{w:World}{S:Nat->Prop}{ρ:bX}{d:D}{v:Value}(h:aG w S ρ d v)(hs:d.simple=true):fZ d v:=by
 induction h with
 |pure h=>exact h.simple hs
 |agg hl _ ih=>exact .agg hl fun i d v hd hv=>ih i d v hd hv (sZ _ avy i d hd)
 |fn hl _ ih=>exact .fn hl fun i d v hd hv=>ih i d v hd hv (sZ _ avy i d hd)
 |_=>simp[D.simple]at hs
inductive gy:List D->List MapEntry->Prop where
 |nil:gy [] []
 |cons {k v:D} {e:MapEntry} {ds:List D} {es:List MapEntry} (hk:fZ k e.key) (hv:fZ v e.val) (t:gy ds es):gy (.aL [k,v,.int .i64 (e.born:Int)]::ds) (e::es)
inductive pW(ρ:bX):Obj->List D->Prop where
 |map {dw:Array MapEntry} {clock:Nat} {es:List D} (h:gy es dw.toList):pW ρ (.map dw clock) (.int .i64 (clock:Int)::es)
 |iter {m k:Nat} {p:Place} {since last:Nat} {seen:Array Nat} (hp:ρ m k=some p):pW ρ (.mapIter (some p.b) since seen last) (.omap m k:: .int .i64 (since:Int):: .int .i64 (last:Int)::seen.toList.map fun n:Nat=> .int .i64 (n:Int))
theorem pW.mono{ρ ρ':bX}{o:Obj}{es:List D}(h:pW ρ o es)(hρ:∀t e p,ρ t e=some p->ρ' t e=some p):pW ρ' o es:=by
 cases h with
 |map h=>exact .map h
 |iter hp=>exact .iter (hρ _ _ _ hp)
def Obj.Q5:Obj->Bool
 | .map ..| .mapIter ..=>true
 |_=>false
theorem pW.Q5{ρ:bX}{o:Obj}{es:List D}(h:pW ρ o es):Obj.Q5 o=true:=by cases h<;>rfl
theorem pW.oQ{ρ:bX}{o:Obj}{es:List D}(h:pW ρ o es):Obj.oQ o=false/\∀x,o≠ .deferred x:=by
 cases h with
 |map h=>exact⟨rfl,fun _ e=>by cases e⟩
 |iter hp=>exact⟨rfl,fun _ e=>by cases e⟩
structure Holds(w:World)(S:Nat->Prop)(ρ:bX)(p:Place)(es:List D):Prop where
 ex:∃cur,w.heap[p.b]? =some (.cells cur p.ty (0,0))/\cur.size=p.cap * p.sz/\
  ∃us:Nat->Nat->Value,∀(i:Nat) d (j:Nat) c,es[i]? =some d->d.cells[j]? =some c->cur[i * p.sz+j]? =some (us i j)/\aG w S ρ c (us i j)/\(us i j).oneCell'=true
 len:es.length<=p.cap
 max:p.cap<=maxLen
 sz:∀(i:Nat) d,es[i]? =some d->d.cells.length=p.sz
theorem Holds.fh{w w':World}{S S':Nat->Prop}{ρ ρ':bX}{p:Place}{es:List D}(h:Holds w S ρ p es)(hb:oa w w' p.b)(hw:∀b,S b->oa w w' b)(hS:∀b,S b->S' b)
 (hρ:∀t e p,ρ t e=some p->ρ' t e=some p):Holds w' S' ρ' p es:=by
 obtain⟨⟨cur,hc,hs,us,hu⟩,hl,hm,hz⟩:=h;exact⟨⟨cur,hb _ hc rfl,hs,us,fun i d j c hi hj=>⟨(hu i d j c hi hj).1,(hu i d j c hi hj).2.1.fh hw hS hρ,(hu i d j c hi hj).2.2⟩⟩,hl,hm,hz⟩
theorem Holds.mono{w w':World}{S S':Nat->Prop}{ρ ρ':bX}{p:Place}{es:List D}(h:Holds w S ρ p es)(hb:w'.heap[p.b]? =w.heap[p.b]?)(hw:∀b,S b->w'.heap[b]? =w.heap[b]?)(hS:∀b,S b->S' b)
 (hρ:∀t e p,ρ t e=some p->ρ' t e=some p):Holds w' S' ρ' p es:=h.fh (.of_eq hb) (fun b hb=> .of_eq (hw b hb)) hS hρ
theorem Holds.cell{w:World}{S:Nat->Prop}{ρ:bX}{p:Place}{es:List D}(h:Holds w S ρ p es){i:Nat}{d:D}{j:Nat}{c:D}(hi:es[i]? =some d)(hj:d.cells[j]? =some c):
 ∃u,w.cell? ⟨p.b,i * p.sz+j,none⟩=some u/\aG w S ρ c u/\u.oneCell'=true:=by
 obtain⟨⟨cur,hc,hs,us,hu⟩,hl,hm,hz⟩:=h
 exact avc
end Go.V
namespace Go.V
open Go.RowKit
structure Fr(M:Nat->Prop)(w w':World):Prop where
 os:w'.os=w.os
 tape:w'.tape=w.tape
 output:w'.output=w.output
 size:w.heap.size<=w'.heap.size
 block:∀k,k<w.heap.size->¬M k->w'.heap[k]? =w.heap[k]?
theorem Fr.refl(M:Nat->Prop)(w:World):Fr M w w:=⟨rfl,rfl,rfl,aaN _,fun _ _ _=>rfl⟩
theorem Fr.step{M M':Nat->Prop}{a b c:World}(h:Fr M a b)(k:Fr M' b c)(hM:∀n,n<a.heap.size->M' n->M n):Fr M a c:=
 ⟨k.os.trans h.os,k.tape.trans h.tape,k.output.trans h.output,adz h.size k.size,fun i hi hm=>(k.block i (aeD hi h.size) (fun Cx=>hm (hM i hi Cx))).trans (h.block i hi hm)⟩
theorem Fr.xr{M:Nat->Prop}{w w':World}(h:Below w.heap.size w w'):Fr M w w':=⟨h.os,h.tape,h.output,h.size,fun k hk _=>h.block k hk⟩
theorem Fr.alloc(M:Nat->Prop)(w:World)(o:Obj):Fr M w (w.alloc o):=.xr ((afY _ _).alloc (aaN _) o)
theorem Fr.N9{w w':World}{row:Option Nat}(h:w.grownBy w' row):Fr (fun b=>some b=row) w w':=⟨h.os,h.tape,h.output,h.size,fun k hk hm=>h.block k hk hm⟩
structure Ctx where
 w0:World
 S0:Nat->Prop
 n0:Nat
 M:Nat->Prop
 E:Nat->Prop
 N:Nat
 r0:bX
 ml:Nat
 lo:Nat
 Y:ab->(Nat->Option Obj)->Prop
 md:Nat
theorem j5{n:Nat}{bx bx':ab}(h:∀s,s<n->bx' s=bx s):bg n bx'=bg n bx:=by grind [bg]
def kF(r:Nat):Deferred:={target:=.collected r,args:= #[]}
def ay(X:Ctx)(ρ:bX)(bx:ab)(w:World)(b:Nat):Prop:=
 b<w.heap.size/\(X.S0 b\/X.n0<=b)/\∀t,(bx t).k=1->∀p,ρ t (bx t).ep=some p->p.b≠b
def q_:D->List D
 | .any l=>l
 |_=>[]
inductive Defs(w:World)(S:Nat->Prop)(ρ:bX)(m:Nat):List D->List Deferred->Prop where
 |nil:Defs w S ρ m [] []
 |mark {l:List D} {r:Nat} {ds:List Deferred} (h:ρ.hold r=some (.deferred (some []))) (hm:m<=r) (hn:kF r∉ds) (t:Defs w S ρ m l ds):Defs w S ρ m l (kF r::ds)
 |call {f:FuncId} {caps args l:List D} {vc va:Array Value} {ds:List Deferred} (hc:vc.size=caps.length) (QM:∀(i:Nat) d v,caps[i]? =some d->vc[i]? =some v->aG w S ρ d v)
  (ha:va.size=args.length) (har:∀(i:Nat) d v,args[i]? =some d->va[i]? =some v->aG w S ρ d v) (t:Defs w S ρ m l ds):Defs w S ρ m (.aL (.fn (.func f) caps::args)::l) ({target:=.fn (.func f) vc,args:=va}::ds)
def Mk(w:World)(S:Nat->Prop)(ρ:bX)(md ml:Nat)(d:D)(ds:List Deferred):Prop:=md=1\/(Defs w S ρ ml (if md=0 then[]else q_ d) ds/\(md=3->ds=[]))
theorem Defs.fh{w w':World}{S S':Nat->Prop}{ρ ρ':bX}{m:Nat}{l:List D}{ds:List Deferred}(h:Defs w S ρ m l ds)(hw:∀b,S b->oa w w' b)(hS:∀b,S b->S' b)(hρ:∀t e p,ρ t e=some p->ρ' t e=some p)
 (hh:∀r,kF r∈ds->ρ.hold r=some (.deferred (some []))->ρ'.hold r=some (.deferred (some []))):Defs w' S' ρ' m l ds:=by
 induction h with
 |nil=>exact .nil
 |mark h hm hn _ ih=>exact .mark (hh _ (aeY ..) h) hm hn (ih fun r hr=>hh r (aa2 _ hr))
 |call hc QM ha har _ ih=>exact .call hc (fun i d v hd hv=>(QM i d v hd hv).fh hw hS hρ) ha (fun i d v hd hv=>(har i d v hd hv).fh hw hS hρ) (ih fun r hr=>hh r (aa2 _ hr))
theorem Mk.fh{w w':World}{S S':Nat->Prop}{ρ ρ':bX}{md m:Nat}{l:D}{ds:List Deferred}(h:Mk w S ρ md m l ds)(hw:∀b,S b->oa w w' b)(hS:∀b,S b->S' b)(hρ:∀t e p,ρ t e=some p->ρ' t e=some p)
 (hh:∀r,kF r∈ds->ρ.hold r=some (.deferred (some []))->ρ'.hold r=some (.deferred (some []))):Mk w' S' ρ' md m l ds:=h.imp id fun h=>⟨h.1.fh hw hS hρ hh,h.2⟩
theorem Mk.mono{w w':World}{S S':Nat->Prop}{ρ ρ':bX}{md m:Nat}{l:D}{ds:List Deferred}(h:Mk w S ρ md m l ds)(hw:∀b,S b->w'.heap[b]? =w.heap[b]?)(hS:∀b,S b->S' b)(hρ:∀t e p,ρ t e=some p->ρ' t e=some p)
 (hh:∀r,ρ.hold r=some (.deferred (some []))->ρ'.hold r=some (.deferred (some []))):Mk w' S' ρ' md m l ds:=h.fh (fun b hb=> .of_eq (hw b hb)) hS hρ fun r _=>hh r
theorem Mk.nil{w:World}{S:Nat->Prop}{ρ:bX}{md m:Nat}{l:D}(h:md=0\/md=1\/q_ l=[]):Mk w S ρ md m l []:=by
 rcases h with h|h|h
 ·exact .inr ⟨by rw[aaO h];exact .nil,fun _=>rfl⟩
 ·exact .inl h
 ·exact .inr ⟨by rw[h,ite_self];exact .nil,fun _=>rfl⟩
structure Maps(X:Ctx)(ρ:bX)(bx:ab):Prop where
 has:∀t,(bx t).k=3->∃p o,ρ t (bx t).ep=some p/\ρ.hold p.b=some o/\(X.E p.b\/X.w0.heap.size<=p.b)/\pW ρ o (bx t).es
 inj:∀t t' p p',(bx t).k=3->(bx t').k=3->t≠t'->ρ t (bx t).ep=some p->ρ t' (bx t').ep=some p'->p.b≠p'.b
theorem Maps.of{X X':Ctx}{ρ ρ':bX}{bx bx':ab}(h:Maps X ρ bx)(hb:∀t,(bx' t).k=3->(bx t).k=3/\(bx' t).ep=(bx t).ep/\(bx' t).es=(bx t).es)(hρ:∀t e p,ρ t e=some p->ρ' t e=some p)
 (hh:∀t p o,(bx t).k=3->ρ t (bx t).ep=some p->ρ.hold p.b=some o->ρ'.hold p.b=some o) (hX:∀b,X.E b\/X.w0.heap.size<=b->X'.E b\/X'.w0.heap.size<=b):Maps X' ρ' bx':=by
 refine⟨fun t ht=>?_,fun t t' p p' ht rC hn hp bu=>?_⟩
 ·obtain⟨h1,h2,h3⟩:=hb t ht;obtain⟨p,o,g1,g2,g3,g4⟩:=h.has t h1;exact⟨p,o,awN,hh t p o h1 g1 g2,hX _ g3,by rw[h3];exact g4.mono hρ⟩
 ·obtain⟨h1,h2,_⟩:=hb t ht;obtain⟨k1,k2,_⟩:=hb t' rC;obtain⟨q,o,g1,_⟩:=h.has t h1;obtain⟨q',o',g1',_⟩:=h.has t' k1;rw[h2,hρ _ _ _ g1]at hp;rw[k2,hρ _ _ _ g1']at bu;injection hp with hp;injection bu with bu;subst hp bu;exact h.inj t t' q q' h1 k1 hn g1 g1'
structure aw(X:Ctx)(ρ:bX)(σ:Env)(bx:ab)(a:Act)(w:World):Prop where
 fr:Fr (fun b=>X.M b\/X.E b) X.w0 w
 s0:∀b,X.S0 b->b<X.n0
 nb:X.n0<=X.w0.heap.size
 mb:∀b,X.M b->X.n0<=b
 ec:∀b,X.E b->∀o,X.w0.heap[b]? =some o->Obj.oQ o=false
 size:a.tmps.size=X.N
 marks:Mk w (ay X ρ bx w) ρ X.md X.ml (σ eI) a.defers
 qA:X.N<=eI
 sP:X.ml<=X.w0.heap.size
 tmps:∀t,aG w (ay X ρ bx w) ρ (σ t) (a.tmps.getD t undef)
 fN:aG w (ay X ρ bx w) ρ .fN undef
 box:∀t,lv (bx t).k->∃p,ρ t (bx t).ep=some p/\p.sz=(bx t).sz/\p.ty=(bx t).ty/\(X.n0<=p.b/\((bx t).k=1->X.w0.heap.size<=p.b\/X.M p.b))/\Holds w (ay X ρ bx w) ρ p (bx t).es
 inj:∀t t' p p',(bx t).k=1->lv (bx t').k->t≠t'->ρ t (bx t).ep=some p->ρ t' (bx t').ep=some p'->p.b≠p'.b
 oD:∀t e p,ρ t e=some p->e<=(bx t).ep
 r0:∀t e p,X.r0 t e=some p->ρ t e=some p
 hold:∀b o,ρ.hold b=some o->w.heap[b]? =some o/\Obj.oQ o=false
 gB:∀b o,X.r0.hold b=some o->¬X.E b->ρ.hold b=some o
 yc:∀c h h',X.Y c h->(∀b o,h b=some o->o≠ .deferred (some [])->h' b=some o)->X.Y c h'
 inv:X.Y (bg X.lo bx) ρ.hold
 y0:X.lo=0->∀c h,X.Y c h
 lU:∀b o,X.r0.hold b=some o->b<X.w0.heap.size
 maps:Maps X ρ bx
variable {X:Ctx} {ρ:bX} {σ:Env} {bx:ab} {a:Act} {w:World}
theorem Holds.oQ{S:Nat->Prop}{p:Place}{es:List D}(h:Holds w S ρ p es):∃o,w.heap[p.b]? =some o/\Obj.oQ o=true:=by
 obtain⟨⟨cur,hc,_⟩,_⟩:=h;exact⟨_,hc,rfl⟩
theorem Holds.lt{S:Nat->Prop}{p:Place}{es:List D}(h:Holds w S ρ p es):p.b<w.heap.size:=by
 obtain⟨⟨cur,hc,_⟩,_⟩:=h
 exact awN
theorem aw.ext{w':World}(h:aw X ρ σ bx a w)(hb:Below w.heap.size w w'):aw X ρ σ bx a w':=by
 have hS:∀b,ay X ρ bx w b->ay X ρ bx w' b:=fun b dQ=>⟨aeD dQ.1 hb.size,dQ.2⟩
 have hw:∀b,ay X ρ bx w b->w'.heap[b]? =w.heap[b]?:=fun b dQ=>hb.block b dQ.1;exact⟨h.fr.step (Fr.xr (M:=fun _=>False) hb) (fun _ _ h=>h.elim),h.s0,h.nb,h.mb,h.ec,h.size,h.marks.mono hw hS (fun _ _ _ h=>h) (fun _ h=>h),h.qA,h.sP,fun t=>(h.tmps t).mono hw hS (fun _ _ _ h=>h),h.fN.mono hw hS (fun _ _ _ h=>h),
  fun t ht=>let ⟨p,h1,h2,h3,h4,h5⟩:=h.box t ht;⟨p,h1,h2,h3,h4,h5.mono (hb.block _ h5.lt) hw hS (fun _ _ _ h=>h)⟩,h.inj,h.oD,h.r0,
  fun b o ho=>⟨(hb.block b (aaW.1 (h.hold b o ho).1).1).trans (h.hold b o ho).1,(h.hold b o ho).2⟩,h.gB,h.yc,h.inv,h.y0,h.lU,h.maps⟩
theorem aw.put{dst:Option Tmp}{d:D}{v:Value}(h:aw X ρ σ bx a w)(hd:∀t,dst=some t->t<X.N)(hr:aG w (ay X ρ bx w) ρ d v):aw X ρ (put σ dst d) bx (a.put dst v) w:=by
 cases dst with
 |none=>exact h
 |some t=>
  have ht:=hd t rfl;have pN:eI≠t:=by
   exact aq2
  refine⟨h.fr,h.s0,h.nb,h.mb,h.ec,by simp[Act.put,h.size],by simpa[Act.put,V.put,ah,pN]using h.marks,h.qA,h.sP,fun x=>?_,h.fN,h.box,h.inj,h.oD,h.r0,h.hold,h.gB,h.yc,h.inv,h.y0,h.lU,h.maps⟩;simp only[V.put,ah,Act.put];by_cases hx:x=t
  ·subst hx;have:(a.tmps.setIfInBounds x v).getD x undef=v:=by simp[Array.getD,h.size,ht]
   exact awN
  ·simp only[hx,aa_];have:(a.tmps.setIfInBounds t v).getD x undef=a.tmps.getD x undef:=by simp_all[Ne.symm]
   rw[this];exact h.tmps x
theorem aw.ev(h:aw X ρ σ bx a w)(x:Operand):aG w (ay X ρ bx w) ρ (ev σ x) (a.eval x):=by
 cases x with
 |tmp t=>exact h.tmps t
 |const v=>exact .pure (I8 v)
 |global g=>
  show aG w _ ρ (evG g _) _;cases hg:E5 g with
  |none=>exact .pure (.raw _)
  |some d=>
   have h:=h.fN.fw rfl;cases h with
   |fN _ h _=>exact .pure (h g d hg)
 |func f=>exact .pure (.fn rfl sI)
theorem aw.own{w':World}{t:Nat}{p:Place}{es:List D}{bx1:ab}(h:aw X ρ σ bx a w)
 (bC:X.lo<=t) (h1:∀s,bx1 s=bx s\/((bx1 s).k=0/\(bx1 s).ep=(bx s).ep/\X.lo<=s)) {Old:Nat->Prop} (hg:Fr Old w w')
 (hO:∀b,Old b->∃t0 p0,(bx t0).k=1/\ρ t0 (bx t0).ep=some p0/\p0.b=b/\(t0=t\/(bx1 t0).k=0)) (hp:w.heap.size<=p.b\/Old p.b)
 (hh:∀S' ρ',(∀b,ay X ρ bx w b->S' b)->(∀s e q,ρ s e=some q->ρ' s e=some q)->Holds w' S' ρ' p es):
 aw X ⟨fun s e=>if s=t/\e=(bx t).ep+1 then some p else ρ s e,ρ.hold⟩ σ (ah bx1 t ⟨(bx t).ep+1,1,p.sz,p.ty,es⟩) a w':=by
 have hnO:∀b,ay X ρ bx w b->¬Old b:=by
  intro b hb e;obtain⟨t0,p0,hk,hr,jH,_⟩:=hO b e;exact hb.2.2 t0 hk p0 hr jH
 have bh:∀b,ay X ρ bx w b->b≠p.b:=by
  intro b hb e;rcases hp with hp|hp
  ·have:=hb.1;exact awO
  exact awN
 have hρ:∀s e q,ρ s e=some q->(if s=t/\e=(bx t).ep+1 then some p else ρ s e)=some q:=by
  intro s e q hq;rw[aaw]
  ·exact hq
  ·rintro⟨rfl,rfl⟩;have:=h.oD _ _ _ hq;exact awO
 have hw:∀b,ay X ρ bx w b->w'.heap[b]? =w.heap[b]?:=fun b hb=>hg.block b hb.1 (hnO b hb);have live:∀s,s≠t->lv (ah bx1 t ⟨(bx t).ep+1,1,p.sz,p.ty,es⟩ s).k->ah bx1 t ⟨(bx t).ep+1,1,p.sz,p.ty,es⟩ s=bx s:=by
  intro s hs hk;simp only[ah,hs,aa_]at hk⊢;rcases h1 s with e|⟨e,_⟩
  ·exact e
  ·exact absurd e hk.1
 have hS:∀b,ay X ρ bx w b->ay X ⟨fun s e=>if s=t/\e=(bx t).ep+1 then some p else ρ s e,ρ.hold⟩ (ah bx1 t ⟨(bx t).ep+1,1,p.sz,p.ty,es⟩) w' b:=by
  intro b hb;refine⟨aeD hb.1 hg.size,hb.2.1,fun s hs q hq=>?_⟩;by_cases bI:s=t
  ·subst bI;simp only[ah,abo,ajD]at hq
   exact awN
  ·have hl:=live s bI av0;rw[hl]at hs hq;simp only[bI,aga,aa_]at hq;exact hb.2.2 s hs q hq
 have hOM:∀b,Old b->X.w0.heap.size<=b\/X.M b:=by
  intro b hb;obtain⟨t0,p0,hk,hr,jH,_⟩:=hO b hb;obtain⟨p1,Nx,_,_,hb,_⟩:=h.box t0 avV
  exact awN
 have hOC:∀b o,Old b->w.heap[b]? =some o->Obj.oQ o=true:=by
  intro b o hb ho;obtain⟨t0,p0,hk,hr,jH,_⟩:=hO b hb;obtain⟨p1,Nx,_,_,_,hh⟩:=h.box t0 avV;rw[hr]at Nx;injection Nx with Nx;subst Nx;obtain⟨o',rA,hc⟩:=hh.oQ
  exact awN
 have jH:X.w0.heap.size<=p.b\/X.M p.b:=by
  rcases hp with hp|hp
  ·exact .inl (adz h.fr.size hp)
  exact awN
 have otherO:∀s q,s≠t->lv (bx s).k->ah bx1 t ⟨(bx t).ep+1,1,p.sz,p.ty,es⟩ s=bx s->ρ s (bx s).ep=some q->¬Old q.b:=by
  intro s q bI hk hl hq e;obtain⟨t0,p0,mQ,sL,ano,h0⟩:=hO _ e;by_cases VZ:s=t0
  ·simp_all[ah]
  ·exact h.inj t0 s p0 q mQ hk (Ne.symm VZ) sL hq ano
 have other:∀s q,s≠t->lv (bx s).k->ah bx1 t ⟨(bx t).ep+1,1,p.sz,p.ty,es⟩ s=bx s->ρ s (bx s).ep=some q->q.b≠p.b:=by
  intro s q bI hk hl hq e;rcases hp with hp|hp
  ·obtain⟨q',jv,_,_,_,QP⟩:=h.box s hk;rw[hq]at jv;injection jv with jv;subst jv;have:=QP.lt;exact awO
  exact awN
 refine⟨h.fr.step hg (fun n hn hm=>?_),h.s0,h.nb,h.mb,h.ec,h.size,h.marks.mono hw hS hρ (fun _ h=>h),h.qA,h.sP,fun x=>(h.tmps x).mono hw hS hρ,h.fN.mono hw hS hρ,fun s hs=>?_,fun s s' q q' hs dq CD hq jv=>?_,fun s e q hq=>?_,fun s e q hq=>hρ s e q (h.r0 s e q hq),fun b o ho=>?_,h.gB,h.yc,?_,h.y0,h.lU,h.maps.of (fun s hs=>?_) hρ (fun _ _ _ _ _ h=>h) (fun _ h=>h)⟩
 ·exact awN
 ·by_cases bI:s=t
  ·subst bI;simp only[ah,abo];exact⟨p,awP,rfl,rfl,⟨jH.elim (fun h'=>adz h.nb h') (h.mb _),fun _=>jH⟩,hh _ _ hS hρ⟩
  ·have hl:=live s bI hs;rw[hl]at hs⊢;obtain⟨q,hq,h2,h3,h4,h5⟩:=h.box s hs;refine⟨q,awN,h2,h3,h4,h5.mono (hg.block _ h5.lt (otherO s q bI hs hl hq)) hw hS hρ⟩
 ·by_cases bI:s=t
  ·subst bI;simp only[ah,abo,ajD]at hq
   exact awN
  ·have hl:=live s bI av0;rw[hl]at hs hq;simp only[bI,aga,aa_]at hq;by_cases Y7:s'=t
   ·subst Y7;simp only[ah,abo,ajD]at jv;injection jv with jv;subst jv;exact other s q bI av0 hl hq
   ·have eh:=live s' Y7 dq;rw[eh]at dq jv;simp only[Y7,aga,aa_]at jv;exact h.inj s s' q q' hs dq CD hq jv
 ·by_cases bI:s=t
  ·subst bI;simp only[ah,abo];by_cases he:e=(bx s).ep+1
   ·exact awO
   ·simp only[he,and_false,aa_]at hq;have:=h.oD _ _ _ hq;exact awO
  ·simp only[bI,aga,aa_]at hq;have:=h.oD _ _ _ hq;simp only[ah,bI,aa_]
   exact awN
 ·obtain⟨g1,g2⟩:=h.hold b o ho;refine⟨(hg.block b (aaW.1 g1).1 (fun hb=>?_)).trans g1,g2⟩
  exact awN
 ·rw[j5 (bx:=bx) (fun s hs=>?_)]
  ·exact h.inv
  ·have:s≠t:=oM;simp only[ah,this,aa_]
   exact awN
 ·by_cases bI:s=t
  ·exact awg
  ·simp only[ah,bI,aa_]at hs⊢
   exact awN
theorem aw.stored{w':World}{t:Nat}{p:Place}{es:List D}(h:aw X ρ σ bx a w)(bC:X.lo<=t)(hk:(bx t).k=1)(hr:ρ t (bx t).ep=some p)(hg:Fr (fun b=>b=p.b) w w')
 (hh:Holds w' (ay X ρ bx w) ρ p es):aw X ρ σ (ah bx t {bx t with es:=es}) a w':=by
 have dZ:∀s,(ah bx t {bx t with es:=es} s).k=(bx s).k:=fun s=>awg
 have Ep:∀s,(ah bx t {bx t with es:=es} s).ep=(bx s).ep:=fun s=>awg
 have bh:∀b,ay X ρ bx w b->b≠p.b:=fun b hb e=>hb.2.2 t hk p hr e.symm;have hw:=fun b hb=>hg.block b hb.1 (bh b hb);have hS:∀b,ay X ρ bx w b->ay X ρ _ w' b:=fun b hb=>⟨aeD hb.1 hg.size,hb.2.1,fun s hs q hq=>by rw[dZ]at hs;rw[Ep]at hq;exact hb.2.2 s hs q hq⟩
 obtain⟨p0,sL,CH,ht0,mD,hh0⟩:=h.box t avV;rw[hr]at sL;cases sL;refine⟨h.fr.step hg (fun n hn hm=>?_),h.s0,h.nb,h.mb,h.ec,h.size,h.marks.mono hw hS (fun _ _ _ h=>h) (fun _ h=>h),h.qA,h.sP,fun x=>(h.tmps x).mono hw hS (fun _ _ _ h=>h),h.fN.mono hw hS (fun _ _ _ h=>h),fun s hs=>?_,fun s s' q q' hs dq CD hq jv=>?_,fun s e q hq=>by rw[Ep];exact h.oD s e q hq,h.r0,fun b o ho=>?_,h.gB,h.yc,?_,h.y0,h.lU,h.maps.of (fun s hs=>?_) (fun _ _ _ h=>h) (fun _ _ _ _ _ h=>h) (fun _ h=>h)⟩
 ·exact awN
 ·by_cases bI:s=t
  ·subst bI;simp[ah,abo];exact⟨p,hr,CH,ht0,⟨mD.1,mD.2⟩,hh.mono rfl (fun _ _=>rfl) hS (fun _ _ _ h=>h)⟩
  ·rw[dZ]at hs;obtain⟨q,hq,h2,h3,h4,h5⟩:=h.box s hs;simp[ah,bI,aa_];exact⟨q,hq,h2,h3,h4,h5.mono (hg.block _ h5.lt (h.inj t s p q hk hs (Ne.symm bI) hr hq).symm) hw hS (fun _ _ _ h=>h)⟩
 ·rw[dZ]at hs dq;rw[Ep]at hq jv;exact h.inj s s' q q' hs dq CD hq jv
 ·obtain⟨g1,g2⟩:=h.hold b o ho;refine⟨(hg.block b (aaW.1 g1).1 (fun hb=>?_)).trans g1,g2⟩;obtain⟨o',rA,hc⟩:=hh0.oQ
  exact awN
 ·rw[j5 _]
  ·exact h.inv
  exact awg
 ·by_cases bI:s=t<;>simp_all[ah]
theorem aw.less{bx':ab}(h:aw X ρ σ bx a w)(hl:∀s,(bx' s)=bx s\/(X.lo<=s/\(bx' s).k≠1/\(bx' s).ep=(bx s).ep/\(lv (bx' s).k->lv (bx s).k/\(bx' s).sz=(bx s).sz/\(bx' s).ty=(bx s).ty/\(bx' s).es=(bx s).es)/\((bx' s).k=3->(bx s).k=3/\(bx' s).es=(bx s).es))):aw X ρ σ bx' a w:=by
 have he:∀s,(bx' s).ep=(bx s).ep:=fun s=>awN
 have h1:∀s,(bx' s).k=1->(bx s).k=1:=fun s hs=>awN
 have h0:∀s,lv (bx' s).k->lv (bx s).k/\(bx' s).sz=(bx s).sz/\(bx' s).ty=(bx s).ty/\(bx' s).es=(bx s).es:=fun s hs=>awN
 have hS:∀b,ay X ρ bx w b->ay X ρ _ w b:=fun b hb=>⟨hb.1,hb.2.1,fun s hs q hq=>by rw[he]at hq;exact hb.2.2 s (h1 s hs) q hq⟩
 refine⟨h.fr,h.s0,h.nb,h.mb,h.ec,h.size,h.marks.mono (fun _ _=>rfl) hS (fun _ _ _ h=>h) (fun _ h=>h),h.qA,h.sP,fun x=>(h.tmps x).mono (fun _ _=>rfl) hS (fun _ _ _ h=>h),h.fN.mono (fun _ _=>rfl) hS (fun _ _ _ h=>h),fun s hs=>?_,fun s s' q q' hs dq CD hq jv=>?_,fun s e q hq=>by rw[he];exact h.oD s e q hq,h.r0,h.hold,h.gB,h.yc,?_,h.y0,h.lU,h.maps.of (fun s hs=>?_) (fun _ _ _ h=>h) (fun _ _ _ _ _ h=>h) (fun _ h=>h)⟩
 ·obtain⟨g1,g2,g3,g4⟩:=h0 s hs;obtain⟨q,hq,k2,k3,k4,k5⟩:=h.box s g1;exact⟨q,awN,awN,awN,⟨k4.1,fun hk=>k4.2 (h1 s hk)⟩,by rw[g4];exact k5.mono rfl (fun _ _=>rfl) hS (fun _ _ _ h=>h)⟩
 ·rw[he]at hq jv;exact h.inj s s' q q' (h1 s hs) (h0 s' dq).1 CD hq jv
 ·rw[j5 _]
  ·exact h.inv
  exact awN
 exact awN
def Fe(ρ:bX)(bx:ab)(b:Nat):Prop:=∃t p,(bx t).k=3/\ρ t (bx t).ep=some p/\p.b=b
def Ctx.sub(X:Ctx)(ρ:bX)(bx:ab)(w:World)(E:Nat->Prop)(N ml md:Nat):Ctx:=
 {w0:=w,S0:=X.S0,n0:=X.n0,M:=fun b=>∃t p,(bx t).k=1/\ρ t (bx t).ep=some p/\p.b=b,E:=fun b=>E b\/Fe ρ bx b,N:=N,r0:=ρ,ml:=ml,lo:=0,Y:=fun _ _=>True,md:=md}
theorem aw.Wv(h:aw X ρ σ bx a w){b:Nat}{o:Obj}(hb:ρ.hold b=some o)(hn:Obj.Q5 o=false):¬Fe ρ bx b:=by
 rintro⟨t,p,h1,h2,rfl⟩;obtain⟨q,o',g1,g2,_,g4⟩:=h.maps.has t h1;rw[h2]at g1;cases g1;rw[hb]at g2;cases g2;rw[g4.Q5]at hn;cases hn
theorem aw.sub(h:aw X ρ σ bx a w){E:Nat->Prop}{N ml md:Nat}{σ':Env}{a':Act}(hN:N<=eI)(hE:∀b,E b->∀o,w.heap[b]? =some o->Obj.oQ o=false)(hs:a'.tmps.size=N)(hm:Mk w (ay X ρ bx w) ρ md ml (σ' eI) a'.defers)(hmk:ml<=w.heap.size)
 (ht:∀t,aG w (ay X ρ bx w) ρ (σ' t) (a'.tmps.getD t undef)):aw (X.sub ρ bx w E N ml md) ρ σ' bx a' w:=by
 have Cp:∀b,E b\/Fe ρ bx b->∀o,w.heap[b]? =some o->Obj.oQ o=false:=fun b hb o ho=>by
  rcases hb with hb|⟨t,p,h1,h2,rfl⟩
  ·exact awN
  ·obtain⟨q,o',g1,g2,_,g4⟩:=h.maps.has t h1;rw[h2]at g1;cases g1;have:=(h.hold _ _ g2).1;rw[ho]at this;cases this;exact g4.oQ.1
 refine⟨.refl _ _,h.s0,adz h.nb h.fr.size,?_,Cp,hs,hm,hN,hmk,ht,h.fN,fun t hk=>?_,h.inj,h.oD,fun _ _ _ h=>h,h.hold,fun _ _ h _=>h,fun _ _ _ _ _=>trivial,trivial,fun _ _ _=>trivial,fun b o ho=>(aaW.1 (h.hold b o ho).1).1,⟨fun t ht=>let ⟨p,o,g1,g2,_,g4⟩:=h.maps.has t ht;⟨p,o,g1,g2,.inl (.inr ⟨t,p,ht,g1,rfl⟩),g4⟩,h.maps.inj⟩⟩
 ·rintro b ⟨t,p,hk,hp,rfl⟩;obtain⟨p',bu,_,_,hb,_⟩:=h.box t avV;rw[hp]at bu;cases bu;exact hb.1
 ·obtain⟨p,hp,h2,h3,hb,hh⟩:=h.box t hk;exact⟨p,hp,h2,h3,⟨hb.1,fun nx=> .inr ⟨t,p,nx,hp,rfl⟩⟩,hh⟩
theorem aw.back{X':Ctx}{ρ2:bX}{σ':Env}{aT:ab}{a':Act}{w2:World}{E:Nat->Prop}{N ml md:Nat}(h:aw X' ρ σ bx a w)(hS:X'.S0=X.S0)(hn:X'.n0=X.n0)(k:aw (X.sub ρ bx w E N ml md) ρ2 σ' aT a' w2)
 (hE:∀b,E b->X'.E b\/X'.w0.heap.size<=b) (hd:∀b,E b->ρ.hold b≠some (.deferred (some []))) (h0:∀b,E b->X'.r0.hold b=none\/X'.E b) (hY:X'.Y (bg X'.lo aT) ρ2.hold):aw X' ρ2 σ aT a w2:=by
 have bI:∀ρ' bx' w',ay X' ρ' bx' w'=ay (X.sub ρ bx w E N ml md) ρ' bx' w':=fun ρ' bx' w'=>by funext b;grind [ay,Ctx.sub]
 have Cp:∀b,E b\/Fe ρ bx b->X'.E b\/X'.w0.heap.size<=b:=fun b hb=>by
  rcases hb with hb|⟨t,p,h1,h2,rfl⟩
  ·exact awN
  ·obtain⟨q,o',g1,g2,g3,g4⟩:=h.maps.has t h1
   exact awN
 have BE:∀b,E b\/Fe ρ bx b->ρ.hold b≠some (.deferred (some [])):=fun b hb=>by
  rcases hb with hb|⟨t,p,h1,h2,rfl⟩
  ·exact awN
  ·obtain⟨q,o',g1,g2,g3,g4⟩:=h.maps.has t h1;rw[h2]at g1;injection g1 with g1;subst g1;rw[g2];intro e;injection e with e;exact g4.oQ.2 _ e
 have h0':∀b,E b\/Fe ρ bx b->X'.r0.hold b=none\/X'.E b:=fun b hb=>by
  rcases hb with hb|hb
  ·exact awN
  ·rcases Cp b (.inr hb)with g|g
   ·exact awN
   ·left;cases ho:X'.r0.hold b with
    |none=>rfl
    |some o=>have:=h.lU b o ho;exact awO
 have SR:∀b,ay X' ρ bx w b->¬(X.sub ρ bx w E N ml md).M b:=by
  exact aro
 have hw:∀b,ay X' ρ bx w b->oa w w2 b:=by
  intro b hb o ho hc;refine(k.fr.block b hb.1 (fun hm=>?_)).trans ho;rcases hm with hm|hm
  ·exact awN
  ·have:=k.ec b hm o ho
   exact awN
 have hSt:∀b,ay X' ρ bx w b->ay X' ρ2 aT w2 b:=by
  intro b hb;refine⟨aeD hb.1 k.fr.size,hb.2.1,fun t ht p hp e=>?_⟩;obtain⟨p',bu,_,_,jH,_⟩:=k.box t av1;rw[hp]at bu;injection bu with bu;subst bu;rcases jH.2 ht with h1|h1
  ·have:=hb.1;grind [Ctx.sub]
  exact awN
 refine⟨h.fr.step k.fr (fun n Cy hm=>?_),h.s0,h.nb,h.mb,h.ec,h.size,h.marks.fh hw hSt k.r0 (fun r _ hr=>k.gB r _ hr (fun he=>BE r he hr)),h.qA,h.sP,fun t=>(h.tmps t).fh hw hSt k.r0,h.fN.fh hw hSt k.r0,fun t hk=>?_,k.inj,k.oD,fun t e p hp=>k.r0 t e p (h.r0 t e p hp),k.hold,fun b o ho GN=>?_,h.yc,hY,h.y0,h.lU,⟨fun t ht=>let ⟨p,o,g1,g2,g3,g4⟩:=k.maps.has t ht;⟨p,o,g1,g2,g3.elim (fun g=>Cp _ g) (fun g=> .inr (adz h.fr.size g)),g4⟩,k.maps.inj⟩⟩
 ·rcases hm with⟨t,p,hk,hp,rfl⟩|hm
  ·obtain⟨p',bu,_,_,jH,_⟩:=h.box t avV
   exact awN
  ·rcases Cp n hm with h1|h1<;>grind
 ·obtain⟨p,hp,h2,h3,jH,hh⟩:=k.box t hk;refine⟨p,hp,h2,h3,⟨by rw[hn];exact jH.1,fun nx=>?_⟩,awN⟩;rcases jH.2 nx with h1|⟨s,q,hs,hq,e⟩
  ·exact .inl (adz h.fr.size h1)
  ·obtain⟨q',jv,_,_,hqb,_⟩:=h.box s awN
   exact awN
 ·refine k.gB b o (h.gB b o ho GN) (fun he=>?_);rcases h0' b he with h1|h1<;>grind
theorem aw.Jc{b:Nat}{o o':Obj}(h:aw X ρ σ bx a w)(hb:ρ.hold b=some o)(hE:X.E b\/X.w0.heap.size<=b)(h0:X.r0.hold b=none\/X.E b)(hd:o≠ .deferred (some []))(hn:Obj.Q5 o=false)(ho:Obj.oQ o'=false){w':World}(hw:Fr (fun k=>k=b) w w')(eL:w'.heap[b]? =some o')(hY:X.Y (bg X.lo bx) (fun k=>if k=b then some o' else ρ.hold k)):
 aw X ⟨ρ.at_,fun k=>if k=b then some o' else ρ.hold k⟩ σ bx a w':=by
 obtain⟨g1,g2⟩:=h.hold b o hb;have fS:∀k,oa w w' k:=by
  intro k o1 gW hc;refine(hw.block k (aaW.1 gW).1 (fun e=>?_)).trans gW
  exact awN
 have hS:∀k,ay X ρ bx w k->ay X ⟨ρ.at_,fun k=>if k=b then some o' else ρ.hold k⟩ bx w' k:=fun k hk=>⟨aeD hk.1 hw.size,hk.2.1,hk.2.2⟩
 refine⟨h.fr.step hw (fun n hn hm=>?_),h.s0,h.nb,h.mb,h.ec,h.size,h.marks.fh (fun k _=>fS k) hS (fun _ _ _ h=>h) (fun r _ hr=>?_),h.qA,h.sP,fun t=>(h.tmps t).fh (fun k _=>fS k) hS (fun _ _ _ h=>h),h.fN.fh (fun k _=>fS k) hS (fun _ _ _ h=>h),fun t hk=>?_,h.inj,h.oD,h.r0,fun k o1 gW=>?_,fun k o1 gW GN=>?_,h.yc,hY,h.y0,h.lU,h.maps.of (fun t ht=>⟨ht,rfl,rfl⟩) (fun _ _ _ h=>h) (fun t p o1 ht hp gW=>?_) (fun _ h=>h)⟩
 ·exact awN
 ·exact awN
 ·exact aqy
 ·by_cases e:k=b
  ·exact awN
  ·exact aqB
 ·show(if k=b then some o' else ρ.hold k)=_;by_cases e:k=b
  ·exact awN
  ·rw[aaw e];exact h.gB k o1 gW GN
 ·show(if p.b=b then some o' else ρ.hold p.b)=_;rw[aaw]
  ·exact gW
  ·intro e;obtain⟨q,o2,g1,g2,_,g4⟩:=h.maps.has t ht;rw[hp]at g1;injection g1 with g1;subst g1;rw[e,hb]at g2;injection g2 with g2;subst g2;rw[g4.Q5]at hn;cases hn
theorem aw.D0{o:Obj}(h:aw X ρ σ bx a w)(ho:Obj.oQ o=false):aw X ⟨ρ.at_,fun k=>if k=w.heap.size then some o else ρ.hold k⟩ σ bx a (w.alloc o):=by
 have hx:=h.ext ((afY _ w).alloc (aaN _) o);have au:∀k o1,ρ.hold k=some o1->k≠w.heap.size:=fun k o1 h1 e=>by
  have:=(aaW.1 (h.hold k o1 h1).1).1;exact awO
 have fS:∀k o1,ρ.hold k=some o1->(if k=w.heap.size then some o else ρ.hold k)=some o1:=fun k o1 h1=>awN
 refine⟨hx.fr,hx.s0,hx.nb,hx.mb,hx.ec,hx.size,hx.marks.mono (fun _ _=>rfl) (fun _ h=>h) (fun _ _ _ h=>h) (fun r hr=>fS r _ hr),hx.qA,hx.sP,fun t=>(hx.tmps t).mono (fun _ _=>rfl) (fun _ h=>h) (fun _ _ _ h=>h),hx.fN.mono (fun _ _=>rfl) (fun _ h=>h) (fun _ _ _ h=>h),fun t hk=>?_,hx.inj,hx.oD,hx.r0,fun k o1 gW=>?_,fun k o1 gW GN=>fS k o1 (h.gB k o1 gW GN),h.yc,h.yc _ _ _ h.inv (fun b o ho _=>fS b o ho),h.y0,h.lU,h.maps.of (fun t ht=>⟨ht,rfl,rfl⟩) (fun _ _ _ h=>h) (fun t p o1 ht hp gW=>fS _ o1 gW) (fun _ h=>h)⟩
 ·obtain⟨p,hp,h2,h3,h4,h5⟩:=hx.box t hk;exact⟨p,hp,h2,h3,h4,h5.mono rfl (fun _ _=>rfl) (fun _ h=>h) (fun _ _ _ h=>h)⟩
 ·by_cases e:k=w.heap.size
  ·grind [heap_alloc_new]
  ·simp[e,aa_]at gW;exact hx.hold k o1 gW
theorem aw.switch{σ':Env}{a':Act}(h:aw X ρ σ bx a w)(hs:a'.tmps.size=X.N)(hm:Mk w (ay X ρ bx w) ρ X.md X.ml (σ' eI) a'.defers)(ht:∀t,aG w (ay X ρ bx w) ρ (σ' t) (a'.tmps.getD t undef)):aw X ρ σ' bx a' w:=
 {h with size:=hs,marks:=hm,tmps:=ht}
theorem Defs.mem{S:Nat->Prop}{m:Nat}{l:List D}{ds:List Deferred}(h:Defs w S ρ m l ds):∀r,kF r∈ds->ρ.hold r=some (.deferred (some [])):=by induction h<;>grind [kF]
theorem aw.TR{r:Nat}{ds:List Deferred}(h:aw X ρ σ bx a w)(hd:a.defers=kF r::ds)(hmk:X.ml=X.w0.heap.size)(mR:X.md≠1){w':World}(hw:Fr (fun k=>k=r) w w')(eL:w'.heap[r]? =some (.deferred none))(bC:X.lo=0):
 ∃ρ',aw X ρ' σ bx {a with defers:=ds} w'/\(∀b o,ρ.hold b=some o->o≠ .deferred (some [])->ρ'.hold b=some o)/\∀d v,aG w (ay X ρ bx w) ρ d v->aG w' (ay X ρ' bx w') ρ' d v:=by
 obtain⟨l,hl,hm⟩:∃l,(l=if X.md=0 then[]else q_ (σ eI))/\Defs w (ay X ρ bx w) ρ X.ml l (kF r::ds):=by
  have hm:=h.marks;rw[hd]at hm;exact⟨_,rfl,(hm.resolve_left mR).1⟩
 have hm3:X.md≠3:=by
  intro h3;have:=(h.marks.resolve_left mR).2 h3
  exact awN
 have hh:=hm.mem r (aeY ..);obtain⟨VF,hn,xT⟩:X.ml<=r/\kF r∉ds/\Defs w (ay X ρ bx w) ρ X.ml l ds:=by
  generalize hx:kF r::ds=dd at hm;cases hm<;>grind [kF]
 obtain⟨g1,g2⟩:=h.hold r _ hh;have fS:∀k,oa w w' k:=by
  intro k o1 gW hc;refine(hw.block k (aaW.1 gW).1 (fun e=>?_)).trans gW
  exact awN
 have hS:∀k,ay X ρ bx w k->ay X ⟨ρ.at_,fun k=>if k=r then some (.deferred none)else ρ.hold k⟩ bx w' k:=fun k hk=>⟨aeD hk.1 hw.size,hk.2.1,hk.2.2⟩
 have hmarks:Mk w' (ay X ⟨ρ.at_,fun k=>if k=r then some (.deferred none)else ρ.hold k⟩ bx w') ⟨ρ.at_,fun k=>if k=r then some (.deferred none)else ρ.hold k⟩ X.md X.ml (σ eI) ds:=by
  refine .inr ⟨?_,fun h3=>absurd h3 hm3⟩;rw[<-hl];refine xT.fh (fun k _=>fS k) hS (fun _ _ _ h=>h) fun q hq hq0=>?_
  exact awN
 refine⟨⟨ρ.at_,fun k=>if k=r then some (.deferred none)else ρ.hold k⟩,⟨h.fr.step hw (fun n hn hm=>?_),h.s0,h.nb,h.mb,h.ec,h.size,hmarks,h.qA,h.sP,fun t=>(h.tmps t).fh (fun k _=>fS k) hS (fun _ _ _ h=>h),h.fN.fh (fun k _=>fS k) hS (fun _ _ _ h=>h),fun t hk=>?_,h.inj,h.oD,h.r0,fun k o1 gW=>?_,fun k o1 gW GN=>?_,h.yc,h.y0 bC _ _,h.y0,h.lU,h.maps.of (fun t ht=>⟨ht,rfl,rfl⟩) (fun _ _ _ h=>h) (fun t p o1 ht hp gW=>?_) (fun _ h=>h)⟩,fun b o ho cH=>?_,fun d v hr=>hr.fh (fun k _=>fS k) hS (fun _ _ _ h=>h)⟩
 ·exact awN
 ·exact aqy
 ·by_cases e:k=r
  ·subst e;simp only[abo,aaM]at gW;subst gW;exact⟨eL,rfl⟩
  ·exact aqB
 ·show(if k=r then some (.deferred none)else ρ.hold k)=_;rw[aaw]
  ·exact h.gB k o1 gW GN
  ·intro e;subst e;have:=h.lU k o1 gW;exact awO
 ·show(if p.b=r then some (.deferred none)else ρ.hold p.b)=_;rw[aaw]
  ·exact gW
  ·intro e;obtain⟨q,o2,g1,g2,_,g4⟩:=h.maps.has t ht;rw[hp]at g1;injection g1 with g1;subst g1;rw[e,hh]at g2;injection g2 with g2;subst g2;exact g4.oQ.2 _ rfl
 exact awN
theorem aw.take{r:Nat}{ds:List Deferred}(h:aw X ρ σ bx a w)(hd:a.defers=kF r::ds)(hmk:X.ml=X.w0.heap.size)(mR:X.md≠1){w':World}(hw:Fr (fun k=>k=r) w w')(eL:w'.heap[r]? =some (.deferred none))(bC:X.lo=0):
 ∃ρ',aw X ρ' σ bx {a with defers:=ds} w'/\∀b o,ρ.hold b=some o->o≠ .deferred (some [])->ρ'.hold b=some o:=
 let ⟨ρ',h1,h2,_⟩:=h.TR hd hmk mR hw eL bC
 ⟨ρ',h1,h2⟩
end Go.V
namespace Go.V
open Go.RowKit
section inv
variable {w:World} {S:Nat->Prop} {ρ:bX} {v:Value}
theorem aG.cV{k:IntKind}{n:Int}(h:aG w S ρ (.int k n) v):v= .int k n:=aur
theorem aG.kA{b:Bool}(h:aG w S ρ (.bool b) v):v= .bool b:=aur
theorem aG.fj{l:List UInt8}(h:aG w S ρ (.str l) v):v= .string ⟨l.toArray⟩:=aur
theorem aG.IJ{x:Value}(h:aG w S ρ (.raw x) v):v=x:=aur
theorem aG.gv(h:aG w S ρ .ak v):v= .slice none 0 0:=aur
theorem aG.mH{t e i j:Nat}(h:aG w S ρ (.loc t e i j) v):∃p,ρ t e=some p/\v= .pointer (some ⟨p.b,i * p.sz+j,none⟩):=by
 cases h with
 |pure h=>cases h
 |loc hp hq=>grind
theorem aG.rH{ds:List D}(h:aG w S ρ (.agg ds) v):∃vs,v= .agg vs/\vs.size=ds.length/\∀(i:Nat) d u,ds[i]? =some d->vs[i]? =some u->aG w S ρ d u:=by
 cases h with
 |pure h=>cases h with|agg hl h=>exact⟨_,rfl,hl,fun i d u hd hu=> .pure (h i d u hd hu)⟩
 |agg hl h=>grind
theorem aG.Q4{ds:List D}(h:aG w S ρ (.aL ds) v):∃vs,v= .tuple vs/\vs.size=ds.length/\∀(i:Nat) d u,ds[i]? =some d->vs[i]? =some u->aG w S ρ d u:=by
 cases h with
 |pure h=>cases h with|aL hl h=>exact⟨_,rfl,hl,fun i d u hd hu=> .pure (h i d u hd hu)⟩
 |aL hl h=>grind
theorem aG.zA{f:Fn}{ds:List D}(h:aG w S ρ (.fn f ds) v):∃vs,v= .func f #[] vs/\vs.size=ds.length/\∀(i:Nat) d u,ds[i]? =some d->vs[i]? =some u->aG w S ρ d u:=by
 cases h with
 |pure h=>cases h with|fn hl h=>exact⟨_,rfl,hl,fun i d u hd hu=> .pure (h i d u hd hu)⟩
 |fn hl h=>grind
theorem aG.Q3{f:FuncId}{ds:List D}(h:aG w S ρ (.fW f ds) v):∃vs,v= .func (.func f) vs #[]/\vs.size=ds.length/\∀(i:Nat) d u,ds[i]? =some d->vs[i]? =some u->aG w S ρ d u:=by
 cases h with
 |pure h=>cases h with|fW hl h=>exact⟨_,rfl,hl,fun i d u hd hu=> .pure (h i d u hd hu)⟩
 |fW hl h=>grind
end inv
variable {P:Program} {X:Ctx} {ρ:bX} {σ:Env} {bx:ab} {a:Act} {w:World}
theorem mJ{t:TypeId}(h:0<cA P t):∃i d,P.info? t=some i/\P.underlying t=some d/\i.size=cA P t:=by
 unfold cA at h⊢;cases hu:P.underlying t with
 |none=>grind
 |some d=>
  cases hi:P.info? t<;>grind
def adf{t:TypeId}(h:0<(aj P t).size):∃i d,P.info? t=some i/\P.underlying t=some d/\i.size=(aj P t).size/\(aj P t).size=cA P t:=by
 obtain⟨i,d,h1,h2,h3⟩:=mJ h;exact⟨i,d,h1,h2,h3,rfl⟩
def cI{t:TypeId}(h:0<cA P t)(w:World):(sizeOf t).run P w= .ok (cA P t) w:=by
 obtain⟨i,d,h1,_,h3⟩:=mJ h;simp_all[sizeOf,typeInfo]
def rb{t:TypeId}{d:TypeDesc}(h:P.underlying t=some d)(w:World):(isAgg t).run P w= .ok (p_ P t) w:=by
 simp[isAgg,aa9,aaD h,aa4,p_,h];cases d<;>simp
def cW{t e esz b:Nat}{ag:Bool}(h:(aj P t).k= .slice e esz b ag):P.underlying t=some (.slice e)/\esz=cA P e/\b=((P.info? e).map (·.bytes)).getD 0/\ag=p_ P e:=by
 simp[aj]at h
 exact awN
def rU{t:TypeId}{fs:List (Nat×Nat×Bool)}{eq:List Nat}(h:(aj P t).k= .struct fs eq):∃F:Array Field,P.underlying t=some (.struct F)/\fs=F.toList.map (fun f=>(f.offset,cA P f.type,p_ P f.type))/\
 eq=(if F.toList.all (fun f=>f.name != "_"&&qJ P f.type&&cA P f.type==1)&& !P.stoodInHeld t&& !P.eqGuardType P.depth t&&(F.toList.map (·.offset))==List.range F.size&&cA P t==F.size then F.toList.map fun f=>qN P f.type else Ga P t F):=by
 simp only[aj]at h
 exact awN
def ta{t:TypeId}(h:(aj P t).k= .str):P.underlying t=some .string:=awt
def RH{t:TypeId}(h:(aj P t).k= .bool):P.underlying t=some .bool:=awt
theorem xD{t:TypeId}{k:IntKind}(h:(aj P t).k= .int k):P.underlying t=some (.int k):=awt
def xC{t n esz:Nat}{ag:Bool}(h:(aj P t).k= .arr n esz ag):∃e,P.underlying t=some (.array n e)/\esz=cA P e/\ag=p_ P e:=by
 simp[aj]at h
 exact awN
def Xr{t:TypeId}(h:(aj P t).k= .bK):∃ms,P.underlying t=some (.interface ms):=by
 simp[aj]at h
 exact awN
def O0{t:TypeId}(h:(aj P t).k≠ .none)(h2:(aj P t).k≠ .bK):∃d,P.underlying t=some d/\∀ms,d≠ .interface ms:=by
 simp[aj]at h h2
 exact awN
def K8{t b o:Nat}{us:Nat->Value}(hz:0<(aj P t).size)(hc:∀j,j<(if(aj P t).agg then(aj P t).size else 1)->w.cell? ⟨b,o+j,none⟩=some (us j)):
 (loadVar t ⟨b,o,none⟩).run P w= .ok (if(aj P t).agg then .agg ((List.range (aj P t).size).map us).toArray else us 0) w:=by
 obtain⟨i,d,hi,hd,hs,tB⟩:=adf hz;have eW:(aj P t).agg=p_ P t:=rfl;simp[loadVar,aa9,rb hd,aa4,eW]at hc⊢;cases hA:p_ P t with
 |false=>
  exact awy
 |true=>
  simp[abo,aa9,cI hz,aa4];have:=akT (P:=P) (w:=w) ⟨b,o,none⟩ ((List.range (cA P t)).map us) (fun j v hj=>by grind [Addr.add]);simp_all
def Ol{S:Nat->Prop}{d r:D}{j k:Nat}{ag:Bool}{us:Nat->Value}(hp:j7 d j ag k=some r)(hu:∀m c,m<(if ag then k else 1)->d.cells[j+m]? =some c->aG w S ρ c (us m)):
 aG w S ρ r (if ag then .agg ((List.range k).map us).toArray else us 0):=by
 unfold j7 at hp;cases ag with
 |true=>
  simp only[abo]at hp⊢;split at hp
  ·cases hp;refine .agg awe fun i c v hc hv=>?_
   exact awN
  ·exact awA
 |false=>
  exact awN
def Rt{d r:D}{j k:Nat}{ag:Bool}(hp:j7 d j ag k=some r):∀m,m<(if ag then k else 1)->∃c,d.cells[j+m]? =some c:=by
 unfold j7 at hp
 exact awN
def Yields(P:Program)(X:Ctx)(ρ:bX)(bx:ab)(a:Act)(w:World)(o:Oper)(d:D):Prop:=
 ∃v w',(execOp a.eval o).run P w= .ok (.value v) w'/\Below w.heap.size w w'/\aG w' (ay X ρ bx w') ρ d v
def aK{o:Oper}{d:D}(v:Value)(bZ:(execOp a.eval o).run P w= .ok (.value v) w)(hr:aG w (ay X ρ bx w) ρ d v):Yields P X ρ bx a w o d:=⟨v,w,bZ,afY _ _,hr⟩
variable {dst:Option Tmp} {ty:TypeId} {pos:String} {af:Array Edge} {g:Option (Nat×Bool)}
theorem EA(h:aw X ρ σ bx a w){t:TypeId}{dx d:D}{vx:Value}(hx:aG w (ay X ρ bx w) ρ dx vx)(hv:jh (aj P t) bx dx=some d):∃ad v,vx= .pointer (some ad)/\(loadVar t ad).run P w= .ok v w/\aG w (ay X ρ bx w) ρ d v:=by
 cases dx with
 |loc s e i j=>
  simp only[jh]at hv;split at hv
  ·rename_i hc;obtain⟨he,hk,hz⟩:=hc;obtain⟨p,hp,fX⟩:=hx.mH;obtain⟨p',bu,_,_,_,hh⟩:=h.box s hk;rw[he,hp]at bu;injection bu with bu;subst bu;cases hi:(bx s).es[i]? with
   |none=>grind
   |some d0=>
    simp only[hi,akz]at hv;have au:=Rt hv;have iO:∀m,∃u,m<(if(aj P t).agg then(aj P t).size else 1)->w.cell? ⟨p.b,i * p.sz+j+m,none⟩=some u/\∀c,d0.cells[j+m]? =some c->aG w (ay X ρ bx w) ρ c u:=by
     intro m;by_cases hm:m<(if(aj P t).agg then(aj P t).size else 1)
     ·obtain⟨c,hc⟩:=au m hm;obtain⟨u,hu,hr,_⟩:=hh.cell hi hc
      exact awN
     exact awJ
    let us:Nat->Value:=fun m=>Classical.choose (iO m);have ke:∀m,m<(if(aj P t).agg then(aj P t).size else 1)->w.cell? ⟨p.b,i * p.sz+j+m,none⟩=some (us m)/\∀c,d0.cells[j+m]? =some c->aG w (ay X ρ bx w) ρ c (us m):=fun m=>Classical.choose_spec (iO m);exact⟨_,_,fX,K8 hz (fun m hm=>(ke m hm).1),Ol hv (us:=us) fun m c hm hc=>(ke m hm).2 c hc⟩
  ·cases hv
 |bR d0 j=>
  simp only[jh]at hv;split at hv
  ·rename_i hz;have eA:bc w (ay X ρ bx w) (.bR d0 j) vx:=hx.fw rfl;cases eA with
   |@bR _ _ b off p us hb hp hc h1 hr=>
    have au:=Rt hv;subst hp;exact⟨_,_,rfl,K8 (us:=fun m=>us (j+m)) hz (fun m hm=>awN),Ol hv (us:=fun m=>us (j+m)) fun m c hm tw=> .pure (hr _ _ tw)⟩
  ·cases hv
 |_=>simp[jh]at hv
def S8(h:aw X ρ σ bx a w){t:TypeId}{x:Operand}{d:D}(hv:jh (aj P t) bx (ev σ x)=some d):Yields P X ρ bx a w ⟨dst,.load t x,ty,pos,af,g⟩ d:=by
 obtain⟨ad,v,h1,h2,h3⟩:=EA h (h.ev x) hv;simp_all[aK,execOp,Instr.loadAt,Instr.sureAddr]
theorem Addr.ei(b o k:Nat):(⟨b,o,none⟩:Addr).add k=⟨b,o+k,none⟩:=by grind [Addr.add]
def Pg(h:aw X ρ σ bx a w){t:TypeId}{x:Operand}{d:D}(hv:yT (aj P t) (ev σ x)=some d):Yields P X ρ bx a w ⟨dst,.sliceToArrayPointer t x,ty,pos,af,g⟩ d:=by
 have hx:=h.ev x;generalize ev σ x=dx at hv hx;unfold yT at hv;cases hk:(aj P t).k with
 |arr len esz ag=>
  rw[hk]at hv;cases dx with
  |sl sz es=>
   simp only at hv;split at hv
   ·rename_i hc;obtain⟨h0,hl,rfl,ho⟩:=hc;injection hv with hv;subst hv;obtain⟨e,hu,_,_⟩:=xC hk;have eA:bc w (ay X ρ bx w) (.sl 1 es) (a.eval x):=hx.fw rfl;generalize ig:a.eval x=vx at eA;cases eA with
    |@sl _ _ A m cap b off us hn cU gQ hA bz hc h1 hr=>
     obtain⟨rfl,hb⟩:=hA awN;have cell:∀(m:Nat) (c:D),(D.agg (es.take len)).cells[m]? =some c->es[m]? =some c/\c.cells[0]? =some c:=fun m c hm=>by
      have hm:(es.take len)[m]? =some c:=hm
      grind [fD]
     refine aK (.pointer (some ⟨b,off,none⟩)) ?_ (.pure (.bR (off:=off) (us:=fun m=>us m 0) hb rfl (fun m c hm=>?_) (fun m c hm=>h1 _ _ _ _ (cell m c hm).1 (cell m c hm).2) (fun m c hm=>hr _ _ _ _ (cell m c hm).1 (cell m c hm).2)))
     ·simp_all[execOp,Instr.arrayAt,aaD,aaw]
     exact awN
   ·cases hv
  |_=>cases hv
 |_=>rw[hk]at hv;cases hv
def GZ(h:aw X ρ σ bx a w){t:TypeId}{x y:Operand}{d:D}(hv:qG (ev σ y) (fT (aj P t) (ev σ x))=some d):Yields P X ρ bx a w ⟨dst,.indexAddr t x y,ty,pos,af,g⟩ d:=by
 have hx:=h.ev x;have hy:=h.ev y;generalize ev σ x=dx at hv hx;generalize ev σ y=dy at hv hy;cases dy with
 |int k n=>
  have hy:=hy.cV;simp only[qG,fT]at hv;cases hk:(aj P t).k with
  |slice e esz b ag=>
   simp only[hk]at hv;obtain⟨hu,he,_,_⟩:=cW hk;have key:∀sz es,bc w (ay X ρ bx w) (.sl sz es) (a.eval x)->(if 0<=n/\sz=esz/\0<esz then(es[n.toNat]?).map fun d=>D.bR d 0 else none)=some d->Yields P X ρ bx a w ⟨dst,.indexAddr t x y,ty,pos,af,g⟩ d:=by
    intro sz es eA fX;split at fX
    ·rename_i hc;obtain⟨h0,bz,fR⟩:=hc;subst bz;cases hi:es[n.toNat]? with
     |none=>grind
     |some d0=>
      rw[hi]at fX;injection fX with fX;subst fX;generalize ig:a.eval x=vx at eA;cases eA with
      |@sl _ _ A m cap b' off us hn cU gQ hA bz hc h1 hr=>
       obtain⟨rfl,hb⟩:=hA awN;have au:n.toNat<es.length:=(aaL.1 hi).1;refine aK (.pointer (some ⟨b',off+n.toNat * sz,none⟩)) ?_ (.pure (.bR (off:=off+n.toNat * sz) (us:=us n.toNat) hb rfl (fun m c hm=>hc _ _ _ _ hi hm) (fun m c hm=>h1 _ _ _ _ hi hm) (fun m c hm=>hr _ _ _ _ hi hm)));have qt:0<=n/\n<((m:Nat):Int):=⟨h0,awO⟩
       exact aqA
    exact awN
   cases dx with
   |sl sz es=>exact key sz es (hx.fw rfl) hv
   |nu sz es=>exact key sz es (hx.fw rfl).u_ hv
   |ic s e' i j len=>
    simp only at hv;split at hv
    ·rename_i hc;obtain⟨h0,au,h1⟩:=hc;injection hv with hv;subst hv;generalize ig:a.eval x=vx at hx;cases hx with
     |pure h=>cases h
     |@ic _ _ _ _ _ off cap p hp ek hn cU=>
      have qt:0<=n/\n<((len:Nat):Int):=⟨h0,au⟩
      have ho:=ek oM;subst ho;have VB:cA P e=1:=awN
      refine aK (.pointer (some ⟨p.b,i * p.sz+j+n.toNat,none⟩)) ?_ (.loc hp oM);simp only[execOp,Instr.indexAt,hy,ig,asIntOf,aa9,adB,aa4,aaD hu,qt,ajD,abo,cI (by grind:0<cA P e),Addr.ei,VB,agU]
    ·cases hv
   |ba s e' sz o len=>
    simp only at hv;split at hv
    ·rename_i hc;obtain⟨h0,au,bz,fR⟩:=hc;subst bz;injection hv with hv;subst hv;generalize ig:a.eval x=vx at hx;cases hx with
     |pure h=>cases h
     |@ba _ _ _ _ _ off cap p hp bz h0' ek hn cU=>
      subst bz;have qt:0<=n/\n<((len:Nat):Int):=⟨h0,au⟩
      have ho:=ek oM;subst ho;refine aK (.pointer (some ⟨p.b,o * p.sz+n.toNat * p.sz,none⟩)) ?_ (.loc hp (by rw[agr,agA]));exact aqA
    ·cases hv
   |_=>simp at hv
  |arr len esz ag=>
   simp only[hk]at hv;obtain⟨e,hu,he,_⟩:=xC hk;split at hv
   ·rename_i hc;obtain⟨h0,au,h1,fR⟩:=hc;have qt:0<=n/\n<((len:Nat):Int):=⟨h0,au⟩
    cases dx with
    |loc s e' i j=>
     simp only[kJ,aaM]at hv;subst hv;obtain⟨p,hp,ig⟩:=hx.mH;refine aK (.pointer (some ⟨p.b,i * p.sz+j+n.toNat * esz,none⟩)) ?_ (.loc hp oM);exact aqt
    |bR d0 j=>
     simp only[kJ,aaM]at hv;subst hv;have eA:bc w (ay X ρ bx w) (.bR d0 j) (a.eval x):=hx.fw rfl;generalize ig:a.eval x=vx at eA;cases eA with
     |@bR _ _ b off p us hb hp hc h1 hr=>
      refine aK (.pointer (some ⟨b,p+n.toNat * esz,none⟩)) ?_ (.pure (.bR (us:=us) hb oM hc h1 hr));exact aqt
    |_=>simp[kJ]at hv
   ·cases hv
  |_=>simp[hk]at hv
 |_=>simp[qG]at hv
end Go.V
namespace Go.V
open Go.RowKit
variable {P:Program} {X:Ctx} {ρ:bX} {σ:Env} {bx:ab} {a:Act} {w:World}
variable {dst:Option Tmp} {ty:TypeId} {pos:String} {af:Array Edge} {g:Option (Nat×Bool)}
def Qk{S:Nat->Prop}{t:TypeId}{n:Nat}{x y:D}{vx vy:Value}{b:Bool}(h:xM x y=some b)(hx:aG w S ρ x vx)(hy:aG w S ρ y vy)
 (ht:(∃k m,x= .int k m/\∃k',P.underlying t=some (.int k'))\/(∃m,x= .bool m/\P.underlying t=some .bool)\/(∃m,x= .str m/\P.underlying t=some .string)):
 (Op.equalIn (n+1) t vx vy).run P w= .ok b w:=by
 rcases ht with⟨k,m,rfl,k',hu⟩|⟨m,rfl,hu⟩|⟨m,rfl,hu⟩<;>cases y<;>simp only[xM]at h<;>try (cases h;done)
 ·split at h
  ·rename_i hk;subst hk;cases h;rw[hx.cV,hy.cV,run_equalIn_int w n t _ _ _ _ hu]
  ·exact awI
 ·cases h;rw[hx.kA,hy.kA,run_equalIn_bool' w n t _ _ hu]
 ·cases h;rw[hx.fj,hy.fj,run_equalIn_string w n t _ _ hu,akJ,akJ]
def Av(P:Program)(t:TypeId)(x:D):Prop:=
 (∃k m,x= .int k m/\∃k',P.underlying t=some (.int k'))\/(∃m,x= .bool m/\P.underlying t=some .bool)\/(∃m,x= .str m/\P.underlying t=some .string)
def Mj(op:BinOp)(k k':IntKind)(x y:Int)(d:D)(h:La op k x y=some d)(t:TypeId)(S:Nat->Prop):∃v,(binOp op t (.int k x) (.int k' y)).run P w= .ok v w/\aG w S ρ d v:=by
 unfold La at h;split at h
 ·exact awI
 ·rename_i hy;cases op<;>simp at h<;>try (done)
  ·exact arc
  ·exact arc
def abD(op:BinOp)(k:IntKind)(x y:Int)(d:D)(h:oP op k x y=some d)(t:TypeId)(S:Nat->Prop):∃v,(binOp op t (.int k x) (.int k y)).run P w= .ok v w/\aG w S ρ d v:=by
 cases op<;>simp only[oP,Yf]at h<;>try simp
 case add=>injection h with h;subst h;exact⟨_,auO,.pure (.int _ _)⟩
 case sub=>injection h with h;subst h;exact⟨_,auO,.pure (.int _ _)⟩
 case mul=>injection h with h;subst h;exact⟨_,auO,.pure (.int _ _)⟩
 case quo=>
  split at h
  ·exact awI
  ·exact aqF
 case rem=>
  split at h
  ·exact awI
  ·exact aqF
 case and=>injection h with h;subst h;exact⟨_,auM,.pure (.int _ _)⟩
 case or=>injection h with h;subst h;exact⟨_,auM,.pure (.int _ _)⟩
 case xor=>injection h with h;subst h;exact⟨_,auM,.pure (.int _ _)⟩
 case andNot=>injection h with h;subst h;exact⟨_,auM,.pure (.int _ _)⟩
 case shl=>simp_all[Mj]
 case shr=>simp_all[Mj]
 case eql=>injection h with h;subst h;exact⟨_,auT,.pure (.bool _)⟩
 case neq=>injection h with h;subst h;exact⟨_,auT,.pure (.bool _)⟩
 case lss=>injection h with h;subst h;exact⟨_,auT,.pure (.bool _)⟩
 case leq=>injection h with h;subst h;exact⟨_,auT,.pure (.bool _)⟩
 case gtr=>injection h with h;subst h;exact⟨_,auT,.pure (.bool _)⟩
 case geq=>injection h with h;subst h;exact⟨_,auT,.pure (.bool _)⟩
def Mm(l m:List UInt8):((⟨l.toArray⟩:ByteArray)++⟨m.toArray⟩)=⟨(l++m).toArray⟩:=by
 apply ByteArray.ext;exact awP
def abE(op:BinOp)(x y:List UInt8)(d:D)(h:vG op x y=some d)(t:TypeId)(S:Nat->Prop):∃v,(binOp op t (.string ⟨x.toArray⟩) (.string ⟨y.toArray⟩)).run P w= .ok v w/\aG w S ρ d v:=by
 cases op<;>simp only[vG]at h<;>try (cases h;done)
 case add=>
  split at h
  ·cases h;refine⟨.string _,?_,.pure (.str _)⟩;have hle:¬(((⟨x.toArray⟩:ByteArray).size+(⟨y.toArray⟩:ByteArray).size:Nat):Int)>IntKind.i64.max:=by
    have:(IntKind.i64.max:Int)=9223372036854775807:=awL
    grind [ByteArray.size]
   simp_all[binOp,Op.stringOp,Mm]
  ·exact awI
 all_goals
  cases h;exact⟨_,by simp[binOp,Op.stringOp,akJ,adB],.pure (.bool _)⟩
def uA(op:BinOp)(t:TypeId)(x y:Operand)(vx vy:Value)(h:(∃k n,vx= .int k n)\/(∃s,vx= .string s)\/(∃b,vx= .bool b)):(eqGuard op t x y vx vy).run P w= .ok () w:=by rcases h with⟨k,n,rfl⟩|⟨s,rfl⟩|⟨b,rfl⟩<;>cases op<;>simp[eqGuard]
def A0{t:TypeId}{off:Nat}{cs:Array Value}{v:Value}(hf:qJ P t=true)(hv:cs[off]? =some v):(part t cs off).run P w= .ok v w:=by
 have hu:∃d,P.underlying t=some d/\p_ P t=false:=by
  unfold qJ at hf;unfold p_
  exact awN
 obtain⟨d,hu,ha⟩:=hu;simp_all[part,rb]
def ML{S:Nat->Prop}{vx vy:Array Value}{n:Nat}:∀(fs:List Field) (o:Nat) (xs ys:List D) (b:Bool),fs.all (fun f=>f.name != "_"&&qJ P f.type&&cA P f.type==1)=true->fs.map (·.offset)=List.range' o fs.length->
 fs.length=xs.length->mO xs ys=some b->(∀(i:Nat) d,xs[i]? =some d->∃v,vx[o+i]? =some v/\aG w S ρ d v)->(∀(i:Nat) d,ys[i]? =some d->∃v,vy[o+i]? =some v/\aG w S ρ d v)->
 (∀(i:Nat) f d,fs[i]? =some f->xs[i]? =some d->Av P f.type d)->(Op.eqFields (n+1) vx vy fs).run P w= .ok b w:=by
 intro fs;induction fs with
 |nil=>
  intro o xs ys b _ _ hl he _ _ _;cases xs with
  |nil=>cases ys<;>simp_all[mO,Op.eqFields]
  |cons x xs=>simp at hl
 |cons f fs ih=>
  intro o xs ys b eB ek hl he hx hy lV;cases xs with
  |nil=>simp at hl
  |cons x xs=>
  cases ys with
  |nil=>simp[mO]at he
  |cons y ys=>
  simp only[aep,aas,ap9,ne_eq,akv]at eB;obtain⟨⟨⟨hn,hf⟩,_⟩,LG⟩:=eB;simp only[abk,aa5,ajE,afc]at ek;obtain⟨ho,ek⟩:=ek;obtain⟨v,hv,Kk⟩:=hx 0 x rfl;obtain⟨u,hu,hru⟩:=hy 0 y rfl;simp only[agA]at hv hu;have hfx:=lV 0 f x rfl rfl;have ih':=fun b h=>ih (o+1) xs ys b LG ek awN h (fun i d hd=>by have:=hx (i+1) d awN;grind)
   (fun i d hd=>by have:=hy (i+1) d awN;grind) (fun i f d hf hd=>lV (i+1) f d awN awN)
  simp only[mO]at he;cases sM:xM x y with
  |none=>grind
  |some c=>
   have hr:=Qk (n:=n) sM Kk hru hfx;simp only[Op.eqFields,hn,ae9,ne_eq,abo,aa9,ho,A0 hf hv,A0 hf hu,aa4,hr];cases c with
   |true=>
    exact awN
   |false=>
    simp only[sM]at he;cases Ay:mO xs ys with
    |none=>grind
    |some c'=>simp_all
def CS{k:Nat}{ks:List Nat}{ds:List D}(h:bU (k::ks) ds=true):∃d ds',ds=d::ds'/\bU ks ds'=true/\xM d d=some true/\∀t,qN P t=k->Av P t d:=by
 unfold bU at h;split at h;all_goals first
  |contradiction
  |(cases h)
  |(
   rename_i he;cases he;refine⟨_,_,rfl,h,by simp[xM],fun t ht=>?_⟩
   grind [qN,Av])
def Gb{t:TypeId}{F:Array Field}{k:Nat}{ks:List Nat}(h:k::ks=Ga P t F):k=0/\Cc P 0 F.toList=some ks/\P.stoodInHeld t=false/\P.eqGuardType P.depth t=false:=by
 unfold Ga at h
 exact awN
theorem NU{ks:List Nat}{ds:List D}:bU (0::ks) ds=false:=awr
def OL{S:Nat->Prop}{t:TypeId}{n:Nat}{d:D}{v:Value}(h:xM d d=some true)(hf:Av P t d)(hv:aG w S ρ d v):(Op.equalIn (n+1) t v v).run P w= .ok true w:=Qk h hv hv hf
theorem Cf{e:TypeId}{n:Nat}{cs:Array Value}(hf:qJ P e=true):∀is:List Nat,(∀i∈is,∃v,cs[i]? =some v/\(Op.equalIn (n+1) e v v).run P w= .ok true w)->(Op.eqItems (n+1) e 1 cs cs is).run P w= .ok true w
 |[],_=>by simp[Op.eqItems]
 |i::is,h=>by
  obtain⟨v,h1,h2⟩:=h i sI;simp[Op.eqItems,aa9,agU,A0 hf h1,aa4,h2,aaX,aew,aa_];exact Cf hf is fun j hj=>h j (by simp[hj])
theorem Kt:∀ {k1 k2:List Nat} {ds:List D},bU (k1++k2) ds=true->∃a b,ds=a++b/\a.length=k1.length/\bU k1 a=true/\bU k2 b=true
 |[],k2,ds,h=>⟨[],ds,rfl,rfl,by simp[bU],h⟩
 |k::k1,k2,ds,h=>by
  have h':=h;unfold bU at h';cases ds with
  |nil=>grind
  |cons d ds=>
   have hs:bU (k1++k2) ds=true/\∀l,bU (k::k1) (d::l)=bU k1 l:=awr
   obtain⟨a,b,h1,h2,h3,h4⟩:=Kt hs.1
   exact awN
def Eh{t:TypeId}{d:TypeDesc}(hu:P.underlying t=some d):P.cellsOf t=cA P t:=by grind [cA,Program.cellsOf]
theorem Lp{S:Nat->Prop}{vx:Array Value}{n:Nat}:∀(fs:List Field) (o:Nat) (ks:List Nat) (xs:List D),Cc P o fs=some ks->bU ks xs=true->(∀(i:Nat) d,xs[i]? =some d->∃v,vx[o+i]? =some v/\aG w S ρ d v)->(Op.eqFields (n+2) vx vx fs).run P w= .ok true w:=by
 intro fs;induction fs with
 |nil=>simp_all[Op.eqFields]
 |cons f fs ih=>
  intro o ks xs hd hk hx;unfold Cc at hd;split at hd
  ·rename_i k1 xb;split at hd
   ·rename_i hc;simp only[aas,ap9,ne_eq,akv]at hc;obtain⟨⟨hn,ho⟩,bz⟩:=hc;rw[aav]at hd;obtain⟨k2,Np,rfl⟩:=hd;obtain⟨a,b,rfl,ha,hka,oI⟩:=Kt hk;have ih':=ih (o+k1.length) k2 b Np oI fun i d hi=>by simp_all[abn,ae8]
    have hxa:∀(i:Nat) d,a[i]? =some d->∃v,vx[o+i]? =some v/\aG w S ρ d v:=fun i d hi=>hx i d awN;have step:∃v,(part f.type vx f.offset).run P w= .ok v w/\(Op.equalIn (n+2) f.type v v).run P w= .ok true w:=by
     unfold aaC at xb;split at xb
     ·rename_i Er;simp only[aas,akv]at Er;injection xb with xb;subst xb;obtain⟨d,ds,rfl,_,he,lV⟩:=CS (P:=P) hka;obtain⟨v,hv,hr⟩:=hxa 0 d rfl;rw[agA,<-ho]at hv;exact⟨v,A0 Er.1 hv,OL he (lV _ rfl) hr⟩
     ·split at xb
      ·rename_i m e hu;split at xb
       ·rename_i Er;simp only[aas,akv]at Er;injection xb with xb;subst xb;obtain⟨i,hi⟩:=info_of_underlying hu;have V1:∃de,P.underlying e=some de:=by cases V1:P.underlying e<;>simp_all[qJ]
        obtain⟨de,V1⟩:=V1;obtain⟨ie,hie⟩:=info_of_underlying V1;rw[aff]at bz ha;refine⟨.agg (vx.extract f.offset (f.offset+P.cellsOf f.type)),by simp[part,isAgg,aaD hu,run_sizeOf w hi],?_⟩;rw[run_equalIn_array w (n+1) _ _ hu hie,Eh V1,Er.2,Eh hu,bz];refine Cf Er.1 _ fun j hj=>?_;rw[af_]at hj;have au:j<a.length:=oM;obtain⟨v,hv,hr⟩:=hxa j _ (aaS au);have hkk:∀(m:Nat) (l:List D),bU (List.replicate m (qN P e)) l=true->∀d∈l,xM d d=some true/\Av P e d:=by
         intro m;induction m with
         |zero=>grind [bU]
         |succ m ihm=>
          intro l hl d hd;rw[akq]at hl;obtain⟨d',ds',rfl,h1,h2,h3⟩:=CS (P:=P) hl
          exact awN
        obtain⟨h1,h2⟩:=hkk m a hka _ (ala au);refine⟨v,?_,OL h1 h2 hr⟩
        exact awN
       exact awN
      exact awN
    obtain⟨v,h1,h2⟩:=step;simp_all[Op.eqFields]
   ·cases hd
  ·cases hd
end Go.V
namespace Go.V
open Go.RowKit
variable {P:Program} {X:Ctx} {ρ:bX} {σ:Env} {bx:ab} {a:Act} {w:World}
variable {dst:Option Tmp} {ty:TypeId} {pos:String} {af:Array Edge} {g:Option (Nat×Bool)}
theorem NT(k:Nat)(ks:List Nat):bU (k::ks) []=false:=awr
theorem V_{P:Program}:∀(ks:List Nat) (F:List Field) (ds:List D),ks=F.map (fun f=>qN P f.type)->bU ks ds=true->F.length=ds.length/\∀(i:Nat) f d,F[i]? =some f->ds[i]? =some d->Av P f.type d:=by
 intro ks;induction ks with
 |nil=>
  intro F ds hF h;cases F<;>grind [bU]
 |cons k ks ih=>
  intro F ds hF h;cases F with
  |nil=>simp at hF
  |cons f F=>
  cases ds with
  |nil=>grind [NT]
  |cons d ds=>
  simp only[abk,afc]at hF;obtain⟨hk,hF⟩:=hF;have step:bU ks ds=true/\Av P f.type d:=by
   unfold bU at h;split at h
   ·exact awN
   ·rename_i he J9;injection he with e1 e2;injection J9 with e3 e4;subst e2;subst e4;subst e3;refine⟨h,.inr (.inl ⟨_,rfl,?_⟩)⟩
    grind [qN]
   ·rename_i he J9;injection he with e1 e2;injection J9 with e3 e4;subst e2;subst e4;subst e3;refine⟨h,.inl ⟨_,_,rfl,?_⟩⟩;rw[e1]at hk;unfold qN at hk
    exact awN
   ·rename_i he J9;injection he with e1 e2;injection J9 with e3 e4;subst e2;subst e4;subst e3;refine⟨h,.inr (.inr ⟨_,rfl,?_⟩)⟩
    grind [qN]
   ·exact awI
  exact awN
def abT{S:Nat->Prop}{t:TypeId}{x y:D}{vx vy:Value}{b:Bool}(h:JS (aj P t) x y=some b)(hx:aG w S ρ x vx)(hy:aG w S ρ y vy):
 (Op.equal t vx vy).run P w= .ok b w/\∀(op:BinOp) (p q:Operand),(eqGuard op t p q vx vy).run P w= .ok () w:=by
 unfold JS at h;split at h
 ·rename_i fs k ks da db hk;split at h
  ·rename_i sF;obtain⟨F,hu,Es,GJ⟩:=rU hk;obtain⟨xs,rfl,rF,hxr⟩:=hx.rH;obtain⟨ys,rfl,oN,NH⟩:=hy.rH;have uB:(F.toList.all (fun f=>f.name != "_"&&qJ P f.type&&cA P f.type==1)&& !P.stoodInHeld t&& !P.eqGuardType P.depth t&&(F.toList.map (·.offset))==List.range F.size&&cA P t==F.size)=true:=by
    cases hb:(F.toList.all (fun f=>f.name != "_"&&qJ P f.type&&cA P f.type==1)&& !P.stoodInHeld t&& !P.eqGuardType P.depth t&&(F.toList.map (·.offset))==List.range F.size&&cA P t==F.size) with
    |true=>rfl
    |false=>
     rw[hb]at GJ;obtain⟨rfl,_⟩:=Gb (by simpa using GJ)
     grind [NU]
   rw[uB]at GJ;simp only[abo]at GJ;simp only[aas,ae_,akv]at uB;obtain⟨⟨⟨⟨eB,bI⟩,rz⟩,ek⟩,_⟩:=uB;obtain⟨hl,lV⟩:=V_ _ _ _ GJ sF;have hlen2:∀(p q:List D) (b:Bool),mO p q=some b->p.length=q.length:=by
    intro p;induction p with
    |nil=>grind [mO]
    |cons c p ih=>
     intro q b hq;cases q<;>grind [mO]
   have hF:P.fieldsOf t=F:=by simp[Program.fieldsOf,hu]
   constructor
   ·simp only[Op.equal,Op.maxDepth];rw[run_equalIn_struct w 9999 t xs ys awN bI,hF];refine ML (S:=S) (ρ:=ρ) (n:=9998) F.toList 0 da db b eB ?_ hl h (fun i d hd=>?_) (fun i d hd=>?_) lV
    ·grind [List.range_eq_range']
    ·have hi:i<xs.size:=awN
     exact arT
    ·have hi:i<ys.size:=awN
     rw[aeC];exact⟨_,abd hi,NH i d _ hd (abd hi)⟩
   grind [run_eqGuard_agg]
  ·rename_i sF;unfold HA at h;split at h
   ·rename_i hc;obtain⟨rfl,eQ,he⟩:=hc;injection h with h;subst h;obtain⟨F,hu,Es,GJ⟩:=rU hk;obtain⟨xs,rfl,rF,hxr⟩:=hx.rH;obtain⟨ys,rfl,oN,NH⟩:=hy.rH;have hdk:0::ks=Ga P t F:=by
     split at GJ
     ·rename_i hc;exfalso;simp only[aas]at hc;have eB:=hc.1.1.1.1;cases hF:F.toList with
      |nil=>grind
      |cons f fs=>
       rw[hF]at GJ eB;simp only[abk,afc]at GJ;simp only[aep,aas]at eB
       grind [qJ,qN]
     exact awN
    obtain⟨_,pN,bI,rz⟩:=Gb hdk;have hF:P.fieldsOf t=F:=by simp[Program.fieldsOf,hu]
    have fS:∀(a b:List D),mO a b=some true->a=b:=by
     intro a;induction a with
     |nil=>grind [mO]
     |cons c a ih=>
      intro b hb;cases b with
      |nil=>simp[mO]at hb
      |cons c' b=>
       simp only[mO]at hb;cases iR:xM c c' with
       |none=>grind
       |some r=>
        cases r with
        |false=>grind
        |true=>
         simp only[iR]at hb;have h1:c=c':=by cases c<;>cases c'<;>simp[xM]at iR⊢ <;>first|grind|exact iR
         exact awN
    obtain rfl:=fS _ _ he;have ani:∀(ks:List Nat) (l:List D),bU ks l=true->∀d∈l,(∃k n,d= .int k n)\/(∃b,d= .bool b)\/∃s,d= .str s:=by
     intro ks;induction ks with
     |nil=>grind [bU]
     |cons k ks ih=>
      intro l hl d hd;obtain⟨d',ds',rfl,h1,h2,_⟩:=CS (P:=P) hl;rcases aaQ.1 hd with rfl|hd
      ·cases d<;>simp[xM]at h2<;>simp
      exact awN
    have sM:xs=ys:=by
     refine Array.ext oM fun i h1 h2=>?_;have hi:i<da.length:=oM;have r1:=hxr i _ _ (aaS hi) (abd h1);have r2:=NH i _ _ (aaS hi) (abd h2);rcases ani ks da eQ _ (ala hi)with⟨k,n,hd⟩|⟨b,hd⟩|⟨s,hd⟩<;>rw[hd]at r1 r2
     ·rw[r1.cV,r2.cV]
     ·rw[r1.kA,r2.kA]
     ·rw[r1.fj,r2.fj]
    subst sM;constructor
    ·simp only[Op.equal,Op.maxDepth];rw[run_equalIn_struct w 9999 t xs xs awN bI,hF];refine Lp (S:=S) (ρ:=ρ) (n:=9997) F.toList 0 ks da pN eQ fun i d hd=>?_;have hi:i<xs.size:=awN
     exact arT
    grind [run_eqGuard_agg]
   ·exact awI
 ·rename_i a b hk;injection h with h;subst h;rw[hx.kA,hy.kA];simp_all[uA,Op.equal,Op.maxDepth,run_equalIn_bool',RH]
 ·exact awI
def adW{op:BinOp}{t:TypeId}{vx vy:Value}(ho:op= .eql\/op= .neq)(hv:(∃xs,vx= .agg xs)\/(∃b,vx= .bool b)){b:Bool}(h:(Op.equal t vx vy).run P w= .ok b w):
 (binOp op t vx vy).run P w= .ok (.bool (if op= .eql then b else !b)) w:=by
 rcases ho with rfl|rfl<;>rcases hv with⟨xs,rfl⟩|⟨c,rfl⟩<;>cases vy<;>simp[binOp,h]
def R_(ti:TI)(op:BinOp)(dx dy:D):(∃k m k' n,dx= .int k m/\dy= .int k' n)\/(∃m n,dx= .str m/\dy= .str n)\/(dy= .ak/\oy ti op dx dy=IZ ti op dx)\/oy ti op dx dy=Sa ti op dx dy:=by cases dx<;>cases dy<;>first|exact .inr (.inr (.inl ⟨rfl,rfl⟩))|exact .inr (.inr (.inr rfl))|grind|grind
def Tf{S:Nat->Prop}{t:TypeId}{op:BinOp}{dx d:D}{vx:Value}(hv:IZ (aj P t) op dx=some d)(hx:aG w S ρ dx vx)(x y:Operand):
 ∃v,(do eqGuard op t x y vx (.slice none 0 0);binOp op t vx (.slice none 0 0)).run P w= .ok v w/\aG w S ρ d v:=by
 unfold IZ at hv;split at hv
 ·rename_i e esz b ag hk;have hu:=(cW hk).1;have ho:op= .eql\/op= .neq:=by cases op<;>cases dx<;>first|exact .inl rfl|exact .inr rfl|(exact absurd hv (by simp[yC]))
  have hd:∃b n c,vx= .slice b n c/\((d= .jd)\/d= .bool (if op= .eql then b.isNone else !b.isNone)):=by
   have sl:∀(sz:Nat) (es:List D) (e1 e2:Bool),dx= .sl sz es->(d=if es.isEmpty then .jd else .bool (if op= .eql then false else true))->∃b n c,vx= .slice b n c/\((d= .jd)\/d= .bool (if op= .eql then b.isNone else !b.isNone)):=by
    intro sz es e1 e2 he hd;rw[he]at hx;cases hx with
    |pure h=>
     cases h with
     |@sl _ _ A n cap b off us hn cU gQ hA=>
      refine⟨A,n,cap,rfl,?_⟩;cases es<;>grind
   cases dx with
   |ak=>
    rw[hx.gv];refine⟨none,0,0,rfl,.inr ?_⟩;exact arB
   |ba t' e' s' o' n'=>
    cases hx with
    |pure h=>cases h
    |ba=>
     refine⟨_,_,_,rfl,.inr ?_⟩;exact arB
   |sl sz es=>
    refine sl sz es true true rfl ?_;rcases ho with rfl|rfl<;>simp only[yC,aaM]at hv<;>simp[<-hv]
   |_=>rcases ho with rfl|rfl<;>simp[yC]at hv
  obtain⟨bb,n,c,rfl,hd⟩:=hd;have hg:(eqGuard op t x y (.slice bb n c) (.slice none 0 0)).run P w= .ok () w:=by cases op<;>rfl
  have he:(Op.equal t (.slice bb n c) (.slice none 0 0)).run P w= .ok bb.isNone w:=by
   have key:∀d,(Op.equalIn (d+1) t (.slice bb n c) (.slice none 0 0)).run P w= .ok bb.isNone w:=fun d=>by
    unfold Op.equalIn;simp only[aa9,aaD hu,Result.andThen];cases bb<;>rfl
   exact key 9999
  refine⟨.bool (if op= .eql then bb.isNone else !bb.isNone),?_,?_⟩
  ·simp only[aa9,hg,Result.andThen];rcases ho with rfl|rfl<;>simp[binOp,he]
  ·rcases hd with rfl|rfl
   ·exact .pure (.jd _)
   ·exact .pure (.bool _)
 ·cases hv
theorem Pj(h:aw X ρ σ bx a w){op:BinOp}{t t':TypeId}{x y:Operand}{d:D}(hv:oy (aj P t) op (ev σ x) (ev σ y)=some d):Yields P X ρ bx a w ⟨dst,.binOp op t x y t',ty,pos,af,g⟩ d:=by
 have hx:=h.ev x;have hy:=h.ev y;generalize ev σ x=dx at hv hx;generalize ev σ y=dy at hv hy;rcases R_ (aj P t) op dx dy with⟨k,m,k',n,rfl,rfl⟩|⟨m,n,rfl,rfl⟩|⟨rfl,he⟩|he
 ·simp only[oy]at hv;split at hv
  ·rename_i hk;subst hk;obtain⟨v,bZ,hr⟩:=abD (P:=P) (ρ:=ρ) (w:=w) op k m n d hv t (ay X ρ bx w);refine aK v ?_ hr;exact aqT
  ·obtain⟨v,bZ,hr⟩:=Mj (P:=P) (ρ:=ρ) (w:=w) op k k' m n d hv t (ay X ρ bx w);refine aK v ?_ hr;exact aqT
 ·simp only[oy]at hv;obtain⟨v,bZ,hr⟩:=abE (P:=P) (ρ:=ρ) (w:=w) op m n d hv t (ay X ρ bx w);refine aK v ?_ hr;simp only[execOp,aa9,hx.fj,hy.fj,uA op t x y _ _ (.inr (.inl ⟨_,rfl⟩)),aa4,bZ,adB]
 ·rw[he]at hv;obtain⟨v,bZ,hr⟩:=Tf (P:=P) hv hx x y;refine aK v ?_ hr;simp only[aa9]at bZ;simp only[execOp,aa9,hy.gv];exact awy
 ·rw[he]at hv;have xU:op= .eql\/op= .neq:=by grind [Sa]
  obtain⟨b,hb,hd⟩:∃b,JS (aj P t) dx dy=some b/\d= .bool (if op= .eql then b else !b):=by rcases xU with rfl|rfl<;>simp only[Sa,aav]at hv<;>obtain⟨b,hb,rfl⟩:=hv<;>exact⟨b,hb,awP⟩
  obtain⟨he,hg⟩:=abT hb hx hy;subst hd;have pS:(∃xs,a.eval x= .agg xs)\/(∃b,a.eval x= .bool b):=by
   unfold JS at hb;split at hb
   ·obtain⟨vs,h1,_⟩:=hx.rH;exact awN
   ·exact .inr ⟨_,hx.kA⟩
   ·cases hb
  refine aK (.bool (if op= .eql then b else !b)) ?_ (.pure (.bool _));simp_all[execOp,adW]
def TW(h:aw X ρ σ bx a w){op:UnOp}{t:TypeId}{x:Operand}{d:D}(hv:Xu op (ev σ x)=some d):Yields P X ρ bx a w ⟨dst,.unOp op t x,ty,pos,af,g⟩ d:=by
 have hx:=h.ev x;generalize ev σ x=dx at hv hx;cases dx<;>simp[Xu]at hv<;>try (cases hv)
 ·cases op<;>simp at hv<;>try (done)
  ·cases hv;exact aK _ (by simp[execOp,hx.cV,Op.unary,Op.intArith]) (.pure (.int _ _))
  ·cases hv;exact aK _ (by simp[execOp,hx.cV,Op.unary,Op.intBits,fg]) (.pure (.int _ _))
 ·cases op<;>simp at hv<;>try (done)
  cases hv;exact aK _ (by simp[execOp,hx.kA,Op.unary]) (.pure (.bool _))
theorem PQ{S:Nat->Prop}{dx d:D}{vx:Value}{o:Nat}(hv:kJ dx o=some d)(hx:aG w S ρ dx vx):∃b p,vx= .pointer (some ⟨b,p,none⟩)/\aG w S ρ d (.pointer (some ⟨b,p+o,none⟩)):=by
 cases dx with
 |loc s e i j=>
  simp[kJ,aaM]at hv;subst hv;obtain⟨p,hp,rfl⟩:=hx.mH;exact⟨_,_,rfl,.loc hp oM⟩
 |bR d0 j=>
  simp[kJ,aaM]at hv;subst hv;have eA:=hx.fw rfl;cases eA with
  |@bR _ _ b off p us hb hp hc h1 hr=>exact⟨_,_,rfl,.pure (.bR hb oM hc h1 hr)⟩
 |_=>simp[kJ]at hv
def Gk(h:aw X ρ σ bx a w){t:TypeId}{x:Operand}{i:Nat}{d:D}(hv:pk (aj P t) (ev σ x) i=some d):Yields P X ρ bx a w ⟨dst,.fieldAddr t x i,ty,pos,af,g⟩ d:=by
 have hx:=h.ev x;simp[pk]at hv;cases hk:(aj P t).k with
 |struct fs eq=>
  simp[hk]at hv;obtain⟨F,hu,Es,_⟩:=rU hk;subst Es;simp[aaZ,aba]at hv;cases hf:F[i]? with
  |none=>grind
  |some f=>
   simp only[hf,aec]at hv;split at hv
   ·cases hv
   ·obtain⟨b,p,ig,hr⟩:=PQ hv hx;refine aK _ ?_ hr;have bz:=cI (P:=P) (t:=f.type) oM w;simp_all[execOp,Instr.fieldAt,Instr.sureAddr,aaD,fieldPlace,Addr.ei]
 |_=>simp[hk]at hv
def Pu(h:aw X ρ σ bx a w){t:TypeId}{x:Operand}{i:Nat}{d:D}(hv:Cg (aj P t) (ev σ x) i=some d):Yields P X ρ bx a w ⟨dst,.field t x i,ty,pos,af,g⟩ d:=by
 have hx:=h.ev x;generalize ev σ x=dx at hv hx;unfold Cg at hv;split at hv
 ·rename_i fs eq ds hk;obtain⟨F,hu,Es,_⟩:=rU hk;subst Es;obtain⟨vs,ig,hl,hr⟩:=hx.rH;simp only[aaZ,aba]at hv;cases hf:F[i]? with
  |none=>grind
  |some f=>
   simp only[hf,aec]at hv;split at hv
   ·cases hv
   ·rename_i hz;have hz:0<cA P f.type:=oM;have SU:∃v,(part f.type vs f.offset).run P w= .ok v w/\aG w (ay X ρ bx w) ρ d v:=by
     have hud:∃dd,P.underlying f.type=some dd:=let ⟨_,dd,_,h2,_⟩:=mJ hz;⟨dd,h2⟩
     obtain⟨dd,hud⟩:=hud;unfold j7 at hv;cases eW:p_ P f.type with
     |true=>
      simp only[eW,abo]at hv;split at hv
      ·rename_i hle;injection hv with hv;subst hv;refine⟨.agg (vs.extract f.offset (f.offset+cA P f.type)),by simp_all[part,rb,cI],.agg ?_ ?_⟩
       ·exact avE
       exact avE
      ·cases hv
     |false=>
      simp only[eW,aew,aa_,D.cells]at hv;have au:=(aaL.1 hv).1;have Q1:vs[f.offset]? =some vs[f.offset]:=abd oM;exact⟨_,by simp_all[part,rb],hr _ _ _ hv Q1⟩
    obtain⟨v,bZ,gR⟩:=SU;simp_all[aK,execOp,Instr.field,aaD,asAgg]
 ·cases hv
def Py(h:aw X ρ σ bx a w){t:TypeId}{x y:Operand}{d:D}(hv:qG (ev σ y) (uZ (aj P t) (ev σ x))=some d):Yields P X ρ bx a w ⟨dst,.index t x y,ty,pos,af,g⟩ d:=by
 have hx:=h.ev x;have hy:=h.ev y;generalize ev σ x=dx at hv hx;generalize ev σ y=dy at hv hy;cases dy with
 |int k n=>
  have hy:=hy.cV;simp only[qG]at hv;unfold uZ at hv;split at hv
  ·rename_i s hk;split at hv
   ·rename_i h0;cases hs:s[n.toNat]? with
    |none=>grind
    |some b=>
     simp only[hs,aec,aaM]at hv;subst hv;have au:=(aaL.1 hs).1;refine aK (.int .u8 (b.toNat:Int)) ?_ (.pure (.int _ _));have hb:(⟨s.toArray⟩:ByteArray)[n.toNat]? =some b:=by
      rw[ByteArray.getElem?_lt' _ _ (by grind [ByteArray.size])];have:s[n.toNat]=b:=awN
      rw[<-this];rfl
     simp only[execOp,Instr.index,hy,hx.fj,asIntOf,aa9,adB,aa4,aaD (ta hk),h0,abo,hb]
   ·cases hv
  ·rename_i len esz ag ds hk;split at hv
   ·rename_i hc;obtain⟨h0,au,fR⟩:=hc;obtain⟨e,hu,he,eW⟩:=xC hk;obtain⟨vs,ig,hl,hr⟩:=hx.rH;subst he;subst eW;obtain⟨_,dd,_,hud,_⟩:=mJ fR;have qt:0<=n/\n<((len:Nat):Int):=⟨h0,au⟩
    have SU:∃v,(part e vs (n.toNat * cA P e)).run P w= .ok v w/\aG w (ay X ρ bx w) ρ d v:=by
     unfold j7 at hv;cases eW:p_ P e with
     |true=>
      simp only[eW,abo]at hv;split at hv
      ·rename_i hle;injection hv with hv;subst hv;refine⟨.agg (vs.extract (n.toNat * cA P e) (n.toNat * cA P e+cA P e)),by simp_all[part,rb,cI],.agg ?_ ?_⟩
       ·exact avE
       exact avE
      ·cases hv
     |false=>
      simp only[eW,aew,aa_,D.cells]at hv;have au:=(aaL.1 hv).1;have Q1:vs[n.toNat * cA P e]? =some vs[n.toNat * cA P e]:=abd oM;exact⟨_,by simp_all[part,rb],hr _ _ _ hv Q1⟩
    obtain⟨v,bZ,gR⟩:=SU;simp_all[aK,execOp,Instr.index,asIntOf,aaD,cI]
   ·cases hv
  ·cases hv
 |_=>simp[qG]at hv
theorem sU(h:aw X ρ σ bx a w){lo:Option Operand}{l:Option Int}(hl:fu σ lo=some l):(lo=none/\l=none)\/∃x k n,lo=some x/\l=some n/\a.eval x= .int k n:=by
 cases lo with
 |none=>simp_all[fu]
 |some x=>
  simp[fu]at hl;have hx:=h.ev x;generalize ev σ x=dx at hl hx;cases dx<;>simp[E9]at hl<;>try (done)
  cases hl;exact .inr ⟨x,_,_,rfl,rfl,hx.cV⟩
def mV(h:aw X ρ σ bx a w){lo hi:Option Operand}{l u:Option Int}(hl:fu σ lo=some l)(hh:fu σ hi=some u){isS:Bool}{len cap p q:Nat}(hc:fy len l u=some (p,q))(hle:len<=cap):
 (Instr.sliceBounds isS len cap (lo.map a.eval) (hi.map a.eval) none).run P w= .ok (p,q,cap) w/\p<=q/\q<=len:=by
 unfold fy at hc;simp only at hc;split at hc
 ·rename_i hb;injection hc with hc;injection hc with h1 h2;rcases sU h hl with⟨rfl,rfl⟩|⟨x,k,n,rfl,rfl,hx⟩<;>rcases sU h hh with⟨rfl,rfl⟩|⟨y,k',m,rfl,rfl,hy⟩<;>simp only[Option.getD_none,ajC]at hb h1 h2
  ·subst h1;simp_all[Instr.sliceBounds]
  ·subst h1;subst h2;have c1:0<=m/\m<=(cap:Int):=⟨awO,awO⟩
   exact arw
  ·subst h1;exact arw
  ·have c1:0<=m/\m<=(cap:Int):=⟨awO,awO⟩
   have c2:0<=n/\n<=((m.toNat:Nat):Int):=⟨awO,awO⟩
   exact aqP
 ·cases hc
def PR(h:aw X ρ σ bx a w){t:TypeId}{x:Operand}{lo hi:Option Operand}{d:D}(hv:C9 (fu σ lo) (fu σ hi) (kK (aj P t) (ev σ x))=some d):Yields P X ρ bx a w ⟨dst,.slice t x lo hi none,ty,pos,af,g⟩ d:=by
 have hx:=h.ev x;generalize ev σ x=dx at hv hx;cases hl:fu σ lo with
 |none=>simp[hl,C9]at hv
 |some l=>
 cases hh:fu σ hi with
 |none=>grind [C9]
 |some u=>
 simp only[hl,hh,C9]at hv;have key:∀(e esz b:Nat) (ag:Bool) (sz:Nat) (es:List D),(aj P t).k= .slice e esz b ag->bc w (ay X ρ bx w) (.sl sz es) (a.eval x)->(if sz=esz/\0<esz then(fy es.length l u).map fun p=>D.sl sz ((es.drop p.1).take (p.2 - p.1))else none)=some d->Yields P X ρ bx a w ⟨dst,.slice t x lo hi none,ty,pos,af,g⟩ d:=by
  intro e esz b ag sz es hk eA fX;split at fX
  ·rename_i he;obtain⟨he,fR⟩:=he;subst he;obtain⟨hu,kd,_,_⟩:=cW hk;cases hc:fy es.length l u with
   |none=>grind
   |some pq=>
    obtain⟨p,q⟩:=pq;simp only[hc,aec,aaM]at fX;subst fX;generalize ig:a.eval x=vx at eA;cases eA with
    |@sl _ _ A m cap b' off us hn cU gQ hA bz iR h1 hr=>
     subst hn;obtain⟨bZ,k1,k2⟩:=mV (P:=P) (isS:=true) (cap:=cap) h hl hh hc cU;have fO:∀(i:Nat) c,((es.drop p).take (q - p))[i]? =some c->es[p+i]? =some c:=fun i c hi=>awN
     refine aK (.slice (if cap=p then A else A.map (·.add (p * sz))) (q - p) (cap - p)) ?_ (.pure (.sl (b:=b') (off:=off+p * sz) (us:=fun i j=>us (p+i) j) awe oM oM (fun bh=>?_)
      (fun i c hi=>bz _ _ (fO i c hi)) (fun i c j c' hi hj=>?_) (fun i c j c' hi hj=>h1 _ _ _ _ (fO i c hi) hj) (fun i c j c' hi hj=>hr _ _ _ _ (fO i c hi) hj)))
     ·simp_all[execOp,Instr.sliceAt,Instr.slice,aaD,cI]
     ·have au:p<es.length:=awN
      obtain⟨rfl,hb⟩:=hA awN;rw[aaw oM]
      grind [Addr.ei]
     exact awN
  exact awN
 unfold kK at hv;split at hv
 ·rename_i s hk;cases hc:fy s.length l u with
  |none=>grind
  |some pq=>
   obtain⟨p,q⟩:=pq;simp only[hc,aec,aaM]at hv;subst hv;obtain⟨bZ,h1,h2⟩:=mV (P:=P) (isS:=false) (cap:=s.length) h hl hh hc (aaN _);refine aK (.string ⟨((s.drop p).take (q - p)).toArray⟩) ?_ (.pure (.str _));have bz:(⟨s.toArray⟩:ByteArray).size=s.length:=au3
   have hex:(⟨s.toArray⟩:ByteArray).extract p q=⟨((s.drop p).take (q - p)).toArray⟩:=by
    apply ByteArray.ext;exact awy
   simp only[execOp,Instr.sliceAt,Instr.slice,hx.fj,aa9,adB,aa4,aaD (ta hk),akE,Option.isSome_none,aew,aa_,bz,bZ,hex]
 ·rename_i e esz b ag sz es hk;exact key e esz b ag sz es hk (hx.fw rfl) hv
 ·rename_i e esz b ag s e' sz o n hk;split at hv
  ·rename_i he;obtain⟨he,fR⟩:=he;subst he;obtain⟨hu,kd,_,_⟩:=cW hk;cases hc:fy n l u with
   |none=>grind
   |some pq=>
    obtain⟨p,q⟩:=pq;simp only[hc,aec,aaM]at hv;subst hv;generalize ig:a.eval x=vx at hx;cases hx with
    |pure h=>cases h
    |@ba _ _ _ _ _ off cap pl hp bz h0' ek hn cU=>
     obtain⟨bZ,k1,k2⟩:=mV (P:=P) (isS:=true) (cap:=cap) h hl hh hc hn;have qK:(execOp a.eval ⟨dst,.slice t x lo hi none,ty,pos,af,g⟩).run P w= .ok (.value (.slice (if cap=p then some ⟨pl.b,off,none⟩else some ⟨pl.b,off+p * sz,none⟩) (q - p) (cap - p))) w:=by simp_all[execOp,Instr.sliceAt,Instr.slice,aaD,cI,Addr.ei]
     by_cases hcp:cap=p
     ·rw[aaO hcp]at qK;refine aK _ qK (.ba hp bz (fun h0=>⟨(h0' oM).1,?_⟩) (fun hq=>awO) oM ⟨awO,cU.2⟩)
      exact awN
     ·rw[aaw hcp]at qK;refine aK _ qK (.ba hp bz (fun h0=>?_) (fun hq=>?_) oM ⟨awO,cU.2⟩)
      ·exact awN
      exact awN
  ·cases hv
 ·rename_i e esz b ag sz es hk;exact key e esz b ag sz es hk (hx.fw rfl).u_ hv
 ·rename_i e esz b ag s e' i j n hk;split at hv
  ·rename_i VB;subst VB;obtain⟨hu,kd,_,_⟩:=cW hk;cases hc:fy n l u with
   |none=>grind
   |some pq=>
    obtain⟨p,q⟩:=pq;simp only[hc,aec,aaM]at hv;subst hv;generalize ig:a.eval x=vx at hx;cases hx with
    |pure h=>cases h
    |@ic _ _ _ _ _ off cap pl hp ek hn cU=>
     obtain⟨bZ,k1,k2⟩:=mV (P:=P) (isS:=true) (cap:=cap) h hl hh hc hn;have qK:(execOp a.eval ⟨dst,.slice t x lo hi none,ty,pos,af,g⟩).run P w= .ok (.value (.slice (some ⟨pl.b,if cap=p then off else off+p,none⟩) (q - p) (cap - p))) w:=by
      simp only[execOp,Instr.sliceAt,Instr.slice,ig,aa9,adB,aa4,aaD hu,akE,bZ,cI (kd▸(by decide:0<1)),<-kd,aec,Addr.ei,agU]
      exact awN
     refine aK _ qK (.ic hp (fun hq=>?_) oM oM)
     exact awN
  ·cases hv
 ·rename_i n esz ag s e' i j hk;split at hv
  ·rename_i vS;obtain⟨oO,vS⟩:=vS;obtain⟨el,hu,mc,_⟩:=xC hk;rw[oO]at mc;have mc:=mc.symm;cases hc:fy n l u with
   |none=>grind
   |some pq=>
    obtain⟨p,q⟩:=pq;simp only[hc,aec,aaM]at hv;subst hv;obtain⟨pl,hp,ig⟩:=hx.mH;obtain⟨bZ,k1,k2⟩:=mV (P:=P) (isS:=false) (cap:=n) h hl hh hc (aaN _);have qK:(execOp a.eval ⟨dst,.slice t x lo hi none,ty,pos,af,g⟩).run P w= .ok (.value (.slice (some ⟨pl.b,if n=p then i * pl.sz+j else i * pl.sz+j+p,none⟩) (q - p) (n - p))) w:=by
     simp only[execOp,Instr.sliceAt,Instr.sureAddr,ig,aa9,adB,aa4,aaD hu,akE,bZ,cI (by grind:0<cA P el),mc,Addr.ei,agU]
     exact awN
    refine aK _ qK (.ic hp (fun hq=>?_) oM oM)
    exact awN
  ·cases hv
 ·rename_i n esz ag d0 j hk;split at hv
  ·rename_i vS;obtain⟨oO,vS,hjn,fQ⟩:=vS;obtain⟨el,hu,mc,_⟩:=xC hk;rw[oO]at mc;have mc:=mc.symm;cases hc:fy n l u with
   |none=>grind
   |some pq=>
    obtain⟨p,q⟩:=pq;simp only[hc,aec,aaM]at hv;subst hv;have eA:bc w (ay X ρ bx w) (.bR d0 j) (a.eval x):=hx.fw rfl;generalize ig:a.eval x=vx at eA;cases eA with
    |@bR _ _ b off p0 us hS hp iR h1 hr=>
     subst hp;obtain⟨bZ,k1,k2⟩:=mV (P:=P) (isS:=false) (cap:=n) h hl hh hc (aaN _);have qK:(execOp a.eval ⟨dst,.slice t x lo hi none,ty,pos,af,g⟩).run P w= .ok (.value (.slice (some ⟨b,if n=p then off+j else off+j+p,none⟩) (q - p) (n - p))) w:=by
      simp only[execOp,Instr.sliceAt,Instr.sureAddr,ig,aa9,adB,aa4,aaD hu,akE,bZ,cI (by grind:0<cA P el),mc,Addr.ei,agU]
      exact awN
     have fO:∀(m:Nat) c,((d0.cells.drop (j+p)).take (q - p))[m]? =some c->d0.cells[j+p+m]? =some c/\m<q - p:=fun m c hm=>awN
     have one:∀(m:Nat) c,d0.cells[m]? =some c->c.cells=[c]:=fun m c hm=>fD (aaI.1 fQ c (aat hm));refine aK _ qK (.pure (.sl (b:=b) (off:=off+j+p) (us:=fun m _=>us (j+p+m)) awe oM avL (fun bh=>⟨?_,hS⟩) (fun m c hm=>?_) (fun m c k c' hm dZ=>?_) (fun m c k c' hm dZ=>?_) (fun m c k c' hm dZ=>?_)))
     ·rw[aaw];intro e;apply bh;have:q - p=0:=oM
      exact awN
     ·exact awN
     ·exact awN
     ·exact awN
     exact awN
  ·cases hv
 ·rename_i e esz b ag hk;split at hv
  ·rename_i fR;obtain⟨hu,kd,_,_⟩:=cW hk;cases hc:fy 0 l u with
   |none=>grind
   |some pq=>
    obtain⟨p,q⟩:=pq;simp only[hc,aec,aaM]at hv;subst hv;have ig:=hx.gv;obtain⟨bZ,k1,k2⟩:=mV (P:=P) (isS:=true) (cap:=0) h hl hh hc (aaN _);simp_all[aK,execOp,Instr.sliceAt,Instr.slice,aaD,cI]
  ·cases hv
 ·cases hv
end Go.V
