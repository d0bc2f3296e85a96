/- The data level: plain data in place of values in memory, a weakest precondition over the model's own code that speaks of plain data alone. Definitions and the rules by which it is evaluated. The data level's rules of evaluation, one for each form of code and operation: laid for simp under go_sem. None is proved by rfl alone: else the kernel would compute what simp has computed. How a value in memory represents a datum; how that is kept while the world grows. The two levels held together: an activation's temporaries and world, and the data that they stand for. Each operation that yields a datum and writes no variable of the activation's own does so in the model. Each operation that yields a datum, the second part. Each operation that yields a datum, the third part; all of them together. -/
import Derived.Test.YtkgloohlmogakaaGreatDoorVG
set_option linter.unusedSimpArgs false
set_option linter.unusedVariables false
namespace Go.V
universe u
open Go.RowKit
abbrev Env:=Nat->D
abbrev ae:=Nat->Bx
def Bx.none:Bx:=⟨0,0,0,0,[]⟩
def ao{α:Type}(σ:Nat->α)(t:Nat)(v:α):Nat->α:=fun x=>if x=t then v else σ x
theorem cO{α:Type}(σ:Nat->α)(t:Nat)(v:α):ao σ t v t=v:=by simp[ao]
def tM:Value->D
 | .int k n=> .int k n
 | .bool b=> .bool b
 | .string s=> .str s.data.toList
 | .slice none 0 0=> .nilsl
 |x=> .raw x
def ry:Value->D
 | .agg cs=> .agg (cs.toList.map tM)
 |x=>tM x
def P_(g:Nat):Option D->D
 |some d=> .cref d 0
 |none=> .raw (.pointer (some ⟨g,0,none⟩))
def ev(σ:Env):Operand->D
 | .tmp t=>σ t
 | .const v=>ry v
 | .global g=>P_ g (ue g)
 | .func f=> .fn (.func f) []
inductive TK where
 |none
 |bool
 |int (k:IntKind)
 |str
 |slice (e esz bytes:Nat) (eagg:Bool)
 |arr (n esz:Nat) (eagg:Bool)
 |struct (fs:List (Nat×Nat×Bool)) (eq:List Nat)
 |ifc
 |map (kt et:TypeId)
 |other
 deriving Inhabited
structure TI where
 k:TK
 size:Nat
 agg:Bool
 zero:List D
 deriving Inhabited
def kl(P:Program)(t:TypeId):Bool:=
 match P.underlying t with
 |some (.struct _)|some (.array ..)=>true
 |_=>false
def ke(P:Program)(t:TypeId):Bool:=
 match P.underlying t with
 |some .bool|some (.int _)|some .string=>true
 |_=>false
def kg(P:Program)(t:TypeId):Nat:=
 match P.underlying t with
 |some .bool=>1
 |some (.int _)=>2
 |some .string=>3
 |_=>0
def bI(P:Program)(t:TypeId):Nat:=if(P.underlying t).isSome then((P.info? t).map (·.size)).getD 0 else 0
def IK(P:Program)(f:Field):Option (List Nat):=
 if ke P f.type&&bI P f.type==1 then some [kg P f.type]else match P.underlying f.type with
  |some (.array n e)=>if ke P e&&bI P e==1 then some (List.replicate n (kg P e))else none
  |_=>none
def rP(P:Program):Nat->List Field->Option (List Nat)
 |_,[]=>some []
 |o,f::fs=>match IK P f with
  |some ks=>if f.name != "_"&&f.offset==o&&bI P f.type==ks.length then (rP P (o+ks.length) fs).map (ks++·) else none
  |none=>none
def u9(P:Program)(t:TypeId)(F:Array Field):List Nat:=match rP P 0 F.toList with
 |some ks=>if !P.stoodInHeld t&& !P.eqGuardType P.depth t then 0::ks else[]
 |none=>[]
def ak(P:Program)(t:TypeId):TI:={
 k:=(match P.underlying t with
  |some .bool=> .bool
  |some (.int k)=> .int k
  |some .string=> .str
  |some (.slice e)=> .slice e (bI P e) (((P.info? e).map (·.bytes)).getD 0) (kl P e)
  |some (.array n e)=> .arr n (bI P e) (kl P e)
  |some (.struct fs)=> .struct (fs.toList.map fun f=>(f.offset,bI P f.type,kl P f.type)) (if fs.toList.all (fun f=>f.name != "_"&&ke P f.type&&bI P f.type==1)&& !P.stoodInHeld t&& !P.eqGuardType P.depth t&&(fs.toList.map (·.offset))==List.range fs.size&&bI P t==fs.size then fs.toList.map fun f=>kg P f.type else u9 P t fs)
  |some (.interface _)=> .ifc
  |some (.map kt et)=> .map kt et
  |some _=> .other
  |none=> .none)
 size:=bI P t
 agg:=kl P t
 zero:=(((P.info? t).bind (·.zero)).map fun z=>z.cells.toList.map tM).getD []}
def fK(d:D)(j:Nat)(ag:Bool)(k:Nat):Option D:=
 if ag then(if j+k<=d.cells.length then some (.agg ((d.cells.drop j).take k))else none)else d.cells[j]?
def dz(d:D)(j:Nat)(cs:List D):Option D:=
 if j+cs.length<=d.cells.length then
  match d with
  | .agg ds=>some (.agg (ds.take j++cs++ds.drop (j+cs.length)))
  |_=>match cs with
   |[c]=>some c
   |_=>none
 else none
def oV:D->D->Option Bool
 | .int k a,.int k' b=>if k=k' then some (a==b)else none
 | .bool a,.bool b=>some (a==b)
 | .str a,.str b=>some (a==b)
 |_,_=>none
def fC:List D->List D->Option Bool
 |[],[]=>some true
 |a::as,b::bs=>match oV a b with
  |some true=>fC as bs
  |some false=>match fC as bs with
   |some _=>some false
   |none=>none
  |none=>none
 |_,_=>none
def bD:List Nat->List D->Bool
 |[],[]=>true
 |1::ks,.bool _::ds=>bD ks ds
 |2::ks,.int _ _::ds=>bD ks ds
 |3::ks,.str _::ds=>bD ks ds
 |_,_=>false
def yT(k:Nat)(ks:List Nat)(a b:List D):Option Bool:=if k=0/\bD ks a=true/\fC a b=some true then some true else none
def xD(ti:TI)(x y:D):Option Bool:=
 match ti.k,x,y with
 | .struct _ (k::ks),.agg a,.agg b=>if bD (k::ks) a then fC a b else yT k ks a b
 | .bool,.bool a,.bool b=>some (a==b)
 |_,_,_=>none
def Db(op:BinOp)(a b:Int):Option D:=
 match op with
 | .eql=>some (.bool (a==b))
 | .neq=>some (.bool (a != b))
 | .lss=>some (.bool (decide (a<b)))
 | .leq=>some (.bool (decide (a<=b)))
 | .gtr=>some (.bool (decide (b<a)))
 | .geq=>some (.bool (decide (b<=a)))
 |_=>none
def ca(op:BinOp)(k:IntKind)(a b:Int):Int:=
 k.wrap ((match op with
  | .and=>BitVec.ofInt k.bits a&&& BitVec.ofInt k.bits b
  | .or=>BitVec.ofInt k.bits a|||BitVec.ofInt k.bits b
  | .xor=>BitVec.ofInt k.bits a ^^^ BitVec.ofInt k.bits b
  |_=>BitVec.ofInt k.bits a&&& ~~~(BitVec.ofInt k.bits b):BitVec k.bits).toNat:Int)
def sJ(op:BinOp)(k:IntKind)(a b:Int):Option D:=
 if b<0 then none else match op with
 | .shl=>some (.int k (k.wrap (a * 2 ^ (min b.toNat k.bits))))
 | .shr=>some (.int k (a.fdiv (2 ^ (min b.toNat k.bits))))
 |_=>none
def gy(op:BinOp)(k:IntKind)(a b:Int):Option D:=
 match op with
 | .and=>some (.int k (ca .and k a b))
 | .or=>some (.int k (ca .or k a b))
 | .xor=>some (.int k (ca .xor k a b))
 | .andNot=>some (.int k (ca .andNot k a b))
 | .shl=>sJ .shl k a b
 | .shr=>sJ .shr k a b
 | .add=>some (.int k (k.wrap (a+b)))
 | .sub=>some (.int k (k.wrap (a - b)))
 | .mul=>some (.int k (k.wrap (a * b)))
 | .quo=>if b=0 then none else some (.int k (k.wrap (a.tdiv b)))
 | .rem=>if b=0 then none else some (.int k (a.tmod b))
 |op=>Db op a b
def sO(op:BinOp)(a b:List UInt8):Option D:=
 match op with
 | .add=>if a.length+b.length<=9223372036854775807 then some (.str (a++b))else none
 | .eql=>some (.bool (a==b))
 | .neq=>some (.bool (!(a==b)))
 | .lss=>some (.bool (Op.bytesLess a b))
 | .leq=>some (.bool (Op.bytesLess a b||a==b))
 | .gtr=>some (.bool (!(Op.bytesLess a b||a==b)))
 | .geq=>some (.bool (!Op.bytesLess a b))
 |_=>none
def C6(ti:TI)(op:BinOp)(a b:D):Option D:=
 match op with
 | .eql=>(xD ti a b).map .bool
 | .neq=>(xD ti a b).map fun x=> .bool (!x)
 |_=>none
def si(op:BinOp)(x:D):Option D:=match op,x with
 | .eql,.nilsl=>some (.bool true)
 | .neq,.nilsl=>some (.bool false)
 | .eql,.osl ..=>some (.bool false)
 | .neq,.osl ..=>some (.bool true)
 | .eql,.sl _ es=>some (if es.isEmpty then .abool else .bool false)
 | .neq,.sl _ es=>some (if es.isEmpty then .abool else .bool true)
 |_,_=>none
def wT(ti:TI)(op:BinOp)(x:D):Option D:=match ti.k with
 | .slice ..=>si op x
 |_=>none
def iy(ti:TI)(op:BinOp):D->D->Option D
 | .int k a,.int k' b=>if k=k' then gy op k a b else sJ op k a b
 | .str a,.str b=>sO op a b
 |x,.nilsl=>wT ti op x
 |a,b=>C6 ti op a b
def isNil:Operand->Bool
 | .const .nilIface=>true
 |_=>false
def sg:D->Option Bool
 | .ifc _ _=>some false
 | .raw .nilIface=>some true
 |_=>none
def HM(ti:TI)(op:BinOp)(x:D):Option D:=
 match ti.k,op with
 | .ifc,.eql=>(sg x).map .bool
 | .ifc,.neq=>(sg x).map fun b=> .bool (!b)
 |_,_=>none
def tZ(ti:TI)(op:BinOp)(x y:D)(c:Bool):Option D:=if c then HM ti op x else iy ti op x y
def Bg(op:UnOp):D->Option D
 | .bool b=>match op with
   | .not=>some (.bool (!b))
   |_=>none
 | .int k n=>match op with
   | .neg=>some (.int k (k.wrap (0 - n)))
   | .xor=>some (.int k (ca .xor k (if k.signed then -1 else k.max) n))
   |_=>none
 |_=>none
def gR:D->Nat->Option D
 | .loc t e i j,o=>some (.loc t e i (j+o))
 | .cref d j,o=>some (.cref d (j+o))
 |_,_=>none
def jL(ti:TI)(x:D)(i:Nat):Option D:=
 match ti.k with
 | .struct fs _=>match fs[i]? with
   |some (off,sz,_)=>if sz=0 then none else gR x off
   |none=>none
 |_=>none
def rT(ti:TI)(x:D)(i:Nat):Option D:=
 match ti.k,x with
 | .struct fs _, .agg ds=>match fs[i]? with
   |some (off,sz,ag)=>if sz=0 then none else fK (.agg ds) off ag sz
   |none=>none
 |_,_=>none
def dn(ti:TI)(x:D)(n:Int):Option D:=
 match ti.k with
 | .slice _ esz _ _=>match x with
   | .sl sz es=>if 0<=n/\sz=esz/\0<esz then(es[n.toNat]?).map fun d=> .cref d 0 else none
   | .osl t e sz o len=>if 0<=n/\n<len/\sz=esz/\0<esz then some (.loc t e (o+n.toNat) 0)else none
   | .clp sz es=>if 0<=n/\sz=esz/\0<esz then(es[n.toNat]?).map fun d=> .cref d 0 else none
   | .csl t e i j len=>if 0<=n/\n<len/\esz=1 then some (.loc t e i (j+n.toNat))else none
   |_=>none
 | .arr len esz _=>if 0<=n/\n<len/\1<len/\0<esz then gR x (n.toNat * esz)else none
 |_=>none
def mB(ti:TI)(x:D)(n:Int):Option D:=
 match ti.k,x with
 | .str,.str s=>if 0<=n then(s[n.toNat]?).map fun b=> .int .u8 (b.toNat:Int)else none
 | .arr len esz ag,.agg ds=>if 0<=n/\n<len/\0<esz then fK (.agg ds) (n.toNat * esz) ag esz else none
 |_,_=>none
def fb(ti:TI)(bx:ae):D->Option D
 | .loc t e i j=>if(bx t).ep=e/\lv (bx t).k/\0<ti.size then((bx t).es[i]?).bind fun d=>fK d j ti.agg ti.size else none
 | .cref d j=>if 0<ti.size then fK d j ti.agg ti.size else none
 |_=>none
def iB(x:Option D)(xs:Option (List D)):Option (List D):=match x,xs with
 |some x,some xs=>some (x::xs)
 |_,_=>none
def eZ(b:Bool)(x y:Prop)(_:Tok (x/\y):=⟨⟩):Prop:=if b then x else y
def u0(d:D)(x y:Prop)(_:Tok (x/\y):=⟨⟩):Prop:=match d with
 | .bool t=>eZ t x y
 | .abool=>x/\y
 |_=>False
def pN(d:D):Option (Option Bool):=match d with
 | .bool b=>some (some b)
 | .raw (.tuple vs)=>if vs.size=0 then some none else none
 |_=>none
def lk(x:Option Oper)(σ:Env):Option (Option Bool):=match x with
 |some o=>match o.dst with
  |some d=>pN (σ d)
  |none=>none
 |none=>none
def gK(g:Option Bool)(want:Bool)(x y:Prop)(_:Tok (x/\y):=⟨⟩):Prop:=if g=some want then x else y
def me(d a b:D):Option D:=match d with
 | .bool t=>some (if t then a else b)
 |_=>none
def j9(d:D)(f:Int->Option D):Option D:=match d with
 | .int _ n=>f n
 |_=>none
def yF(d:D)(i:Nat):Option D:=match d with
 | .tup ds=>ds[i]?
 |_=>none
def sq(a b:Option (Option Int))(f:Option Int->Option Int->Option D):Option D:=match a,b with
 |some l,some h=>f l h
 |_,_=>none
def rZ(d:D):Option (Option Int):=match d with
 | .int _ n=>some (some n)
 |_=>none
def Ao(d:D):Option D:=match d with
 | .loc t e i j=>some (.loc t e i j)
 | .cref d j=>some (.cref d j)
 |_=>none
def minD:List D->Option D
 |[.int k a,.int k' b]=>if k=k' then some (.int k (if b<a then b else a))else none
 |_=>none
def qB:D->D->Option D
 | .int k a,.int k' b=>if k=k' then some (.int k (if a<b then b else a))else none
 |_,_=>none
def maxD:List D->Option D
 |[x,y]=>qB x y
 |[x,y,z]=>(qB x y).bind fun m=>qB m z
 |_=>none
def dh(σ:Env):Option Operand->Option (Option Int)
 |none=>some none
 |some x=>rZ (ev σ x)
def cT(len:Nat)(lo hi:Option Int):Option (Nat×Nat):=
 let h:Int:=hi.getD len;let l:Int:=lo.getD 0
 if 0<=l/\l<=h/\h<=len then some (l.toNat,h.toNat)else none
def gf(ti:TI)(x:D)(lo hi:Option Int):Option D:=
 match ti.k,x with
 | .str,.str s=>(cT s.length lo hi).map fun p=> .str ((s.drop p.1).take (p.2 - p.1))
 | .slice _ esz _ _,.sl sz es=>if sz=esz/\0<esz then(cT es.length lo hi).map fun p=> .sl sz ((es.drop p.1).take (p.2 - p.1))else none
 | .slice _ esz _ _,.osl t e sz o n=>if sz=esz/\0<esz then(cT n lo hi).map fun p=> .osl t e sz (o+p.1) (p.2 - p.1)else none
 | .slice _ esz _ _,.clp sz es=>if sz=esz/\0<esz then(cT es.length lo hi).map fun p=> .sl sz ((es.drop p.1).take (p.2 - p.1))else none
 | .slice _ esz _ _,.csl t e i j n=>if esz=1 then(cT n lo hi).map fun p=> .csl t e i (j+p.1) (p.2 - p.1)else none
 | .arr n esz _,.loc t e i j=>if esz=1/\n<=65536 then(cT n lo hi).map fun p=> .csl t e i (j+p.1) (p.2 - p.1)else none
 | .arr n esz _,.cref d j=>if esz=1/\n<=65536/\j+n<=d.cells.length/\d.cells.all D.one=true then(cT n lo hi).map fun p=> .sl 1 ((d.cells.drop (j+p.1)).take (p.2 - p.1))else none
 | .slice _ esz _ _,.nilsl=>if 0<esz then(cT 0 lo hi).map fun _=> .nilsl else none
 |_,_=>none
def pV(ti:TI)(x:D)(lo:Option Int)(h m:Int):Option D:=
 match ti.k,x with
 | .slice _ esz _ _,.sl sz es=>if sz=esz/\0<esz/\m=h then(cT es.length lo (some h)).map fun p=> .clp sz ((es.drop p.1).take (p.2 - p.1))else none
 | .slice _ esz _ _,.nilsl=>if m=0/\h=0/\lo.getD 0=0/\0<esz then some .nilsl else none
 |_,_=>none
def AD(ti:TI)(x:D)(lo hi mx:Option (Option Int)):Option D:=match lo,hi,mx with
 |some l,some (some h),some (some m)=>pV ti x l h m
 |_,_,_=>none
def fz(fs:List (Nat×Nat×Bool)):List D->List (Nat×D)->Option (List D)
 |cs,[]=>some cs
 |cs,(i,d)::ps=>match fs[i]? with
  |some (off,sz,_)=>if d.cells.length=sz/\off+sz<=cs.length/\d.cells.all D.one then fz fs (cs.take off++d.cells++cs.drop (off+sz)) ps else none
  |none=>none
def iH(ti:TI)(ps:List (Nat×D)):Option D:=
 match ti.k with
 | .struct fs _=>if ti.zero.length=ti.size/\0<ti.size/\fs.all (fun f=>decide (0<f.2.1))=true then(fz fs ti.zero ps).map .agg else none
 | .arr n esz ag=>if ti.zero.length=ti.size/\0<ti.size/\0<esz then(fz ((List.range n).map fun i=>(i * esz,esz,ag)) ti.zero ps).map .agg else none
 |_=>none
mutual
def D.pure:D->Bool
 | .agg ds| .tup ds| .fn _ ds| .bfn _ ds=>D.aF ds
 | .ifc _ d=>d.pure
 | .loc ..| .osl ..| .csl ..| .omap ..=>false
 |_=>true
def D.aF:List D->Bool
 |[]=>true
 |d::ds=>d.pure&&D.aF ds
end
def D.pt(c:D):D:=if c.pure then c else .undef
def D.xj:D->D
 | .agg ds=> .agg (ds.map D.pt)
 |d=>D.pt d
def iM(T:TypeId->TI)(ti:TI)(len:Nat)(ps:List (Nat×D)):Option D:=
 match ti.k with
 | .slice e esz _ _=>if ps.map (·.1)=List.range len/\ps.all (fun p=>p.2.cells.length==esz&&p.2.cells.all D.one&&p.2.pure)=true/\0<esz/\len * esz<=65536/\(T e).zero.length=esz then some (.sl esz (ps.map (·.2)))else none
 |_=>none
def mO:TK->D->Option Nat
 | .str,.str s=>some s.length
 | .slice _ _ _ _,.sl _ es=>some es.length
 | .slice _ _ _ _,.nilsl=>some 0
 | .slice _ _ _ _,.osl _ _ _ _ n=>some n
 | .slice _ _ _ _,.clp _ es=>some es.length
 | .slice _ _ _ _,.csl _ _ _ _ n=>some n
 | .arr n _ _,_=>some n
 |_,_=>none
def i_(b:Builtin)(tis:List TI)(xs:List D):Option D:=
 match b,tis,xs with
 | .len,[ti],[x]=>(mO ti.k x).map fun n:Nat=>D.int .i64 (n:Int)
 | .min,_,xs=>minD xs
 | .max,_,xs=>maxD xs
 | .cap,[⟨.slice _ _ _ _,_,_,_⟩],[.nilsl]=>some (.int .i64 0)
 |_,_,_=>none
def fA:List D->Option (List UInt8)
 |[]=>some []
 | .int .u8 n::es=>(fA es).map (UInt8.ofNat n.toNat::·)
 |_::_=>none
def TK.lN:TK->Bool
 | .int .u8=>true
 |_=>false
def lW(T:TypeId->TI)(s d:TI):D->Option D
 | .int _ n=>match s.k,d.k with
   | .int _,.int k=>some (.int k (k.wrap n))
   |_,_=>none
 | .str x=>match s.k,d.k with
   | .str,.str=>some (.str x)
   |_,_=>none
 | .sl sz es=>match s.k,d.k with
   | .slice e _ _ _,.str=>if sz=1/\(T e).k.lN=true then(fA es).map .str else none
   |_,_=>none
 | .clp sz es=>match s.k,d.k with
   | .slice e _ _ _,.str=>if sz=1/\(T e).k.lN=true then(fA es).map .str else none
   |_,_=>none
 | .nilsl=>match s.k,d.k with
   | .slice e _ _ _,.str=>if(T e).k.lN=true then some (.str [])else none
   |_,_=>none
 |_=>none
def tL(ag:Bool)(cs:List D):D:=if ag then .agg cs else cs.headD .undef
def fw(ti:TI):Option D:=if 0<ti.size/\ti.zero.length=ti.size/\(ti.agg=true\/ti.size=1)/\ti.zero.all D.one then some (tL ti.agg ti.zero)else none
def vE(ti:TI)(t:TypeId)(x:D):Option D:=match ti.k with
 | .none| .ifc=>none
 |_=>some (.ifc t x)
def wu(ti:TI)(t:TypeId)(ok:Bool)(x:D):Option D:=match ti.k with
 | .none| .ifc=>none
 |_=>match x with
  | .ifc t' v=>if t'=t then some (if ok then .tup [v,.bool true]else v)else if ok&& !ti.zero.isEmpty then some (.tup [.undef,.bool false])else none
  | .raw .nilIface=>if ok&& !ti.zero.isEmpty then some (.tup [.undef,.bool false])else none
  |_=>none
def Li(f:Fn)(ds:List D):Option D:=match f with
 | .func g=>some (.bfn g ds)
 |_=>none
def zeroV(P:Program)(t:TypeId):Option D:=((P.info? t).bind (·.zero)).map ry
def mX(ti:TI)(z:Option D):Bool:=match ti.k,z with
 | .struct [] _,some (.agg [])=>ti.size==0
 |_,_=>false
def rz(x:Option D)(b:Bool):Option D:=match x with
 |some d=>some d
 |none=>if b then some (.agg [])else none
def pR(x:Option ae)(b:Bool)(bx:ae)(a v:D):Option ae:=match x with
 |some r=>some r
 |none=>match a with
  | .loc ..=>if b=true/\v.cells=[]then some bx else none
  |_=>none
def bR(P:Program)(σ:Env)(bx:ae):Op->Option D
 | .move x| .assign x=>some (ev σ x)
 | .pick c a b=>me (ev σ c) (ev σ a) (ev σ b)
 | .binOp op t x y _=>tZ (ak P t) op (ev σ x) (ev σ y) (isNil y)
 | .unOp op _ x=>Bg op (ev σ x)
 | .fieldAddr t x i=>jL (ak P t) (ev σ x) i
 | .field t x i=>rT (ak P t) (ev σ x) i
 | .indexAddr t x ix=>j9 (ev σ ix) (dn (ak P t) (ev σ x))
 | .index t x ix=>j9 (ev σ ix) (mB (ak P t) (ev σ x))
 | .load t a=>fb (ak P t) bx (ev σ a)
 | .extract x i=>yF (ev σ x) i
 | .slice t x lo hi none=>sq (dh σ lo) (dh σ hi) (gf (ak P t) (ev σ x))
 | .slice t x lo hi (some mx)=>AD (ak P t) (ev σ x) (dh σ lo) (dh σ hi) (rZ (ev σ mx))
 | .build t ps=>rz (iH (ak P t) (ps.toList.map fun p=>(p.1,ev σ p.2))) (ps.toList.isEmpty&&mX (ak P t) (zeroV P t))
 | .buildSlice t n ps=>iM (ak P) (ak P t) n (ps.toList.map fun p=>(p.1,ev σ p.2))
 | .nilCheck x=>Ao (ev σ x)
 | .makeInterface t x=>vE (ak P t) t (ev σ x)
 | .typeAssert x _ t ok=>wu (ak P t) t ok (ev σ x)
 | .makeFunc f first caps=>if first.size=0 then some (.fn f (caps.toList.map (ev σ)))else if caps.size=0 then Li f (first.toList.map (ev σ))else none
 | .convert s d x=>lW (ak P) (ak P s) (ak P d) (ev σ x)
 | .call {callee:=.builtin b,args,argTypes}=>i_ b (argTypes.toList.map (ak P)) (args.toList.map (ev σ))
 |_=>none
mutual
def D.bare:D->Bool
 | .agg ds| .tup ds| .fn _ ds| .bfn _ ds=>D.yG ds
 | .ifc _ d=>d.bare
 | .loc ..| .osl ..| .csl ..| .omap ..| .sl ..| .clp ..| .cref ..| .undef| .glo=>false
 |_=>true
def D.yG:List D->Bool
 |[]=>true
 |d::ds=>d.bare&&D.yG ds
end
mutual
def bf(bx:ae):D->Option D
 | .loc t e i j=>if(bx t).ep=e/\lv (bx t).k then match(bx t).es[i]? with
  |some d=>if d.pure then some (.cref d j)else some (.cref d.xj j)
  |none=>none
   else none
 | .osl t e sz o n=>if(bx t).ep=e/\lv (bx t).k/\(bx t).sz=sz/\o+n<=(bx t).es.length then
  (if D.aF (((bx t).es.drop o).take n)then some (.sl sz (((bx t).es.drop o).take n))else none)else none
 | .csl t e i j n=>if(bx t).ep=e/\lv (bx t).k then match(bx t).es[i]? with
  |some d=>if j+n<=d.cells.length/\D.aF ((d.cells.drop j).take n)=true/\((d.cells.drop j).take n).all D.one=true then some (.sl 1 ((d.cells.drop j).take n))else none
  |none=>none
   else none
 | .agg ds=>(cg bx ds).map .agg
 | .tup ds=>(cg bx ds).map .tup
 | .fn f ds=>(cg bx ds).map (.fn f)
 | .bfn f ds=>(cg bx ds).map (.bfn f)
 | .ifc t d=>(bf bx d).map (.ifc t)
 | .omap ..=>none
 |d=>some d
def cg(bx:ae):List D->Option (List D)
 |[]=>some []
 |d::ds=>iB (bf bx d) (cg bx ds)
end
mutual
def cY(bx:ae):D->ae
 | .loc t _ _ _| .osl t _ _ _ _| .csl t _ _ _ _=>ao bx t {bx t with k:=if(bx t).k=1 then 2 else(bx t).k}
 | .agg ds| .tup ds| .fn _ ds| .bfn _ ds=>cv bx ds
 | .ifc _ d=>cY bx d
 |_=>bx
def cv(bx:ae):List D->ae
 |[]=>bx
 |d::ds=>cv (cY bx d) ds
end
def rJ(ti:TI)(v:D):Option D:=if 0<ti.size/\v.cells.length=ti.size/\v.cells.all D.one then some v else none
def put(σ:Env)(dst:Option Tmp)(v:D):Env:=
 match dst with
 |some d=>ao σ d v
 |none=>σ
def aI{α:Type}(x:Option α)(f:α->Prop)(_:Tok f:=⟨⟩):Prop:=
 match x with
 |some v=>f v
 |none=>False
def ff(bx:ae)(esz:Nat):D->Option (List D)
 | .nilsl=>some []
 | .sl sz es=>if sz=esz then some es else none
 | .osl t e sz o n=>if sz=esz/\(bx t).ep=e/\lv (bx t).k/\(bx t).sz=sz/\o+n<=(bx t).es.length then some (((bx t).es.drop o).take n)else none
 | .clp sz es=>if sz=esz then some es else none
 | .csl t e i j n=>if esz=1/\(bx t).ep=e/\lv (bx t).k then match(bx t).es[i]? with
  |some d=>if j+n<=d.cells.length/\((d.cells.drop j).take n).all D.one=true then some ((d.cells.drop j).take n)else none
  |none=>none
   else none
 |_=>none
def Ja(x:D)(bx:ae):Option (D×ae):=match x with
 | .clp sz es=>some (.sl sz es,bx)
 | .nilsl=>some (x,bx)
 | .osl ..=>some (x,bx)
 | .sl ..=>some (x,bx)
 |_=>none
def wI(lo d el esz bytes:Nat)(bx:ae)(t:Nat)(b:Bx)(e sz o n:Nat)(ys:List D):Option (D×ae):=
 if lo<=t/\sz=esz/\o=0/\b.ep=e/\b.k=1/\b.sz=sz/\b.ty=el/\n<=b.es.length/\(n+ys.length) * bytes<=140737488355328/\0<esz/\0<bytes then
  some (.osl d ((bx d).ep+1) esz 0 (n+ys.length),ao (ao bx t {b with k:=0}) d ⟨(bx d).ep+1,1,esz,el,b.es.take n++ys⟩)else none
def kX(lo d el esz bytes:Nat)(bx:ae)(x:D)(ys:List D):Option (D×ae):=match x with
 | .nilsl=>if ys.length * bytes<=140737488355328/\0<esz/\0<bytes then
  some (.osl d ((bx d).ep+1) esz 0 ys.length,ao bx d ⟨(bx d).ep+1,1,esz,el,ys⟩)else none
 | .osl t e sz o n=>wI lo d el esz bytes bx t (bx t) e sz o n ys
 | .clp sz es=>if sz=esz/\(es.length+ys.length) * bytes<=140737488355328/\0<esz/\0<bytes then
  some (.osl d ((bx d).ep+1) esz 0 (es.length+ys.length),ao bx d ⟨(bx d).ep+1,1,esz,el,es++ys⟩)else none
 |_=>none
def aV(s:List UInt8):List D:=s.map fun b=> .int .u8 (b.toNat:Int)
def eh(lo:Nat)(T:TypeId->TI)(ti:TI)(dst:Option Tmp)(bx:ae)(x:D)(ys:List D):Option (D×ae):=
 match ti.k,dst with
 | .slice el esz bytes _,some d=>if ys=[]then Ja x bx else if(T el).zero.length=esz then kX lo d el esz bytes bx x ys else none
 |_,_=>none
def C3(lo:Nat)(T:TypeId->TI)(ti:TI)(dst:Option Tmp)(bx:ae)(x y:D):Option (D×ae):=match ti.k with
 | .slice _ esz _ _=>if esz=0 then none else(ff bx esz y).bind fun ys=>eh lo T ti dst bx x ys
 |_=>none
def yD(lo d el esz bytes:Nat)(bx:ae)(x:D)(ys:List D):Option (D×ae):=match x with
 | .nilsl=>if ys=[]then some (x,bx)else kX lo d el esz bytes bx x ys
 | .osl ..=>if ys=[]then some (x,bx)else kX lo d el esz bytes bx x ys
 |_=>none
def rI(lo:Nat)(T:TypeId->TI)(ti ti':TI)(dst:Option Tmp)(bx:ae)(x y:D):Option (D×ae):=match ti.k,ti'.k,dst,y with
 | .slice el esz bytes _,.int _,some d,.int _ n=>if 0<=n/\n<=140737488355328/\(T el).zero.length=esz/\0<esz/\0<bytes then(fw (T el)).bind fun z=>yD lo d el esz bytes bx x (List.replicate n.toNat z)else none
 | .slice el esz _ _,.str,some _,.str s=>if(T el).zero.length=esz/\esz=1/\(T el).k.lN=true then eh lo T ti dst bx x (aV s)else none
 |_,_,_,_=>none
def pw(lo:Nat)(T:TypeId->TI)(t t':TypeId)(dst:Option Tmp)(bx:ae)(x y:D):Option (D×ae):=
 if t=t' then C3 lo T (T t) dst bx x y else rI lo T (T t) (T t') dst bx x y
def yC(lo:Nat)(T:TypeId->TI)(ts:List TypeId)(dst:Option Tmp)(bx:ae)(xs:List D):Option (D×ae):=match ts,xs with
 |[t,t'],[x,y]=>pw lo T t t' dst bx x y
 |_,_=>none
def qi(bx:ae)(t:Nat)(b:Bx)(e i j:Nat)(cs:List D):Option ae:=if b.ep=e/\b.k=1 then
 match b.es[i]? with
 |some d0=>(dz d0 j cs).map fun d'=>ao bx t {b with es:=b.es.set i d'}
 |none=>none
 else none
def ez(lo:Nat)(ti:TI)(bx:ae)(a v:D):Option ae:=
 match a with
 | .loc t e i j=>if lo<=t/\v.cells.length=ti.size/\0<ti.size/\v.cells.all D.one then qi bx t (bx t) e i j v.cells else none
 |_=>none
inductive Cl where
 |n
 |r (t:Nat)
 |w (t:Nat)
 |ra
 |wa
 |pan (d:D)
def Cl.rd:Cl->Nat->Bool
 | .n,_=>false
 | .r t,s| .w t,s=>s==t
 |_,_=>true
def Cl.wr:Cl->Nat->Bool
 | .w t,s=>s==t
 | .wa,_| .pan _,_=>true
 |_,_=>false
def jQ:D->Cl
 | .loc t _ _ _=> .r t
 |_=> .n
def ij:D->Cl
 | .loc t _ _ _=> .w t
 |_=> .wa
def apart:Cl->Cl->Prop
 | .n,_|_,.n=>True
 | .r _,.r _| .ra,.r _| .r _,.ra| .ra,.ra=>True
 | .r s,.w t| .w s,.r t| .w s,.w t=>s≠t
 |_,_=>False
def uO:Option Cl->Option Cl->Prop
 |some a,some b=>apart a b
 |_,_=>False
def xv:List (Nat×Nat)->List Cl->Prop
 |[],_=>True
 |(i,j)::ps,acc=>uO acc[i]? acc[j]?/\xv ps acc
def jN:List (Nat×List (Nat×Nat))->Nat->List (Nat×Nat)
 |[],_=>[]
 |(k,ps)::r,id=>if k=id then ps else jN r id
structure eF where
 to:FuncId->List D->D->Prop
 oF:FuncId->Nat->List D->ae->(D->ae->Prop)->(D->ae->Prop)->Prop
 it:FuncId->List D->List (List D)->Nat->Prop
 itB:FuncId->Bx->List (List D)->Option D->Nat->Prop
structure Calc where
 o:eF
 tab:List (Nat×List (Nat×Nat))
 base:Nat
 nxt:Nat
 lo:Nat
 yl:Option (List (List D)×Nat×Nat)
 pn:Bool
 df:Bool
def Calc.tF(C:Calc):Calc:=⟨⟨C.o.to,fun _ _ _ _ _ _=>False,fun _ _ _ _=>False,fun _ _ _ _ _=>False⟩,C.tab,C.base,C.nxt,C.lo,none,false,false⟩
mutual
def D.simple:D->Bool
 | .int ..| .bool _| .str _| .raw _| .nilsl=>true
 | .agg ds| .fn _ ds=>D.kT ds
 |_=>false
def D.kT:List D->Bool
 |[]=>true
 |d::ds=>d.simple&&D.kT ds
end
def je:TK->D->D->Option Bool
 | .int _,.int k a,.int k' b=>if k=k' then some (a==b)else none
 | .str,.str a,.str b=>some (a==b)
 | .bool,.bool a,.bool b=>some (a==b)
 |_,_,_=>none
def ja:TK->D->Bool
 | .int j,.int k _=>decide (k=j)
 | .str,.str _=>true
 | .bool,.bool _=>true
 |_,_=>false
def dt(tk:TK)(k:D):List D->Nat->Option (Option (Nat×D))
 |[],_=>some none
 | .tup [k',v,_]::es,i=>match je tk k k' with
   |some true=>some (some (i,v))
   |some false=>dt tk k es (i+1)
   |none=>none
 |_,_=>none
def uv(k v:D):D->D
 | .tup [_,_,b]=> .tup [k,v,b]
 |d=>d
def jW(tk:TK)(k v:D)(c:Int)(es:List D):Option (List D):=match dt tk k es 0 with
 |some (some (i,_))=>some (.int .i64 c::es.modify i (uv k v))
 |some none=>some (.int .i64 (c+1)::(es++[.tup [k,v,.int .i64 c]]))
 |none=>none
def zC(tk:TK)(k:D)(c:Int)(es:List D):Option (List D):=match dt tk k es 0 with
 |some (some (i,_))=>some (.int .i64 c::es.eraseIdx i)
 |some none=>some (.int .i64 c::es)
 |none=>none
def vD(t:Nat):List D->Option (Nat×Int×List D)
 | .int .i64 c::es=>some (t,c,es)
 |_=>none
def fq(bx:ae):D->Option (Nat×Int×List D)
 | .omap t e=>if(bx t).ep=e/\(bx t).k=3 then vD t (bx t).es else none
 |_=>none
def r8(t:Nat):List D->Option (Nat×D×Int×Int×List D)
 | .omap m k:: .int .i64 s:: .int .i64 l::seen=>some (t,.omap m k,s,l,seen)
 |_=>none
def iterAt(bx:ae):D->Option (Nat×D×Int×Int×List D)
 | .loc t e 0 0=>if(bx t).ep=e/\(bx t).k=3 then r8 t (bx t).es else none
 |_=>none
def intOf:D->Int
 | .int _ n=>n
 |_=>0
def eH:D->Int
 | .tup [_,_,.int .i64 n]=>n
 |_=>0
def mW(Z:Option D)(ok:Bool):Option (Option (Nat×D))->Option D
 |some (some (_,v))=>some (if ok then .tup [v,.bool true]else v)
 |some none=>Z.map fun z=>if ok then .tup [z,.bool false]else z
 |none=>none
def ni(P:Program)(T:TypeId->TI)(ti:TI)(bx:ae)(m k:D)(ok:Bool):Option D:=match ti.k with
 | .map kt et=>if ja (T kt).k k=true then(fq bx m).bind fun r=>mW (zeroV P et) ok (dt (T kt).k k r.2.2 0)else none
 |_=>none
def rf:D->Cl
 | .omap t _=> .r t
 |_=> .n
def dW(bx:ae)(t:Nat)(es:List D):ae:=ao bx t {bx t with es:=es}
def sS(T:TypeId->TI)(ti:TI)(bx:ae)(m k v:D):Option ae:=match ti.k with
 | .map kt _=>if ja (T kt).k k=true/\v.simple=true then(fq bx m).bind fun r=>(jW (T kt).k k v r.2.1 r.2.2).map (dW bx r.1)else none
 |_=>none
def Dh(T:TypeId->TI)(ti:TI)(bx:ae)(m k:D):Option ae:=match ti.k with
 | .map kt _=>if ja (T kt).k k=true then(fq bx m).bind fun r=>(zC (T kt).k k r.2.1 r.2.2).map (dW bx r.1)else none
 |_=>none
def s6(T:TypeId->TI)(ts:List TypeId)(bx:ae)(xs:List D):Option ae:=match ts,xs with
 |t::_,[m,k]=>Dh T (T t) bx m k
 |_,_=>none
def ug(bx:ae)(xs:List D):Option D:=match xs with
 |[m]=>(fq bx m).map fun r=> .int .i64 (r.2.2.length:Int)
 |_=>none
def uz(ti:TI)(bx:ae)(x:D):Option (List D):=match ti.k with
 | .map _ _=>(fq bx x).map fun r=>[x,.int .i64 r.2.1,.int .i64 r.2.1]
 |_=>none
def s7(seen:List D)(es:List D):Option D:=match seen.getLast? with
 |some s=>match es.find? fun e=>eH e==intOf s with
  |some (.tup [k,v,_])=>some (.tup [k,v])
  |_=>none
 |none=>none
def nZ(bx:ae)(x:D):Option D:=(iterAt bx x).bind fun i=>(fq bx i.2.1).bind fun r=>if r.2.1=i.2.2.2.1 then s7 i.2.2.2.2 r.2.2 else none
def fa(seen es:List D):List D:=es.filter fun e=> !(seen.map intOf).contains (eH e)
def qC(bx:ae)(x:D)(K:D->ae->Prop)(_:Tok (K .undef bx):=⟨⟩):Prop:=aI (iterAt bx x) fun i=>aI (fq bx i.2.1) fun r=>
 (i.2.2.2.2=[]\/r.2.2=[]\/∃e∈r.2.2,eH e<i.2.2.2.1)/\
 (∀k v b,.tup [k,v,.int .i64 b]∈fa i.2.2.2.2 r.2.2->K (.tup [.bool true,k,v]) (dW bx i.1 (i.2.1:: .int .i64 i.2.2.1:: .int .i64 r.2.1::(i.2.2.2.2++[.int .i64 b]))))/\
 ((∀e∈fa i.2.2.2.2 r.2.2,i.2.2.1<=eH e)->K (.tup [.bool false]) bx)
def bp(n:Nat)(bx:ae):ae:=fun s=>if s<n then bx s else .none
def lQ(lo hi:Nat)(bx bx1:ae):ae:=fun s=>if lo<=s/\s<hi then bx s else bx1 s
inductive bk:D->D->Prop where
 |refl (d:D):bk d d
 |nil (sz:Nat):bk .nilsl (.sl sz [])
 |tup {ds ds':List D} (hl:ds.length=ds'.length) (h:∀(i:Nat) x x',ds[i]? =some x->ds'[i]? =some x'->bk x x'):bk (.tup ds) (.tup ds')
 |agg {ds ds':List D} (hl:ds.length=ds'.length) (h:∀(i:Nat) x x',ds[i]? =some x->ds'[i]? =some x'->bk x x'):bk (.agg ds) (.agg ds')
 |sl {sz:Nat} {ds ds':List D} (hl:ds.length=ds'.length) (hz:∀(i:Nat) x x',ds[i]? =some x->ds'[i]? =some x'->x.cells.length=x'.cells.length)
  (h:∀(i:Nat) x x' (j:Nat) c c',ds[i]? =some x->ds'[i]? =some x'->x.cells[j]? =some c->x'.cells[j]? =some c'->bk c c'):bk (.sl sz ds) (.sl sz ds')
def dV(C:Calc)(f:FuncId)(ds:List D)(bx:ae)(K:Cl->D->ae->Prop)(_:Tok (K .n .undef bx):=⟨⟩):Prop:=
 (∃d,D.aF ds=true/\C.o.to f ds d/\K .n d bx)\/
 (∃ds' d,cg bx ds=some ds'/\C.o.to f ds' d/\d.bare=true/\K .ra d bx)\/
 (∃ds' d,C.lo=0/\cg bx ds=some ds'/\C.o.to f ds' d/\K .wa d (cv bx ds))\/
 (∃bG Pan,C.lo=0/\C.o.oF f C.nxt ds bx bG Pan/\(∀d bx',bG d bx'->K .wa d bx'\/∃r r',bf bx' d=some r/\bk r r'/\K .wa r' (cv bx' [d]))/\∀d bx',Pan d bx'->K (.pan d) .undef bx')
def lF(C:Calc)(l:Nat)(ds:List D)(bx:ae)(K:Cl->D->ae->Prop)(_:Tok (K .n .undef bx):=⟨⟩):Prop:=match C.yl with
 |some (items,gs,l')=>(l'=l/\D.aF ds=true/\items[(bx gs).sz]? =some ds)/\∀bx1:ae,
  K .wa (.bool true) (ao (lQ C.lo C.nxt bx bx1) gs {bx gs with sz:=(bx gs).sz+1})/\
  K .wa (.bool false) (ao (lQ C.lo C.nxt bx bx1) gs {bx gs with sz:=items.length+1})
 |none=>False
def iA(C:Calc)(d:D)(ds:List D)(bx:ae)(K:Cl->D->ae->Prop)(_:Tok (K .n .undef bx):=⟨⟩):Prop:=match d with
 | .fn (.func f) caps=>dV C f (ds++caps) bx K
 | .fn (.yield l) []=>lF C l ds bx K
 | .bfn f fs=>dV C f (fs++ds) bx K
 |_=>False
def cB:Nat:=1000000000
def wY(d:D)(f:D->Prop)(_:Tok (f .undef):=⟨⟩):Prop:=match d with
 | .ifc t v=>f (.ifc t v)
 |_=>False
def vP:D->D->List D->D
 | .any l,fo,args=> .any (.tup (fo::args)::l)
 |_,fo,args=> .any [.tup (fo::args)]
def oY(T:TypeId->TI)(ti:TI)(l c:D):Option (Nat×TypeId×List D):=match ti.k,l,c with
 | .slice el esz bytes _,.int _ n,.int _ m=>if 0<=n/\n<=m/\m * bytes<=140737488355328/\0<esz/\0<bytes/\(T el).size=esz then(fw (T el)).map fun z=>(esz,el,List.replicate n.toNat z)else none
 |_,_,_=>none
def oX(T:TypeId->TI)(ti:TI)(len:Nat)(ps:List (Nat×D)):Option (Nat×TypeId×List D):=
 match ti.k with
 | .slice e esz _ _=>if ps.map (·.1)=List.range len/\ps.all (fun p=>p.2.cells.length==esz&&p.2.cells.all D.one)=true/\0<esz/\len * esz<=65536/\(T e).zero.length=esz then some (esz,e,ps.map (·.2))else none
 |_=>none
def ma:List (Nat×List (Nat×Nat))->Nat->Bool
 |[],_=>false
 |(k,_)::r,d=>if k=1000000+d then true else ma r d
def Mm(tab:List (Nat×List (Nat×Nat))):Option Tmp->Bool
 |some d=>ma tab d
 |none=>false
def gS(b:Nat):Option Tmp->Option Nat
 |some d=>some (b+d)
 |none=>none
def qq(lo:Nat)(bx:ae)(x:D)(ys:List D):Option (Nat×ae):=match x with
 | .nilsl=>some (0,bx)
 | .osl t e sz o n=>if lo<=t/\sz=1/\(bx t).ep=e/\(bx t).k=1/\(bx t).sz=1/\o+n<=(bx t).es.length then
  some (min ys.length n,ao bx t {bx t with es:=(bx t).es.take o++ys.take n++(bx t).es.drop (o+min ys.length n)})else none
 | .csl t e i j n=>if lo<=t/\(bx t).ep=e/\(bx t).k=1 then match(bx t).es[i]? with
  |some d=>(dz d j (ys.take n)).map fun d'=>(min ys.length n,ao bx t {bx t with es:=(bx t).es.set i d'})
  |none=>none
   else none
 |_=>none
def qp(lo:Nat)(ti ti':TI)(bx:ae)(x y:D):Option (Nat×ae):=match ti.k,ti'.k with
 | .slice _ esz _ _,.slice _ _ _ _=>if esz=1 then(ff bx 1 y).bind fun ys=>if ys.all D.one=true then qq lo bx x ys else none else none
 |_,_=>none
def rO(lo:Nat)(T:TypeId->TI)(ts:List TypeId)(bx:ae)(xs:List D):Option (Nat×ae):=match ts,xs with
 |[t,t'],[x,y]=>qp lo (T t) (T t') bx x y
 |_,_=>none
def TK.isMap:TK->Bool
 | .map ..=>true
 |_=>false
def kh(P:Program):Op->Bool
 | .makeMap ..| .mapUpdate ..| .range ..| .next ..| .entry ..=>true
 | .call {callee:= .builtin b,args:=_,argTypes}=>match b with
   | .delete=>true
   | .copy=>true
   | .len=>match argTypes.toList with
     |[T]=>(ak P T).k.isMap
     |_=>false
   |_=>false
 |_=>false
def gJ:Op->Bool
 | .next ..=>true
 | .call {callee:=.builtin .len,..}=>true
 |_=>false
def eW(P:Program)(C:Calc)(dst:Option Tmp)(op:Op)(σ:Env)(bx:ae)(K:Cl->Env->ae->Prop):Prop:=match op with
 | .makeMap T none=>match dst with
   |some d=>K .wa (ao σ d (.omap (C.base+d) ((bx (C.base+d)).ep+1))) (ao bx (C.base+d) ⟨(bx (C.base+d)).ep+1,3,0,T,[.int .i64 0]⟩)
   |none=>False
 | .mapUpdate T m k v=>aI (sS (ak P) (ak P T) bx (ev σ m) (ev σ k) (ev σ v)) fun bx'=>K .wa (put σ dst (.raw undef)) bx'
 | .range T x=>match dst with
   |some d=>aI (uz (ak P T) bx (ev σ x)) fun es=>K .wa (ao σ d (.loc (C.base+d) ((bx (C.base+d)).ep+1) 0 0)) (ao bx (C.base+d) ⟨(bx (C.base+d)).ep+1,3,0,0,es⟩)
   |none=>False
 | .next it false=>qC bx (ev σ it) fun v bx'=>K .wa (put σ dst v) bx'
 | .entry it=>aI (nZ bx (ev σ it)) fun v=>K .wa (put σ dst v) bx
 | .call {callee:= .builtin b,args,argTypes}=>match b with
   | .delete=>aI (s6 (ak P) argTypes.toList bx (args.toList.map (ev σ))) fun bx'=>K .wa (put σ dst (.raw (.tuple #[]))) bx'
   | .len=>aI (ug bx (args.toList.map (ev σ))) fun v=>K .wa (put σ dst v) bx
   | .copy=>aI (rO C.lo (ak P) argTypes.toList bx (args.toList.map (ev σ))) fun r=>K .wa (put σ dst (.int .i64 (r.1:Int))) r.2
   |_=>False
 |_=>False
def px(lo d el esz bytes:Nat)(bx:ae)(x:D)(ys:List D):Option ((D×ae)×(D×ae)):=match x with
 | .osl t e sz o n=>if lo<=t/\sz=esz/\(bx t).ep=e/\(bx t).k=1/\(bx t).sz=sz/\(bx t).ty=el/\o+n<=(bx t).es.length/\(n+ys.length) * bytes<=140737488355328/\0<esz/\0<bytes then
  some ((.osl d ((bx d).ep+1) esz 0 (n+ys.length),ao (ao bx t {bx t with k:=0}) d ⟨(bx d).ep+1,1,esz,el,((bx t).es.drop o).take n++ys⟩),
   (.osl d ((bx d).ep+1) esz o (n+ys.length),ao (ao bx t {bx t with k:=0}) d ⟨(bx d).ep+1,1,esz,el,(bx t).es.take (o+n)++ys⟩))else none
 | .clp sz es=>if sz=esz/\(es.length+ys.length) * bytes<=140737488355328/\0<esz/\0<bytes then
  some ((.osl d ((bx d).ep+1) esz 0 (es.length+ys.length),ao bx d ⟨(bx d).ep+1,1,esz,el,es++ys⟩),(.osl d ((bx d).ep+1) esz 0 (es.length+ys.length),ao bx d ⟨(bx d).ep+1,1,esz,el,es++ys⟩))else none
 | .nilsl=>if ys.length * bytes<=140737488355328/\0<esz/\0<bytes then
  some ((.osl d ((bx d).ep+1) esz 0 ys.length,ao bx d ⟨(bx d).ep+1,1,esz,el,ys⟩),(.osl d ((bx d).ep+1) esz 0 ys.length,ao bx d ⟨(bx d).ep+1,1,esz,el,ys⟩))else none
 |_=>none
def A9(x:D)(bx:ae):Option ((D×ae)×(D×ae)):=match x with
 | .clp sz es=>some ((.sl sz es,bx),(.sl sz es,bx))
 | .nilsl| .osl ..| .sl ..=>some ((x,bx),(x,bx))
 |_=>none
def lj(T:TypeId->TI)(t t':TypeId)(esz el:Nat)(bx:ae)(y:D):Option (List D):=if t=t' then ff bx esz y else match(T t').k,y with
 | .str,.str s=>if(T el).k.lN=true/\esz=1 then some (aV s)else none
 |_,_=>none
def oR(lo:Nat)(T:TypeId->TI)(ti:TI)(t t':TypeId)(dst:Option Tmp)(bx:ae)(x y:D):Option ((D×ae)×(D×ae)):=match ti.k,dst with
 | .slice el esz bytes _,some d=>if(T el).zero.length=esz/\0<esz then(lj T t t' esz el bx y).bind fun ys=>if ys=[]then A9 x bx else px lo d el esz bytes bx x ys else none
 |_,_=>none
def C4(lo:Nat)(T:TypeId->TI)(ts:List TypeId)(dst:Option Tmp)(bx:ae)(xs:List D):Option ((D×ae)×(D×ae)):=match ts,xs with
 |[t,t'],[x,y]=>oR lo T (T t) t t' dst bx x y
 |_,_=>none
def yB(tab:List (Nat×List (Nat×Nat))):Option Tmp->Bool
 |some d=>ma tab (2000000+d)
 |none=>false
def nj(P:Program)(t:TypeId)(name:String):Option FuncId:=match P.info? t,P.underlying t with
 |some i,some d=>match d with
  | .pointer _=>none
  |_=>match i.methods.find? (·.name==name)with
   |some m=>if m.path.size=0 then(match m.func with
    |some (f,false)=>some f
    |_=>none)else none
   |none=>none
 |_,_=>none
def kf(P:Program)(C:Calc)(d:D)(name:String)(ds:List D)(bx:ae)(K:Cl->D->ae->Prop)(_:Tok (K .n .undef bx):=⟨⟩):Prop:=match d with
 | .ifc t d=>aI (nj P t name) fun f=>dV C f (d::ds) bx K
 |_=>False
def dN(P:Program)(C:Calc)(dst:Option Tmp)(op:Op)(σ:Env)(bx:ae)(K:Cl->Env->ae->Prop):Prop:=match op with
 | .buildSlice T n ps=>if Mm C.tab dst=true then (match dst with
   |some d=>aI (oX (ak P) (ak P T) n (ps.toList.map fun p=>(p.1,ev σ p.2))) fun r=>K (.w (C.base+d)) (ao σ d (.osl (C.base+d) ((bx (C.base+d)).ep+1) r.1 0 r.2.2.length)) (ao bx (C.base+d) ⟨(bx (C.base+d)).ep+1,1,r.1,r.2.1,r.2.2⟩)
   |none=>False)else aI (bR P σ bx (.buildSlice T n ps)) fun v=>K .n (put σ dst v) bx
 | .lookup T m k ok=>aI (ni P (ak P) (ak P T) bx (ev σ m) (ev σ k) ok) fun v=>aI (some (rf (ev σ m))) fun c=>K c (put σ dst v) bx
 | .call {callee:=.invoke recv name,args,argTypes:=_}=>kf P C (ev σ recv) name (args.toList.map (ev σ)) bx fun c d bx'=>K c (put σ dst d) bx'
 |op=>if kh P op=true then(gJ op=true->C.pn=true)/\C.lo=0/\eW P C dst op σ bx K else aI (bR P σ bx op) fun v=>K .n (put σ dst v) bx
def aZ(P:Program)(C:Calc)(o:Oper)(σ:Env)(bx:ae)(K:Cl->Env->ae->Prop):Prop:=
 match o.op with
 | .alloc T=>match o.dst with
   |some d=>aI (rz (fw (ak P T)) (mX (ak P T) (zeroV P T))) fun z=>aI (some (ak P T).size) fun s=>K (.w (C.base+d)) (ao σ d (.loc (C.base+d) ((bx (C.base+d)).ep+1) 0 0)) (ao bx (C.base+d) ⟨(bx (C.base+d)).ep+1,1,s,T,[z]⟩)
   |none=>False
 | .box T x=>match o.dst with
   |some d=>aI (rJ (ak P T) (ev σ x)) fun v=>aI (some (ak P T).size) fun s=>K (.w (C.base+d)) (ao σ d (.loc (C.base+d) ((bx (C.base+d)).ep+1) 0 0)) (ao bx (C.base+d) ⟨(bx (C.base+d)).ep+1,1,s,T,[v]⟩)
   |none=>False
 | .store T a x=>aI (pR (ez C.lo (ak P T) bx (ev σ a) (ev σ x)) (mX (ak P T) (zeroV P T)) bx (ev σ a) (ev σ x)) fun bx'=>aI (some (ij (ev σ a))) fun c=>K c (put σ o.dst (.raw undef)) bx'
 | .load T a=>aI (fb (ak P T) bx (ev σ a)) fun v=>aI (some (jQ (ev σ a))) fun c=>K c (put σ o.dst v) bx
 | .call {callee:= .builtin .append,args,argTypes}=>if yB C.tab o.dst=true then (C.pn=true/\aI (C4 C.lo (ak P) argTypes.toList (gS C.base o.dst) bx (args.toList.map (ev σ))) fun r=>K .wa (put σ o.dst r.1.1) r.1.2/\K .wa (put σ o.dst r.2.1) r.2.2) else
   aI (yC C.lo (ak P) argTypes.toList (gS C.base o.dst) bx (args.toList.map (ev σ))) fun r=>K .wa (put σ o.dst r.1) r.2
 | .call {callee:=.value fo,args,argTypes:=_}=>iA C (ev σ fo) (args.toList.map (ev σ)) bx fun c d bx'=>K c (put σ o.dst d) bx'
 | .panic x=>C.pn=true/\wY (ev σ x) fun d=>K (.pan d) σ bx
 | .defer {callee:=.value fo,args,argTypes:=_}=>C.df=true/\(match ev σ fo with| .fn (.func f) caps=>K .n (put (ao σ cB (vP (σ cB) (.fn (.func f) caps) (args.toList.map (ev σ)))) o.dst (.raw undef)) bx|_=>False)
 | .makeSlice T l c=>match o.dst with
   |some d=>aI (oY (ak P) (ak P T) (ev σ l) (ev σ c)) fun r=>K (.w (C.base+d)) (ao σ d (.osl (C.base+d) ((bx (C.base+d)).ep+1) r.1 0 r.2.2.length)) (ao bx (C.base+d) ⟨(bx (C.base+d)).ep+1,1,r.1,r.2.1,r.2.2⟩)
   |none=>False
 |op=>dN P C o.dst op σ bx K
def fF(c:Cl)(x y:Prop)(_:Tok (x/\y):=⟨⟩):Prop:=match c with
 | .pan _=>x
 |_=>y
def lR(P:Program)(C:Calc)(full:List Oper):List Oper->List Cl->Env->ae->(List Cl->Env->ae->Prop)->Prop
 |[],acc,σ,bx,K=>K acc σ bx
 |o::rest,acc,σ,bx,K=>
  match o.guard with
  |none=>aZ P C o σ bx fun c σ' bx'=>fF c (K (c::acc) σ' bx') (lR P C full rest (c::acc) σ' bx' K)
  |some (j,want)=>aI (lk full[j]? σ) fun g=>
   gK g want (aZ P C o σ bx fun c σ' bx'=>fF c (K (c::acc) σ' bx') (lR P C full rest (c::acc) σ' bx' K))
    (lR P C full rest (.n::acc) (put σ o.dst (.raw undef)) bx K)
def ku(P:Program)(C:Calc)(full l:List Oper)(acc:List Cl)(σ:Env)(bx:ae)(K:List Cl->Env->ae->Prop)(_:Tok (full,l):=⟨⟩)(_:Tok (K acc σ bx):=⟨⟩):Prop:=lR P C full l acc σ bx K
def HG(lo:Nat):D->Bool
 | .osl s ..| .csl s ..| .loc s ..=>decide (lo<=s)
 |x=>x.pure
def dF(bx:ae)(s:Nat)(es:List D):ae:=ao (cv bx (bx s).es) s {cv bx (bx s).es s with es:=es}
def pB(lo t:Nat)(σ:Env)(bx:ae):Option (Env×ae):=if t<cB/\(lo=0\/HG lo (σ t)=true)then
 (bf bx (σ t)).map fun v=>(ao σ t v,cY bx (σ t))
 else if lo=0/\2000000000<=t/\(bx (t - 2000000000)).k=1 then(cg bx (bx (t - 2000000000)).es).map fun es=>(σ,dF bx (t - 2000000000) es)else none
def lY(lo:Nat):List Nat->Env->ae->Option (Env×ae)
 |[],σ,bx=>some (σ,bx)
 |t::ts,σ,bx=>(pB lo t σ bx).bind fun s=>lY lo ts s.1 s.2
def pD(acc:List Cl)(x y:Prop)(_:Tok (x/\y):=⟨⟩):Prop:=match acc with
 | .pan _::_=>x
 |_=>y
def ld:List (Nat×Nat)->Nat->List Nat
 |[],_=>[]
 |(a,t)::ps,i=>if a=i then t::ld ps i else ld ps i
def nk(P:Program)(C:Calc)(full:List Oper)(ps:List (Nat×Nat)):Nat->List Oper->List Cl->Env->ae->(List Cl->Env->ae->Prop)->Prop
 |_,[],acc,σ,bx,K=>K acc σ bx
 |i,o::rest,acc,σ,bx,K=>aI (lY C.lo (ld ps i) σ bx) fun s=>ku P C full [o] acc s.1 s.2 fun acc' σ' bx'=>pD acc' (K acc' σ' bx') (nk P C full ps (i+1) rest acc' σ' bx' K)
def DS(P:Program)(C:Calc)(full:List Oper)(ps:List (Nat×Nat))(i:Nat)(l:List Oper)(acc:List Cl)(σ:Env)(bx:ae)(K:List Cl->Env->ae->Prop)(_:Tok (full,l):=⟨⟩)(_:Tok (K acc σ bx):=⟨⟩):Prop:=nk P C full ps i l acc σ bx K
def sk(P:Program)(C:Calc)(full:List Oper)(ps:List (Nat×Nat))(l:List Oper)(acc:List Cl)(σ:Env)(bx:ae)(K:List Cl->Env->ae->Prop)(_:Tok (full,l):=⟨⟩)(_:Tok (K acc σ bx):=⟨⟩):Prop:=match ps with
 |[]=>ku P C full l acc σ bx K
 |p::ps=>nk P C full (p::ps) 0 l acc σ bx K
def ordered(b:Array Nat)(i j:Nat):Bool:=(b.getD (max i j) 0).testBit (min i j)
def tmpsOf(full:List Oper)(o:Oper):List Tmp:=
 o.dst.toList++o.looksAt full.toArray
def cZ:Op->Nat
 | .load ..| .lookup ..=>1
 | .alloc ..| .box ..| .store ..| .makeSlice ..| .buildSlice ..=>2
 | .call {callee:=.builtin .append,..}=>2
 | .call {callee:=.value _,..}=>2
 | .call {callee:=.invoke _ _,..}=>2
 | .call {callee:=.builtin .delete,..}=>2
 | .call {callee:=.builtin .copy,..}=>2
 | .makeMap ..| .mapUpdate ..| .range ..| .entry ..=>2
 |_=>0
def uZ(full:List Oper)(ps:List (Nat×Nat)):Bool:=
 let b:=Region.before full.toArray
 full.zipIdx.all fun(o,j)=>o.after.toList.all (fun e=> !Region.binds .any e||decide (e.on<j))&&
  full.zipIdx.all fun(o',i)=>i==j||ordered b i j||
   (
    (match o'.dst with|some d=> !(tmpsOf full o).contains d|none=>true)&&
    (match o.dst with|some d=> !(tmpsOf full o').contains d|none=>true)&&
    (!(cZ o.op==2&&cZ o'.op != 0)||ps.contains (full.length - 1 - j,full.length - 1 - i)||ps.contains (full.length - 1 - i,full.length - 1 - j)))
inductive mh where
 |fin
 |stop
 |light (i:Nat) (n:mh)
 |load (i s:Nat) (n:mh)
 |both (i:Nat) (fy:List Nat) (a r:mh)
def wR(o:Oper):Bool:=match o.op with
 | .move ..| .assign ..| .pick ..| .binOp ..| .unOp ..| .fieldAddr ..| .field ..| .indexAddr ..| .index ..| .extract ..| .slice ..| .build ..| .nilCheck ..| .makeInterface ..| .typeAssert ..| .makeFunc ..| .convert ..=>true
 |_=>false
def Ak(o:Oper):Bool:=match o.op with
 | .load ..=>true
 |_=>false
def mZ(full:List Oper)(L:Nat->Bool)(i:Nat):Bool:= !L i&&match full[i]? with
 |some o=>o.after.toList.all fun e=> !Region.binds .any e||L e.on
 |none=>false
def iT(L:Nat->Bool)(i:Nat):Nat->Bool:=fun k=>k==i||L k
def cX(full:List Oper):(Nat->Bool)->List (Nat×Nat)->List Nat->mh->Bool
 |L,_,cov,.fin=>cov.isEmpty&&(List.range full.length).all fun j=> !mZ full L j
 |L,_,cov,.stop=> !cov.isEmpty&&(List.range full.length).all fun j=> !mZ full L j||cov.contains j
 |L,F,cov,.light i n=>cov.isEmpty&&mZ full L i&&(match full[i]? with|some o=>wR o|none=>false)&&cX full (iT L i) F [] n
 |L,F,cov,.load i s n=>cov.isEmpty&&mZ full L i&&(match full[i]? with|some o=>Ak o|none=>false)&&cX full (iT L i) ((i,s)::F) [] n
 |L,F,cov,.both i fy a r=>mZ full L i&&(F.all fun p=>ordered (Region.before full.toArray) p.1 i||fy.contains p.2)&&cX full (iT L i) F [] a&&cX full L F (i::cov) r
def tu(full:List Oper):Bool:=
 let b:=Region.before full.toArray
 full.zipIdx.all fun(o,j)=>o.guard.isNone&&o.after.toList.all (fun e=> !Region.binds .any e||decide (e.on<j))&&
  full.zipIdx.all fun(o',i)=>i==j||ordered b i j||
   (
    (match o'.dst with|some d=> !(tmpsOf full o).contains d|none=>true)&&
    (match o.dst with|some d=> !(tmpsOf full o').contains d|none=>true))
def vI(full:List Oper)(t:mh):Bool:=tu full&&cX full (fun _=>false) [] [] t
def km(x:Option Oper)(f:Oper->Prop)(_:Tok f:=⟨⟩):Prop:=match x with
 |some o=>f o
 |none=>False
def qx(base:Nat)(bx bx':ae):List Nat->Prop
 |[]=>True
 |s::l=>bx' (base+s)=bx (base+s)/\qx base bx bx' l
def wX(Pn:D->ae->Prop)(c:Cl)(bx:ae)(_:Tok (Pn .undef bx):=⟨⟩):Prop:=match c with
 | .pan d=>Pn d bx
 |_=>False
def I2(c:Cl)(t:Nat):Prop:=c= .n\/c= .r t
def ta(P:Program)(base s:Nat)(o:Oper)(σ:Env)(bx:ae)(f:Env->Prop)(_:Tok (f σ):=⟨⟩):Prop:=match o.op with
 | .load T a=>I2 (jQ (ev σ a)) (base+s)/\aI (fb (ak P T) bx (ev σ a)) fun v=>f (put σ o.dst v)
 |_=>False
def g_(P:Program)(C:Calc)(full:List Oper)(Pn:D->ae->Prop)(Q:Env->ae->Prop):mh->Env->ae->Prop
 | .fin,σ,bx=>Q σ bx
 | .stop,_,_=>True
 | .light i n,σ,bx=>km full[i]? fun o=>aI (bR P σ bx o.op) fun v=>g_ P C full Pn Q n (put σ o.dst v) bx
 | .load i s n,σ,bx=>km full[i]? fun o=>ta P C.base s o σ bx fun σ'=>g_ P C full Pn Q n σ' bx
 | .both i fy a r,σ,bx=>(km full[i]? fun o=>aZ P C o σ bx fun c σ' bx'=>fF c (wX Pn c bx') (qx C.base bx bx' fy/\g_ P C full Pn Q a σ' bx'))/\g_ P C full Pn Q r σ bx
def oz(P:Program)(C:Calc)(full:List Oper)(t:mh)(Pn:D->ae->Prop)(Q:Env->ae->Prop)(σ:Env)(bx:ae)(_:Tok full:=⟨⟩)(_:Tok (Q σ bx):=⟨⟩):Prop:=g_ P C full Pn Q t σ bx
def vd(P:Program)(C:Calc)(full:List Oper)(Pn:D->ae->Prop)(Q:Env->ae->Prop)(σ:Env)(bx:ae)(_:Tok full:=⟨⟩)(_:Tok (Q σ bx):=⟨⟩):Prop:=∃t,vI full t=true/\oz P ⟨C.o,C.tab,C.base,C.nxt,C.lo,none,false,false⟩ full t Pn Q σ bx
def vf(tab:List (Nat×List (Nat×Nat)))(id:Nat):Bool:=ma tab (1000000+id)
def cj(tab:List (Nat×List (Nat×Nat)))(N:Nat):Code->Bool
 | .region id ops draw=>ops.toList.all (fun o=>match o.dst with|some d=>decide (d<N)|none=>true)&&(!draw||vf tab id||uZ ops.toList (jN tab id))
 | .seq a b=>cj tab N a&&cj tab N b
 | .cond _ x y=>cj tab N x&&cj tab N y
 | .block _ c=>cj tab N c
 | .loop c=>cj tab N c
 | .scope c=>cj tab N c
 | .rangeFunc _ ps a b=>ps.toList.all (fun t=>decide (t<N))&&cj tab N a&&cj tab N b
 |_=>true
inductive DX where
 |normal
 |exit (id:Nat)
 |goto (l:Nat)
 |ret
 |pan (d:D)
def pE(Q:DX->Env->ae->Prop)(acc:List Cl)(σ:Env)(bx:ae):Prop:=match acc with
 | .pan d::_=>Q (.pan d) σ bx
 |_=>Q .normal σ bx
def codeOk(tab:List (Nat×List (Nat×Nat)))(N:Nat)(c:Code):Bool:=decide (N<=1000000000)&&cj tab N c
def cp(K:Env->ae->Prop)(Q:DX->Env->ae->Prop):DX->Env->ae->Prop
 | .normal,σ,bx=>K σ bx
 |e,σ,bx=>Q e σ bx
def mn(id:Nat)(Q:DX->Env->ae->Prop):DX->Env->ae->Prop
 | .exit id',σ,bx=>if id'=id then Q .normal σ bx else Q (.exit id') σ bx
 |e,σ,bx=>Q e σ bx
def pT(Q:DX->Env->ae->Prop):DX->Env->ae->Prop
 | .goto _,_,_=>False
 |e,σ,bx=>Q e σ bx
def MN(C:Calc)(d:D)(K:List (List D)->Nat->Prop):Prop:=∃f caps items ext,d= .fn (.func f) caps/\D.aF caps=true/\C.o.it f caps items ext/\K items ext
def MM(C:Calc)(d:D)(bx:ae)(K:Nat->List (List D)->Option D->Nat->Prop):Prop:=∃f t e b items pd ext,d= .fn (.func f) [.loc t e 0 0]/\t<C.nxt/\bx t=⟨e,1,b.sz,b.ty,b.es⟩/\C.o.itB f b items pd ext/\K t items pd ext
def wW(Q:DX->Env->ae->Prop)(σ:Env)(bx:ae):Option D->Prop
 |none=>Q .normal σ bx
 |some d=>Q (.pan d) σ bx
def gD(σ:Env):List Tmp->List D->Env
 |t::ts,d::ds=>gD (ao σ t d) ts ds
 |_,_=>σ
def lz(nxt ext:Nat)(J:Nat->ae->Prop)(n:Nat)(Q:DX->Env->ae->Prop)(σ:Env)(bx1:ae):DX->Env->ae->Prop:=fun e _ bx'=>
 (∀s,nxt<=s->s<nxt+ext->bx' s=bx1 s)/\match e with
  | .normal=>J (n+1) (bp nxt bx')
  | .ret=>∀bx2,bp nxt bx2=bp nxt bx'->Q .ret σ bx2
  | .exit id=>∀bx2,bp nxt bx2=bp nxt bx'->Q (.exit id) σ bx2
  |_=>False
def xT:DX->Env->ae->Prop:=fun _ _ _=>False
def Gy(C:Calc)(bx bx':ae):Prop:=bx'=bx\/(C.lo=0/\∃s es,(bx s).k=1/\cg bx (bx s).es=some es/\bx'=dF bx s es)
set_option linter.unusedVariables false in
def cR(P:Program):Calc->Code->(DX->Env->ae->Prop)->Env->ae->Prop
 |C,.skip,Q,σ,bx=>Q .normal σ bx
 |C,.region id ops false,Q,σ,bx=>sk P C ops.toList (jN C.tab (4000000+id)) ops.toList [] σ bx fun acc σ' bx'=>pE Q acc σ' bx'
 |C,.region id ops true,Q,σ,bx=>if vf C.tab id=true then vd P C ops.toList (fun d bx=>∀σ,Q (.pan d) σ bx) (Q .normal) σ bx else ku P C.tF ops.toList ops.toList [] σ bx fun acc σ' bx'=>xv (jN C.tab id) acc/\Q .normal σ' bx'
 |C,.seq a b,Q,σ,bx=>cR P C a (cp (cR P C b Q) Q) σ bx
 |C,.cond c x y,Q,σ,bx=>u0 (ev σ c) (cR P C x Q σ bx) (cR P C y Q σ bx)
 |C,.block id c,Q,σ,bx=>cR P C c (mn id Q) σ bx
 |C,.loop c,Q,σ,bx=>∃(I:Env->ae->Prop) (μ:Env->ae->Nat),I σ bx/\∀σ bx,I σ bx->∃bx0,Gy C bx bx0/\cR P C c (cp (fun σ' bx'=>I σ' bx'/\μ σ' bx'<μ σ bx) Q) σ bx0
 |C,.scope c,Q,σ,bx=>cR P C c (pT Q) σ bx
 |C,.exit id,Q,σ,bx=>Q (.exit id) σ bx
 |C,.ret,Q,σ,bx=>Q .ret σ bx
 |C,.label _,Q,σ,bx=>Q .normal σ bx
 |C,.rangeFunc g ps assign body,Q,σ,bx=>C.lo=0/\C.yl=none/\((MN C (ev σ g) fun items ext=>∃J:Nat->ae->Prop,J 0 (bp C.nxt bx)/\
  (∀n it bx1,items[n]? =some it->J n (bp C.nxt bx1)->it.length=ps.size/\
   cR P ⟨C.o,C.tab,C.base,C.nxt+ext,C.lo,C.yl,false,false⟩ assign (cp (cR P ⟨C.o,C.tab,C.base,C.nxt+ext,C.lo,C.yl,false,false⟩ body (lz C.nxt ext J n Q σ bx1)) xT) (gD σ ps.toList it) bx1)/\
  ∀bx1,J items.length (bp C.nxt bx1)->Q .normal σ bx1)\/
  (MM C (ev σ g) bx fun t items pd ext=>∃J:Nat->ae->Prop,J 0 (bp C.nxt (ao bx t {bx t with k:=0}))/\
   (∀n it bx1,items[n]? =some it->J n (bp C.nxt bx1)->it.length=ps.size/\
    cR P ⟨C.o,C.tab,C.base,C.nxt+ext,C.lo,C.yl,false,false⟩ assign (cp (cR P ⟨C.o,C.tab,C.base,C.nxt+ext,C.lo,C.yl,false,false⟩ body (lz C.nxt ext J n Q σ bx1)) xT) (gD σ ps.toList it) bx1)/\
   ∀bx1,J items.length (bp C.nxt bx1)->wW Q σ bx1 pd))
 |_,_,_,_,_=>False
def cD(P:Program)(C:Calc)(c:Code)(Q:DX->Env->ae->Prop)(σ:Env)(bx:ae)(_:Tok c:=⟨⟩)(_:Tok (Q .normal σ bx):=⟨⟩):Prop:=cR P C c Q σ bx
def kB(P:Program)(σ:Env)(bx:ae):ResultVar->Option D
 | .tmp t=>some (σ t)
 | .cell a T=>fb (ak P T) bx (σ a)
def fN(P:Program)(σ:Env)(bx:ae):List ResultVar->Option (List D)
 |[]=>some []
 |r::rs=>iB (kB P σ bx r) (fN P σ bx rs)
def iG:List D->D
 |[d]=>d
 |ds=> .tup ds
def Ed(P:Program)(rv:List ResultVar)(d:D):DX->Env->ae->Prop
 | .normal,σ,bx| .ret,σ,bx=>aI (fN P σ bx rv) fun rs=>aI (bf bx (iG rs)) fun r=>bk r d
 |_,_,_=>False
def aR:Nat->List D->Env
 |_,[]=>fun _=> .raw undef
 |n,d::ds=>ao (aR (n+1) ds) n d
def lI(P:Program)(O:eF)(tab:List (Nat×List (Nat×Nat)))(fn:Func)(ds:List D)(d:D):Prop:=
 ∃c,fn.body=some c/\codeOk tab fn.ntmps c=true/\cD P ⟨O,tab,0,fn.ntmps,0,none,false,false⟩ c (Ed P fn.results.toList d) (aR 0 ds) (fun _=> .none)
def uy(P:Program)(rv:List ResultVar)(bG Pan:D->ae->Prop):DX->Env->ae->Prop
 | .normal,σ,bx| .ret,σ,bx=>aI (fN P σ bx rv) fun rs=>bG (iG rs) bx
 | .pan d,_,bx=>Pan d bx
 |_,_,_=>False
def iI(P:Program)(O:eF)(tab:List (Nat×List (Nat×Nat)))(fn:Func)(base:Nat)(ds:List D)(bx:ae)(bG Pan:D->ae->Prop):Prop:=
 ∃c,fn.body=some c/\codeOk tab fn.ntmps c=true/\cD P ⟨O,tab,base,base+fn.ntmps,0,none,true,false⟩ c (uy P fn.results.toList bG Pan) (aR 0 ds) bx
def Eb(gs n:Nat):DX->Env->ae->Prop
 | .normal,_,bx| .ret,_,bx=>n<=(bx gs).sz
 |_,_,_=>False
def vT(gs n:Nat)(pd:Option D):DX->Env->ae->Prop
 | .normal,_,bx| .ret,_,bx=>n<=(bx gs).sz/\(pd=none\/n<(bx gs).sz)
 | .pan d,_,bx=>pd=some d/\(bx gs).sz=n
 |_,_,_=>False
def Hh(P:Program)(O:eF)(tab:List (Nat×List (Nat×Nat)))(fn:Func)(b:Bx)(items:List (List D))(pd:Option D):Prop:=
 ∃c,fn.body=some c/\codeOk tab fn.ntmps c=true/\fn.results.toList=[]/\∀(gs l e:Nat) (bx:ae),(bx gs).k=0->(bx gs).sz=0->bx (gs+1)=⟨e,1,b.sz,b.ty,b.es⟩->
  cD P ⟨O,tab,gs+2,gs+2+fn.ntmps,gs+1,some (items,gs,l),true,false⟩ c (vT gs items.length pd) (aR 0 [.fn (.yield l) [],.loc (gs+1) e 0 0]) bx
def IV(P:Program)(O:eF)(tab:List (Nat×List (Nat×Nat)))(fn:Func)(caps:List D)(items:List (List D)):Prop:=
 ∃c,fn.body=some c/\codeOk tab fn.ntmps c=true/\fn.results.toList=[]/\∀(gs l:Nat) (bx:ae),(bx gs).k=0->(bx gs).sz=0->
  cD P ⟨O,tab,gs+1,gs+1+fn.ntmps,gs+1,some (items,gs,l),false,false⟩ c (Eb gs items.length) (aR 0 (.fn (.yield l) []::caps)) bx
end Go.V
namespace Go.V
open Go.RowKit
theorem lO{α:Type}(p q:Prop)[Decidable p][Decidable q](x y:α):(if p/\q then x else y)=if p then(if q then x else y)else y:=by by_cases hp:p<;>by_cases hq:q<;>simp[hp,hq]
variable {P:Program} {C:Calc} {Q:DX->Env->ae->Prop} {σ:Env} {bx:ae}
attribute [go_sem] Nat.le_add_right Bool.false_eq_true eq_self decide_true decide_false Nat.zero_le Nat.le_refl cO List.take_succ_cons List.take_zero List.drop_succ_cons List.drop_zero List.getElem?_cons_zero List.getElem?_cons_succ List.length_cons List.length_nil Option.map_some Option.map_none Option.bind_some List.length_map List.getElem?_map Int.toNat_natCast List.map_cons List.map_nil List.cons_append List.nil_append List.append_nil Nat.zero_add Nat.add_zero List.set_cons_zero List.set_cons_succ Bool.not_not Bool.not_true Bool.not_false Int.natCast_zero
@[go_sem] theorem Vv{α:Type}(σ:Nat->α)(t:Nat)(v:α)(x:Nat):ao σ t v x=if x=t then v else σ x:=ax
@[go_sem] theorem kY{α:Type}(v:α)(f:α->Prop):aI (some v) f=f v:=ax
@[go_sem] theorem Dd(x y:Prop):eZ true x y=x:=by simp[eZ]
@[go_sem] theorem Bv(x y:Prop):eZ false x y=y:=by simp[eZ]
@[go_sem] theorem PX(b:Bool)(x y:Prop):eZ (!b) x y=eZ b y x:=by cases b<;>simp[eZ]
theorem an{b:Bool}{x y:Prop}(h1:b=true->x)(h2:b=false->y):eZ b x y:=by
 cases b
 ·exact h2 rfl
 ·exact h1 rfl
@[go_sem ↓] theorem Ua:cD P C .skip Q σ bx=Q .normal σ bx:=ax
@[go_sem ↓] theorem Nu(id:Nat)(l:List Oper):cD P C (.region id l.toArray false) Q σ bx=sk P C l (jN C.tab (4000000+id)) l [] σ bx fun acc σ' bx'=>pE Q acc σ' bx':=by simp[cD,cR]
@[go_sem ↓] theorem Ta{full l:List Oper}{acc:List Cl}{K:List Cl->Env->ae->Prop}:sk P C full [] l acc σ bx K=ku P C full l acc σ bx K:=ax
@[go_sem ↓] theorem QJ{full l:List Oper}{acc:List Cl}{K:List Cl->Env->ae->Prop}(p:Nat×Nat)(ps:List (Nat×Nat)):sk P C full (p::ps) l acc σ bx K=DS P C full (p::ps) 0 l acc σ bx K:=ax
@[go_sem ↓] theorem Tb{full:List Oper}{acc:List Cl}{K:List Cl->Env->ae->Prop}(ps:List (Nat×Nat))(i:Nat):DS P C full ps i [] acc σ bx K=K acc σ bx:=ax
@[go_sem ↓] theorem QK{full rest:List Oper}{o:Oper}{acc:List Cl}{K:List Cl->Env->ae->Prop}(ps:List (Nat×Nat))(i:Nat):DS P C full ps i (o::rest) acc σ bx K=aI (lY C.lo (ld ps i) σ bx) fun s=>ku P C full [o] acc s.1 s.2 fun acc' σ' bx'=>pD acc' (K acc' σ' bx') (DS P C full ps (i+1) rest acc' σ' bx' K):=ax
@[go_sem] theorem Ou(i:Nat):ld [] i=[]:=ax
@[go_sem] theorem NB(a t i:Nat)(ps:List (Nat×Nat)):ld ((a,t)::ps) i=if a=i then t::ld ps i else ld ps i:=ax
@[go_sem] theorem Qh(lo:Nat):lY lo [] σ bx=some (σ,bx):=ax
@[go_sem] theorem OD(lo t:Nat)(ts:List Nat):lY lo (t::ts) σ bx=(pB lo t σ bx).bind fun s=>lY lo ts s.1 s.2:=ax
@[go_sem] theorem Vn(acc:List Cl)(x y:Prop):pD (.n::acc) x y=y:=ax
@[go_sem] theorem Vo(t:Nat)(acc:List Cl)(x y:Prop):pD (.r t::acc) x y=y:=ax
@[go_sem] theorem Vp(t:Nat)(acc:List Cl)(x y:Prop):pD (.w t::acc) x y=y:=ax
@[go_sem] theorem UJ(acc:List Cl)(x y:Prop):pD (.wa::acc) x y=y:=ax
@[go_sem] theorem Qg(t:Nat)(h:t<1000000000):pB 0 t σ bx=(bf bx (σ t)).map fun v=>(ao σ t v,cY bx (σ t)):=by simp[pB,cB,h]
@[go_sem] theorem Qf(t:Nat)(h:2000000000<=t):pB 0 t σ bx=if(bx (t - 2000000000)).k=1 then(cg bx (bx (t - 2000000000)).es).map fun es=>(σ,dF bx (t - 2000000000) es)else none:=by
 have:¬t<1000000000:=oM;simp[pB,cB,h,this]
@[go_sem ↓] theorem Nv(id:Nat)(l:List Oper):cD P C (.region id l.toArray true) Q σ bx=if vf C.tab id=true then vd P C l (fun d bx=>∀σ,Q (.pan d) σ bx) (fun σ bx=>Q .normal σ bx) σ bx else ku P C.tF l l [] σ bx fun acc σ' bx'=>xv (jN C.tab id) acc/\Q .normal σ' bx':=by simp[cD,cR,ku]
@[go_sem] theorem Ov(tab:List (Nat×List (Nat×Nat)))(id:Nat):vf tab id=ma tab (1000000+id):=ax
theorem fQ{full:List Oper}{Pn:D->ae->Prop}{Q:Env->ae->Prop}(t:mh)(h:vI full t=true)(hs:oz P ⟨C.o,C.tab,C.base,C.nxt,C.lo,none,false,false⟩ full t Pn Q σ bx):vd P C full Pn Q σ bx:=⟨t,h,hs⟩
@[go_sem ↓] theorem TH{full:List Oper}{Pn:D->ae->Prop}{Q:Env->ae->Prop}:oz P C full .fin Pn Q σ bx=Q σ bx:=ax
@[go_sem ↓] theorem Q1{full:List Oper}{Pn:D->ae->Prop}{Q:Env->ae->Prop}:oz P C full .stop Pn Q σ bx=True:=ax
@[go_sem ↓] theorem O1{full:List Oper}{Pn:D->ae->Prop}{Q:Env->ae->Prop}(i:Nat)(n:mh):oz P C full (.light i n) Pn Q σ bx=km full[i]? fun o=>aI (bR P σ bx o.op) fun v=>oz P C full n Pn Q (put σ o.dst v) bx:=ax
@[go_sem ↓] theorem Q0{full:List Oper}{Pn:D->ae->Prop}{Q:Env->ae->Prop}(i s:Nat)(n:mh):oz P C full (.load i s n) Pn Q σ bx=km full[i]? fun o=>ta P C.base s o σ bx fun σ'=>oz P C full n Pn Q σ' bx:=ax
@[go_sem ↓] theorem QZ{full:List Oper}{Pn:D->ae->Prop}{Q:Env->ae->Prop}(i:Nat)(fy:List Nat)(a r:mh):oz P C full (.both i fy a r) Pn Q σ bx=((km full[i]? fun o=>aZ P C o σ bx fun c σ' bx'=>fF c (wX Pn c bx') (qx C.base bx bx' fy/\oz P C full a Pn Q σ' bx'))/\oz P C full r Pn Q σ bx):=ax
@[go_sem] theorem PI(o:Oper)(f:Oper->Prop):km (some o) f=f o:=ax
@[go_sem] theorem Qs(b:Nat)(bx bx':ae):qx b bx bx' []=True:=ax
@[go_sem] theorem OI(b s:Nat)(bx bx':ae)(l:List Nat):qx b bx bx' (s::l)=(bx' (b+s)=bx (b+s)/\qx b bx bx' l):=ax
@[go_sem] theorem Tm(Pn:D->ae->Prop)(d:D)(bx:ae):wX Pn (.pan d) bx=Pn d bx:=ax
@[go_sem] theorem Vz(s t:Nat):I2 (.r s) t=(s=t):=by simp[I2]
@[go_sem ↓] theorem SK{dst:Option Tmp}{T:TypeId}{a:Operand}{ty pos af g}(base s:Nat)(f:Env->Prop):ta P base s ⟨dst,.load T a,ty,pos,af,g⟩ σ bx f=(I2 (jQ (ev σ a)) (base+s)/\aI (fb (ak P T) bx (ev σ a)) fun v=>f (put σ dst v)):=ax
@[go_sem ↓] theorem U7(a b:Code):cD P C (.seq a b) Q σ bx=cD P C a (cp (fun σ bx=>cD P C b Q σ bx) Q) σ bx:=ax
@[go_sem] theorem Oq(t:Bool)(x y:Prop):u0 (.bool t) x y=eZ t x y:=ax
@[go_sem ↓] theorem T9(c:Operand)(x y:Code):cD P C (.cond c x y) Q σ bx=u0 (ev σ c) (cD P C x Q σ bx) (cD P C y Q σ bx):=ax
@[go_sem ↓] theorem RL(id:Nat)(c:Code):cD P C (.block id c) Q σ bx=cD P C c (mn id Q) σ bx:=ax
@[go_sem ↓] theorem RO(c:Code):cD P C (.scope c) Q σ bx=cD P C c (pT Q) σ bx:=ax
@[go_sem ↓] theorem KO:pT Q .normal σ bx=Q .normal σ bx:=ax
@[go_sem ↓] theorem O3:pT Q .ret σ bx=Q .ret σ bx:=ax
@[go_sem ↓] theorem NQ(id:Nat):pT Q (.exit id) σ bx=Q (.exit id) σ bx:=ax
@[go_sem ↓] theorem T_(id:Nat):cD P C (.exit id) Q σ bx=Q (.exit id) σ bx:=ax
@[go_sem ↓] theorem U6:cD P C .ret Q σ bx=Q .ret σ bx:=ax
@[go_sem ↓] theorem RN(l:Nat):cD P C (.label l) Q σ bx=Q .normal σ bx:=ax
theorem Ca{c:Code}(I:Env->ae->Prop)(μ:Env->ae->Nat)(h0:I σ bx)(h:∀σ bx,I σ bx->cD P C c (cp (fun σ' bx'=>I σ' bx'/\μ σ' bx'<μ σ bx) Q) σ bx):
 cD P C (.loop c) Q σ bx:=⟨I,μ,h0,fun σ bx hi=>⟨bx,.inl rfl,h σ bx hi⟩⟩
@[go_sem ↓] theorem Vr(acc:List Cl):pE Q (.n::acc) σ bx=Q .normal σ bx:=ax
@[go_sem ↓] theorem Vs(t:Nat)(acc:List Cl):pE Q (.r t::acc) σ bx=Q .normal σ bx:=ax
@[go_sem ↓] theorem Vt(t:Nat)(acc:List Cl):pE Q (.w t::acc) σ bx=Q .normal σ bx:=ax
@[go_sem ↓] theorem UN(acc:List Cl):pE Q (.wa::acc) σ bx=Q .normal σ bx:=ax
@[go_sem ↓] theorem Tv(d:D)(acc:List Cl):pE Q (.pan d::acc) σ bx=Q (.pan d) σ bx:=ax
@[go_sem ↓] theorem Ue(x y:Prop):fF .n x y=y:=ax
@[go_sem ↓] theorem Uf(t:Nat)(x y:Prop):fF (.r t) x y=y:=ax
@[go_sem ↓] theorem Ug(t:Nat)(x y:Prop):fF (.w t) x y=y:=ax
@[go_sem ↓] theorem RY(x y:Prop):fF .ra x y=y:=ax
@[go_sem ↓] theorem RZ(x y:Prop):fF .wa x y=y:=ax
@[go_sem ↓] theorem PY(d:D)(x y:Prop):fF (.pan d) x y=x:=ax
@[go_sem ↓] theorem Rh(K:Env->ae->Prop)(d:D):cp K Q (.pan d) σ bx=Q (.pan d) σ bx:=ax
@[go_sem ↓] theorem Of(id:Nat)(d:D):mn id Q (.pan d) σ bx=Q (.pan d) σ bx:=ax
@[go_sem ↓] theorem O2(d:D):pT Q (.pan d) σ bx=Q (.pan d) σ bx:=ax
@[go_sem ↓] theorem M8(K:Env->ae->Prop):cp K Q .normal σ bx=K σ bx:=ax
@[go_sem ↓] theorem Ri(K:Env->ae->Prop):cp K Q .ret σ bx=Q .ret σ bx:=ax
@[go_sem ↓] theorem Pr(K:Env->ae->Prop)(id:Nat):cp K Q (.exit id) σ bx=Q (.exit id) σ bx:=ax
@[go_sem ↓] theorem KK(id:Nat):mn id Q .normal σ bx=Q .normal σ bx:=ax
@[go_sem ↓] theorem Og(id:Nat):mn id Q .ret σ bx=Q .ret σ bx:=ax
@[go_sem ↓] theorem Nr(id id':Nat):mn id Q (.exit id') σ bx=if id'=id then Q .normal σ bx else Q (.exit id') σ bx:=ax
theorem ar{p:Prop}[Decidable p]{x y:Prop}(h1:p->x)(h2:¬p->y):eZ (decide p) x y:=by
 by_cases h:p
 ·simp only[h,decide_true,Dd];exact h1 h
 ·simp only[h,decide_false,Bv];exact h2 h
theorem rN{p:Prop}[Decidable p]{x y:Prop}(h:p)(h1:x):eZ (decide p) x y:=ar (fun _=>h1) (fun n=>absurd h n)
theorem zx{p:Prop}[Decidable p]{x y:Prop}(h:¬p)(h1:y):eZ (decide p) x y:=ar (fun n=>absurd n h) (fun _=>h1)
attribute [go_sem] decide_true decide_false not_true_eq_false not_false_eq_true
@[go_sem] theorem PF(n:Nat):aR n []=fun _=> .raw undef:=ax
@[go_sem] theorem Ob(n:Nat)(d:D)(ds:List D):aR n (d::ds)=ao (aR (n+1) ds) n d:=ax
theorem aw{O:eF}{tab:List (Nat×List (Nat×Nat))}{fn:Func}{ds:List D}{d:D}(c:Code)(rv:List ResultVar)(n:Nat)(hc:fn.body=some c)(hr:fn.results=rv.toArray)(hn:fn.ntmps=n)(hok:codeOk tab n c=true)
 (h:cD P ⟨O,tab,0,n,0,none,false,false⟩ c (Ed P rv d) (aR 0 ds) (fun _=> .none)):lI P O tab fn ds d:=by
 subst hn;refine⟨c,hc,hok,?_⟩;rw[hr];simpa using h
theorem aH{O:eF}{tab:List (Nat×List (Nat×Nat))}{fn:Func}{base:Nat}{ds:List D}{bx:ae}{bG Pan:D->ae->Prop}(c:Code)(rv:List ResultVar)(n:Nat)(hc:fn.body=some c)(hr:fn.results=rv.toArray)(hn:fn.ntmps=n)(hok:codeOk tab n c=true)
 (h:cD P ⟨O,tab,base,base+n,0,none,true,false⟩ c (uy P rv bG Pan) (aR 0 ds) bx):iI P O tab fn base ds bx bG Pan:=by
 subst hn;refine⟨c,hc,hok,?_⟩;rw[hr];simpa using h
theorem Ff{O:eF}{tab:List (Nat×List (Nat×Nat))}{fn:Func}{caps:List D}{items:List (List D)}(c:Code)(n:Nat)(hc:fn.body=some c)(hr:fn.results= #[])(hn:fn.ntmps=n)(hok:codeOk tab n c=true)
 (h:∀(gs l:Nat) (bx:ae),(bx gs).k=0->(bx gs).sz=0->cD P ⟨O,tab,gs+1,gs+1+n,gs+1,some (items,gs,l),false,false⟩ c (Eb gs items.length) (aR 0 (.fn (.yield l) []::caps)) bx):IV P O tab fn caps items:=by
 subst hn;refine⟨c,hc,hok,by rw[hr],h⟩
@[go_sem ↓] theorem TA(rv:List ResultVar)(bG Pan:D->ae->Prop)(d:D):uy P rv bG Pan (.pan d) σ bx=Pan d bx:=ax
@[go_sem ↓] theorem TB(rv:List ResultVar)(bG Pan:D->ae->Prop):uy P rv bG Pan .ret σ bx=aI (fN P σ bx rv) fun rs=>bG (iG rs) bx:=ax
@[go_sem ↓] theorem NN(rv:List ResultVar)(bG Pan:D->ae->Prop):uy P rv bG Pan .normal σ bx=aI (fN P σ bx rv) fun rs=>bG (iG rs) bx:=ax
@[go_sem ↓] theorem TC(gs n:Nat):Eb gs n .ret σ bx=(n<=(bx gs).sz):=ax
@[go_sem ↓] theorem NO(gs n:Nat):Eb gs n .normal σ bx=(n<=(bx gs).sz):=ax
@[go_sem] theorem Ol(f:Nat)(caps ds:List D)(K:Cl->D->ae->Prop):iA C (.fn (.func f) caps) ds bx K=dV C f (ds++caps) bx K:=ax
@[go_sem] theorem Nw(l:Nat)(ds:List D)(K:Cl->D->ae->Prop):iA C (.fn (.yield l) []) ds bx K=lF C l ds bx K:=ax
@[go_sem] theorem Oe:gD σ [] []=σ:=ax
@[go_sem] theorem Nq(t:Nat)(ts:List Nat)(d:D)(ds:List D):gD σ (t::ts) (d::ds)=gD (ao σ t d) ts ds:=ax
@[go_sem] theorem Ui(n s:Nat):bp n bx s=if s<n then bx s else .none:=ax
@[go_sem] theorem Uy(lo hi s:Nat)(bx1:ae):lQ lo hi bx bx1 s=if lo<=s then(if s<hi then bx s else bx1 s)else bx1 s:=by unfold lQ;by_cases h1:lo<=s<;>by_cases h2:s<hi<;>simp[h1,h2]
theorem nH{items:List (List D)}{gs l:Nat}{ds:List D}{K:Cl->D->ae->Prop}(hy:C.yl=some (items,gs,l))(hp:D.aF ds=true)(hi:items[(bx gs).sz]? =some ds)
 (hk:∀bx1:ae,K .wa (.bool true) (ao (lQ C.lo C.nxt bx bx1) gs {bx gs with sz:=(bx gs).sz+1})/\K .wa (.bool false) (ao (lQ C.lo C.nxt bx bx1) gs {bx gs with sz:=items.length+1})):lF C l ds bx K:=by
 unfold lF;rw[hy];exact⟨⟨rfl,hp,hi⟩,hk⟩
theorem GG{pn df:Bool}{o:eF}{tab:List (Nat×List (Nat×Nat))}{base nxt:Nat}{g:Operand}{ps:List Tmp}{assign body:Code}(f:FuncId)(caps:List D)(items:List (List D))(ext:Nat)(J:Nat->ae->Prop)(hg:ev σ g= .fn (.func f) caps)(hp:D.aF caps=true)(hit:o.it f caps items ext)
 (h0:J 0 (bp nxt bx)) (hr:∀n it bx1,items[n]? =some it->J n (bp nxt bx1)->it.length=ps.length/\
  cD P ⟨o,tab,base,nxt+ext,0,none,false,false⟩ assign (cp (fun σ' bx'=>cD P ⟨o,tab,base,nxt+ext,0,none,false,false⟩ body (lz nxt ext J n Q σ bx1) σ' bx') xT) (gD σ ps it) bx1)
 (hq:∀bx1,J items.length (bp nxt bx1)->Q .normal σ bx1):cD P ⟨o,tab,base,nxt,0,none,pn,df⟩ (.rangeFunc g ps.toArray assign body) Q σ bx:=
 ⟨rfl,rfl,.inl ⟨f,caps,items,ext,hg,hp,hit,J,h0,fun n it bx1 h1 h2=>by have:=hr n it bx1 h1 h2;exact⟨by simpa using this.1,by simpa only[cD]using this.2⟩,hq⟩⟩
theorem xu{pn df:Bool}{o:eF}{tab:List (Nat×List (Nat×Nat))}{base nxt:Nat}{g:Operand}{ps:List Tmp}{assign body:Code}(f:FuncId)(t e:Nat)(b:Bx)(items:List (List D))(pd:Option D)(ext:Nat)(J:Nat->ae->Prop)(hg:ev σ g= .fn (.func f) [.loc t e 0 0])(ht:t<nxt)(hb:bx t=⟨e,1,b.sz,b.ty,b.es⟩)(hit:o.itB f b items pd ext)
 (h0:J 0 (bp nxt (ao bx t {bx t with k:=0}))) (hr:∀n it bx1,items[n]? =some it->J n (bp nxt bx1)->it.length=ps.length/\
  cD P ⟨o,tab,base,nxt+ext,0,none,false,false⟩ assign (cp (fun σ' bx'=>cD P ⟨o,tab,base,nxt+ext,0,none,false,false⟩ body (lz nxt ext J n Q σ bx1) σ' bx') xT) (gD σ ps it) bx1)
 (hq:∀bx1,J items.length (bp nxt bx1)->wW Q σ bx1 pd):cD P ⟨o,tab,base,nxt,0,none,pn,df⟩ (.rangeFunc g ps.toArray assign body) Q σ bx:=
 ⟨rfl,rfl,.inr ⟨f,t,e,b,items,pd,ext,hg,ht,hb,hit,J,h0,fun n it bx1 h1 h2=>by have:=hr n it bx1 h1 h2;exact⟨by simpa using this.1,by simpa only[cD]using this.2⟩,hq⟩⟩
theorem vn{O:eF}{tab:List (Nat×List (Nat×Nat))}{fn:Func}{b:Bx}{items:List (List D)}{pd:Option D}(c:Code)(n:Nat)(hc:fn.body=some c)(hr:fn.results= #[])(hn:fn.ntmps=n)(hok:codeOk tab n c=true)
 (h:∀(gs l e:Nat) (bx:ae),(bx gs).k=0->(bx gs).sz=0->bx (gs+1)=⟨e,1,b.sz,b.ty,b.es⟩->cD P ⟨O,tab,gs+2,gs+2+n,gs+1,some (items,gs,l),true,false⟩ c (vT gs items.length pd) (aR 0 [.fn (.yield l) [],.loc (gs+1) e 0 0]) bx):Hh P O tab fn b items pd:=by
 subst hn;refine⟨c,hc,hok,by rw[hr],h⟩
@[go_sem ↓] theorem QY(gs n:Nat)(pd:Option D):vT gs n pd .ret σ bx=(n<=(bx gs).sz/\(pd=none\/n<(bx gs).sz)):=ax
@[go_sem ↓] theorem MT(gs n:Nat)(pd:Option D):vT gs n pd .normal σ bx=(n<=(bx gs).sz/\(pd=none\/n<(bx gs).sz)):=ax
@[go_sem ↓] theorem QX(gs n:Nat)(pd:Option D)(d:D):vT gs n pd (.pan d) σ bx=(pd=some d/\(bx gs).sz=n):=ax
@[go_sem ↓] theorem KN(nxt ext n:Nat)(J:Nat->ae->Prop)(σ':Env)(bx1:ae):lz nxt ext J n Q σ bx1 .normal σ' bx=((∀s,nxt<=s->s<nxt+ext->bx s=bx1 s)/\J (n+1) (bp nxt bx)):=ax
@[go_sem ↓] theorem TF(rv:List ResultVar)(d:D):Ed P rv d .ret σ bx=aI (fN P σ bx rv) fun rs=>aI (bf bx (iG rs)) fun r=>bk r d:=ax
@[go_sem] theorem Ot(x:D)(xs:List D):iB (some x) (some xs)=some (x::xs):=ax
@[go_sem] theorem Tz:fN P σ bx []=some []:=ax
@[go_sem] theorem QW(r:ResultVar)(rs:List ResultVar):fN P σ bx (r::rs)=iB (kB P σ bx r) (fN P σ bx rs):=ax
@[go_sem] theorem Tx(t:Nat):kB P σ bx (.tmp t)=some (σ t):=ax
@[go_sem] theorem QV(t T:Nat):kB P σ bx (.cell t T)=fb (ak P T) bx (σ t):=ax
@[go_sem] theorem TX(d:D):iG [d]=d:=ax
@[go_sem] theorem TY(d e:D)(ds:List D):iG (d::e::ds)= .tup (d::e::ds):=ax
@[go_sem] theorem TW:iG []= .tup []:=ax
@[go_sem] theorem kx:cg bx []=some []:=by simp[cg]
@[go_sem] theorem cQ(d:D)(ds:List D):cg bx (d::ds)=iB (bf bx d) (cg bx ds):=by simp only[cg]
@[go_sem] theorem Ti(k:IntKind)(n:Int):bf bx (.int k n)=some (.int k n):=by simp[bf]
@[go_sem] theorem QO(b:Bool):bf bx (.bool b)=some (.bool b):=by simp[bf]
@[go_sem] theorem Tl(b:List UInt8):bf bx (.str b)=some (.str b):=by simp[bf]
@[go_sem] theorem Tk(b:Value):bf bx (.raw b)=some (.raw b):=by simp[bf]
@[go_sem] theorem qG:bf bx .nilsl=some .nilsl:=by simp[bf]
@[go_sem] theorem UI(sz:Nat)(es:List D):bf bx (.sl sz es)=some (.sl sz es):=by simp[bf]
@[go_sem] theorem oq(ds:List D):bf bx (.agg ds)=(cg bx ds).map .agg:=by simp only[bf]
@[go_sem] theorem AG(ds:List D):bf bx (.tup ds)=(cg bx ds).map .tup:=by simp only[bf]
@[go_sem] theorem UH(f:Fn)(ds:List D):bf bx (.fn f ds)=(cg bx ds).map (.fn f):=by simp only[bf]
def DT(b:Bx)(e i j:Nat):Option D:=if b.ep=e/\lv b.k then match b.es[i]? with
 |some d=>if d.pure then some (.cref d j)else some (.cref d.xj j)
 |none=>none
 else none
@[go_sem] theorem Tj(t e i j:Nat):bf bx (.loc t e i j)=DT (bx t) e i j:=by simp only[bf,DT]<;>split<;>first|(cases(bx t).es[i]?<;>rfl)|rfl
def DU(x:Option D)(j:Nat):Option D:=match x with
 |some d=>if d.pure then some (.cref d j)else some (.cref d.xj j)
 |none=>none
@[go_sem] theorem QP(e sz ty i j:Nat)(es:List D):DT ⟨e,1,sz,ty,es⟩ e i j=DU es[i]? j:=by
 unfold DT DU;cases es[i]?<;>simp[Mo,QC]
@[go_sem] theorem OT(d:D)(j:Nat):DU (some d) j=if d.pure then some (.cref d j)else some (.cref d.xj j):=ax
@[go_sem] theorem UA:Bx.none.ep=0:=ax
def lx(b:Bx)(e sz o n:Nat):Option D:=if b.ep=e/\lv b.k/\b.sz=sz/\o+n<=b.es.length then
 (if D.aF ((b.es.drop o).take n)then some (.sl sz ((b.es.drop o).take n))else none)else none
@[go_sem] theorem jv(t e sz o n:Nat):bf bx (.osl t e sz o n)=lx (bx t) e sz o n:=by simp only[bf,lx]
theorem cU(e k sz ty n:Nat)(es:List D)(hk:lv k)(hn:n=es.length)(hp:D.aF es=true):lx ⟨e,k,sz,ty,es⟩ e sz 0 n=some (.sl sz es):=by simp[lx,hk,hn,hp]
def qF(b:Bx)(e i j n:Nat):Option D:=if b.ep=e/\lv b.k then match b.es[i]? with
 |some d=>if j+n<=d.cells.length/\D.aF ((d.cells.drop j).take n)=true/\((d.cells.drop j).take n).all D.one=true then some (.sl 1 ((d.cells.drop j).take n))else none
 |none=>none
 else none
@[go_sem] theorem Tq(k:IntKind)(n:Int):D.pure (.int k n)=true:=by simp[D.pure]
@[go_sem] theorem QR(b:Bool):D.pure (.bool b)=true:=by simp[D.pure]
@[go_sem] theorem Tr(b:List UInt8):D.pure (.str b)=true:=by simp[D.pure]
@[go_sem] theorem OX:D.pure .nilsl=true:=by simp[D.pure]
@[go_sem] theorem UL(sz:Nat)(es:List D):D.pure (.sl sz es)=true:=by simp[D.pure]
@[go_sem] theorem QS(d:D)(j:Nat):D.pure (.cref d j)=true:=by simp[D.pure]
@[go_sem] theorem Tp(ds:List D):D.pure (.agg ds)=D.aF ds:=by simp only[D.pure]
@[go_sem] theorem UK(f:Fn)(ds:List D):D.pure (.fn f ds)=D.aF ds:=by simp only[D.pure]
@[go_sem] theorem QQ:D.aF []=true:=by simp[D.aF]
@[go_sem] theorem OW(d:D)(ds:List D):D.aF (d::ds)=(d.pure&&D.aF ds):=by simp only[D.aF]
theorem mI{α:Type}(f:α->D)(l:List α)(h:∀x,(f x).pure=true):D.aF (l.map f)=true:=by
 induction l with
 |nil=>simp[D.aF]
 |cons x l ih=>simp[D.aF,h,ih]
variable {full rest:List Oper} {acc:List Cl} {K:List Cl->Env->ae->Prop} {dst:Option Tmp} {ty:TypeId} {pos:String} {af:Array Edge} {g:Option (Nat×Bool)} {K1:Cl->Env->ae->Prop}
@[go_sem ↓] theorem S_:ku P C full [] acc σ bx K=K acc σ bx:=ax
@[go_sem ↓] theorem QH(op:Op):ku P C full (⟨dst,op,ty,pos,af,none⟩::rest) acc σ bx K=
 aZ P C ⟨dst,op,ty,pos,af,none⟩ σ bx fun c σ' bx'=>fF c (K (c::acc) σ' bx') (ku P C full rest (c::acc) σ' bx' K):=ax
@[go_sem] theorem Ut(want:Bool)(x y:Prop):gK none want x y=y:=by simp[gK]
@[go_sem] theorem Uu(b:Bool)(x y:Prop):gK (some b) true x y=eZ b x y:=by cases b<;>simp[gK,eZ]
@[go_sem] theorem Sc(b:Bool)(x y:Prop):gK (some b) false x y=eZ b y x:=by cases b<;>simp[gK,eZ]
@[go_sem ↓] theorem QI(op:Op)(j:Nat)(want:Bool):ku P C full (⟨dst,op,ty,pos,af,some (j,want)⟩::rest) acc σ bx K=
 aI (lk full[j]? σ) fun g=>gK g want (aZ P C ⟨dst,op,ty,pos,af,some (j,want)⟩ σ bx fun c σ' bx'=>fF c (K (c::acc) σ' bx') (ku P C full rest (c::acc) σ' bx' K))
  (ku P C full rest (.n::acc) (put σ dst (.raw undef)) bx K):=ax
@[go_sem] theorem NF(b:Bool):pN (.bool b)=some (some b):=ax
@[go_sem] theorem LP:pN (.raw undef)=some none:=by simp[pN,undef]
@[go_sem] theorem ND(op:Op)(d:Nat):lk (some ⟨some d,op,ty,pos,af,g⟩) σ=pN (σ d):=ax
@[go_sem] theorem Q5(t e i j:Nat):jQ (.loc t e i j)= .r t:=ax
@[go_sem] theorem Pe(d:D)(j:Nat):jQ (.cref d j)= .n:=ax
@[go_sem] theorem Q6(t e i j:Nat):ij (.loc t e i j)= .w t:=ax
section
variable (o:eF) (tab:List (Nat×List (Nat×Nat))) (base nxt lo:Nat) (yl:Option (List (List D)×Nat×Nat)) (pn df:Bool)
@[go_sem] theorem Uc:(Calc.mk o tab base nxt lo yl pn df).pn=pn:=ax
@[go_sem] theorem RQ:(Calc.mk o tab base nxt lo yl pn df).tab=tab:=ax
@[go_sem] theorem PQ:(Calc.mk o tab base nxt lo yl pn df).base=base:=ax
@[go_sem] theorem Ub:(Calc.mk o tab base nxt lo yl pn df).lo=lo:=ax
@[go_sem] theorem RP:(Calc.mk o tab base nxt lo yl pn df).tF=⟨⟨o.to,fun _ _ _ _ _ _=>False,fun _ _ _ _=>False,fun _ _ _ _ _=>False⟩,tab,base,nxt,lo,none,false,false⟩:=ax
end
@[go_sem] theorem TN(a c:Nat):(a+1<=a+2+c)=True:=by simp;omega
@[go_sem] theorem TO(a c:Nat):(a=a+1+c)=False:=by simp;omega
@[go_sem] theorem UX(a:Nat):(a+1<=a)=False:=by simp
@[go_sem] theorem Pd(b d:Nat):gS b (some d)=some (b+d):=ax
@[go_sem] theorem QB(id:Nat):jN [] id=[]:=ax
@[go_sem] theorem OO(k id:Nat)(ps:List (Nat×Nat))(r:List (Nat×List (Nat×Nat))):jN ((k,ps)::r) id=if k=id then ps else jN r id:=ax
@[go_sem] theorem Ud(acc:List Cl):xv [] acc=True:=ax
@[go_sem] theorem RU(i j:Nat)(ps:List (Nat×Nat))(acc:List Cl):xv ((i,j)::ps) acc=(uO acc[i]? acc[j]?/\xv ps acc):=ax
@[go_sem] theorem Nl(a b:Cl):uO (some a) (some b)=apart a b:=ax
@[go_sem] theorem Rq(b:Cl):apart .n b=True:=Eq.trans (by cases b<;>rfl) rfl
@[go_sem] theorem Rr(b:Cl):apart b .n=True:=Eq.trans (by cases b<;>rfl) rfl
@[go_sem] theorem Rs(s t:Nat):apart (.r s) (.r t)=True:=ax
@[go_sem] theorem Rt(s t:Nat):apart (.r s) (.w t)=¬s=t:=ax
@[go_sem] theorem Ru(s t:Nat):apart (.w s) (.w t)=¬s=t:=ax
attribute [go_sem] not_false_eq_true
@[go_sem ↓] theorem Tt(d:Nat)(v:D):put σ (some d) v=ao σ d v:=ax
@[go_sem ↓] theorem Ts(v:D):put σ none v=σ:=ax
@[go_sem ↓] theorem Ve(t:Nat):ev σ (.tmp t)=σ t:=ax
@[go_sem ↓] theorem R5(v:Value):ev σ (.const v)=ry v:=ax
@[go_sem ↓] theorem Uq(f:Nat):ev σ (.func f)= .fn (.func f) []:=ax
@[go_sem] theorem UB(k:IntKind)(n:Int):ry (.int k n)= .int k n:=ax
@[go_sem] theorem S1(b:Bool):ry (.bool b)= .bool b:=ax
@[go_sem] theorem OR(l:List UInt8):ry (.string ⟨l.toArray⟩)= .str l:=ax
@[go_sem] theorem UC:ry (.slice none 0 0)= .nilsl:=ax
@[go_sem] theorem Nz(x y:Prop):u0 .abool x y=(x/\y):=ax
@[go_sem] theorem RA(ti:TI)(op:BinOp)(x:D):iy ti op x .nilsl=wT ti op x:=by cases x<;>rfl
@[go_sem] theorem OQ(e sz b size:Nat)(g ag:Bool)(z:List D)(op:BinOp)(x:D):wT ⟨.slice e sz b g,size,ag,z⟩ op x=si op x:=ax
@[go_sem] theorem Uz(sz:Nat)(es:List D):si .eql (.sl sz es)=some (if es.isEmpty then .abool else .bool false):=ax
@[go_sem] theorem S6(t e:Nat):D.one (.omap t e)=true:=ax
@[go_sem] theorem Qu(s:List UInt8):ja .str (.str s)=true:=ax
@[go_sem] theorem Qt(k:IntKind)(n:Int):ja (.int k) (.int k n)=true:=by simp[ja]
@[go_sem] theorem SN(t:Nat)(c:Int)(es:List D):vD t (.int .i64 c::es)=some (t,c,es):=ax
@[go_sem] theorem Qr(t m k:Nat)(s l:Int)(es:List D):r8 t (.omap m k:: .int .i64 s:: .int .i64 l::es)=some (t,.omap m k,s,l,es):=ax
def DJ(t e:Nat)(b:Bx):Option (Nat×Int×List D):=if b.ep=e/\b.k=3 then vD t b.es else none
@[go_sem] theorem SM(t e:Nat):fq bx (.omap t e)=DJ t e (bx t):=ax
@[go_sem] theorem SL(t e sz ty:Nat)(es:List D):DJ t e ⟨e,3,sz,ty,es⟩=vD t es:=by simp[DJ]
def Aa(t e:Nat)(b:Bx):Option (Nat×D×Int×Int×List D):=if b.ep=e/\b.k=3 then r8 t b.es else none
@[go_sem] theorem Qq(t e:Nat):iterAt bx (.loc t e 0 0)=Aa t e (bx t):=ax
@[go_sem] theorem Qo(t e sz ty:Nat)(es:List D):Aa t e ⟨e,3,sz,ty,es⟩=r8 t es:=by simp[Aa]
@[go_sem] theorem QA(T:TypeId->TI)(kt et size:Nat)(ag ok:Bool)(z:List D)(m k:D):ni P T ⟨.map kt et,size,ag,z⟩ bx m k ok=if ja (T kt).k k=true then(fq bx m).bind fun r=>mW (zeroV P et) ok (dt (T kt).k k r.2.2 0)else none:=ax
@[go_sem] theorem Rl(Z:Option D)(i:Nat)(v:D):mW Z true (some (some (i,v)))=some (.tup [v,.bool true]):=ax
@[go_sem] theorem Pt(Z:Option D)(i:Nat)(v:D):mW Z false (some (some (i,v)))=some v:=ax
@[go_sem] theorem Rk(Z:Option D):mW Z true (some none)=Z.map fun z=> .tup [z,.bool false]:=ax
@[go_sem] theorem Ps(Z:Option D):mW Z false (some none)=Z:=by cases Z<;>rfl
@[go_sem] theorem Pc(t e:Nat):rf (.omap t e)= .r t:=ax
@[go_sem] theorem T0(T:TypeId->TI)(kt et size:Nat)(ag:Bool)(z:List D)(m k v:D):sS T ⟨.map kt et,size,ag,z⟩ bx m k v=if ja (T kt).k k=true then(if v.simple=true then((fq bx m).bind fun r=>(jW (T kt).k k v r.2.1 r.2.2).map (dW bx r.1))else none)else none:=by simp only[sS,lO]
@[go_sem] theorem R4(T:TypeId->TI)(kt et size:Nat)(ag:Bool)(z:List D)(m k:D):Dh T ⟨.map kt et,size,ag,z⟩ bx m k=if ja (T kt).k k=true then(fq bx m).bind fun r=>(zC (T kt).k k r.2.1 r.2.2).map (dW bx r.1)else none:=ax
@[go_sem] theorem O7(k:IntKind)(n:Int):D.simple (.int k n)=true:=ax
@[go_sem] theorem NT(b:Bool):D.simple (.bool b)=true:=ax
@[go_sem] theorem O6(ds:List D):D.simple (.agg ds)=D.kT ds:=ax
@[go_sem] theorem NS:D.kT []=true:=ax
@[go_sem] theorem MZ(d:D)(ds:List D):D.kT (d::ds)=(d.simple&&D.kT ds):=ax
@[go_sem] theorem SE(m:D):ug bx [m]=(fq bx m).map fun r=> .int .i64 (r.2.2.length:Int):=ax
@[go_sem] theorem TG(kt et size:Nat)(ag:Bool)(z:List D)(x:D):uz ⟨.map kt et,size,ag,z⟩ bx x=(fq bx x).map fun r=>[x,.int .i64 r.2.1,.int .i64 r.2.1]:=ax
@[go_sem ↓] theorem N2(T:Nat)(m k:Operand)(ok:Bool):aZ P C ⟨dst,.lookup T m k ok,ty,pos,af,g⟩ σ bx K1=aI (ni P (ak P) (ak P T) bx (ev σ m) (ev σ k) ok) fun v=>aI (some (rf (ev σ m))) fun c=>K1 c (put σ dst v) bx:=ax
@[go_sem ↓] theorem M7(T d:Nat):aZ P C ⟨some d,.makeMap T none,ty,pos,af,g⟩ σ bx K1=(C.lo=0/\aI (some (C.base+d)) fun s=>K1 .wa (ao σ d (.omap s ((bx s).ep+1))) (ao bx s ⟨(bx s).ep+1,3,0,T,[.int .i64 0]⟩)):=by simp[aZ,dN,kh,eW,gJ,aI]
@[go_sem ↓] theorem Kp(T:Nat)(m k v:Operand):aZ P C ⟨dst,.mapUpdate T m k v,ty,pos,af,g⟩ σ bx K1=(C.lo=0/\aI (sS (ak P) (ak P T) bx (ev σ m) (ev σ k) (ev σ v)) fun bx'=>K1 .wa (put σ dst (.raw undef)) bx'):=by simp[aZ,dN,kh,eW,gJ,aI]
@[go_sem ↓] theorem Po(T d:Nat)(x:Operand):aZ P C ⟨some d,.range T x,ty,pos,af,g⟩ σ bx K1=(C.lo=0/\aI (uz (ak P T) bx (ev σ x)) fun es=>K1 .wa (ao σ d (.loc (C.base+d) ((bx (C.base+d)).ep+1) 0 0)) (ao bx (C.base+d) ⟨(bx (C.base+d)).ep+1,3,0,0,es⟩)):=by simp[aZ,dN,kh,eW,gJ,aI]
@[go_sem ↓] theorem Rb(it:Operand):aZ P C ⟨dst,.next it false,ty,pos,af,g⟩ σ bx K1=(C.pn=true/\C.lo=0/\qC bx (ev σ it) fun v bx'=>K1 .wa (put σ dst v) bx'):=by simp[aZ,dN,kh,eW,gJ]
@[go_sem ↓] theorem Pj(it:Operand):aZ P C ⟨dst,.entry it,ty,pos,af,g⟩ σ bx K1=(C.lo=0/\aI (nZ bx (ev σ it)) fun v=>K1 .wa (put σ dst v) bx):=by simp[aZ,dN,kh,eW,gJ,aI]
@[go_sem ↓] theorem Q9(T T':Nat)(x y:Operand):aZ P C ⟨dst,.call {callee:=.builtin .copy,args:= #[x,y],argTypes:= #[T,T']},ty,pos,af,g⟩ σ bx K1=(C.lo=0/\aI (qp C.lo (ak P T) (ak P T') bx (ev σ x) (ev σ y)) fun r=>K1 .wa (put σ dst (.int .i64 (r.1:Int))) r.2):=by simp[aZ,dN,kh,eW,gJ,aI,rO,qp]
@[go_sem ↓] theorem N0(T T':Nat)(x y:Operand):aZ P C ⟨dst,.call {callee:=.builtin .delete,args:= #[x,y],argTypes:= #[T,T']},ty,pos,af,g⟩ σ bx K1=(C.lo=0/\aI (Dh (ak P) (ak P T) bx (ev σ x) (ev σ y)) fun bx'=>K1 .wa (put σ dst (.raw (.tuple #[]))) bx'):=by simp[aZ,dN,kh,eW,gJ,aI,s6]
@[go_sem ↓] theorem N1(x:Operand)(name:String)(args:List Operand)(ts:Array TypeId):aZ P C ⟨dst,.call {callee:=.invoke x name,args:=args.toArray,argTypes:=ts},ty,pos,af,g⟩ σ bx K1=kf P C (ev σ x) name (args.map (ev σ)) bx fun c d bx'=>K1 c (put σ dst d) bx':=ax
@[go_sem] theorem Qi(t:TypeId)(d:D)(name:String)(ds:List D)(K:Cl->D->ae->Prop):kf P C (.ifc t d) name ds bx K=aI (nj P t name) fun f=>dV C f (d::ds) bx K:=ax
@[go_sem ↓] theorem Jc(T d:Nat)(l c:Operand):aZ P C ⟨some d,.makeSlice T l c,ty,pos,af,g⟩ σ bx K1=aI (oY (ak P) (ak P T) (ev σ l) (ev σ c)) fun r=>K1 (.w (C.base+d)) (ao σ d (.osl (C.base+d) ((bx (C.base+d)).ep+1) r.1 0 r.2.2.length)) (ao bx (C.base+d) ⟨(bx (C.base+d)).ep+1,1,r.1,r.2.1,r.2.2⟩):=ax
@[go_sem] theorem SW(T:TypeId->TI)(el esz bytes size:Nat)(g ag:Bool)(z:List D)(k k':IntKind)(n m:Int)(h1:0<esz)(h2:0<bytes):oY T ⟨.slice el esz bytes g,size,ag,z⟩ (.int k n) (.int k' m)=if 0<=n then(if n<=m then(if m * bytes<=140737488355328 then(if(T el).size=esz then(fw (T el)).map fun z=>(esz,el,List.replicate n.toNat z)else none)else none)else none)else none:=by simp only[oY,h1,h2,true_and,lO]
@[go_sem] theorem Bs(n:Int)(es:List D):fA (.int .u8 n::es)=(fA es).map (UInt8.ofNat n.toNat::·):=ax
@[go_sem] theorem NA(T:TypeId->TI)(e z0 b s s':Nat)(g0 g g':Bool)(z z':List D)(es:List D):lW T ⟨.slice e z0 b g0,s,g,z⟩ ⟨.str,s',g',z'⟩ (.sl 1 es)=if(T e).k.lN=true then(fA es).map .str else none:=by simp[lW]
@[go_sem] theorem Uw:TK.lN (.int .u8)=true:=ax
@[go_sem ↓] theorem NU(T d:Nat):aZ P C ⟨some d,.alloc T,ty,pos,af,g⟩ σ bx K1=aI (rz (fw (ak P T)) (mX (ak P T) (zeroV P T))) fun z=>aI (some (ak P T).size) fun s=>
 K1 (.w (C.base+d)) (ao σ d (.loc (C.base+d) ((bx (C.base+d)).ep+1) 0 0)) (ao bx (C.base+d) ⟨(bx (C.base+d)).ep+1,1,s,T,[z]⟩):=ax
@[go_sem ↓] theorem Q7(T d:Nat)(x:Operand):aZ P C ⟨some d,.box T x,ty,pos,af,g⟩ σ bx K1=aI (rJ (ak P T) (ev σ x)) fun v=>aI (some (ak P T).size) fun s=>
 K1 (.w (C.base+d)) (ao σ d (.loc (C.base+d) ((bx (C.base+d)).ep+1) 0 0)) (ao bx (C.base+d) ⟨(bx (C.base+d)).ep+1,1,s,T,[v]⟩):=ax
@[go_sem] theorem Td(d:D)(b:Bool):rz (some d) b=some d:=ax
@[go_sem] theorem Tc(b:Bool):rz none b=if b=true then some (.agg [])else none:=ax
@[go_sem] theorem Tf(r:ae)(b:Bool)(a v:D):pR (some r) b bx a v=some r:=ax
@[go_sem] theorem Te(b:Bool)(t e i j:Nat)(v:D):pR none b bx (.loc t e i j) v=if b=true then(if v.cells=[]then some bx else none)else none:=by simp only[pR,lO]
@[go_sem] theorem Vc(q:List Nat)(ag:Bool)(z:List D):mX ⟨.struct [] q,0,ag,z⟩ (some (.agg []))=true:=ax
@[go_sem] theorem T1(q:List Nat)(ag:Bool)(z:List D):fw ⟨.struct [] q,0,ag,z⟩=none:=by simp[fw]
@[go_sem] theorem PL(q:List Nat)(ag:Bool)(z:List D)(ps:List (Nat×D)):iH ⟨.struct [] q,0,ag,z⟩ ps=none:=by simp[iH]
@[go_sem] theorem Re(lo:Nat)(q:List Nat)(ag:Bool)(z:List D)(a v:D):ez lo ⟨.struct [] q,0,ag,z⟩ bx a v=none:=by unfold ez;cases a<;>simp
attribute [go_sem] List.isEmpty_nil Bool.true_and
@[go_sem] theorem T2(k:TK)(size:Nat)(ag:Bool)(z:List D)(h:0<size):fw ⟨k,size,ag,z⟩=if z.length=size then(if z.all D.one then(if ag then some (tL ag z)else if size=1 then some (tL ag z)else none)else none)else none:=by
 unfold fw;cases h2:z.all D.one<;>by_cases h1:z.length=size<;>by_cases h3:size=1<;>cases ag<;>simp_all
@[go_sem] theorem T8(k:TK)(size:Nat)(ag:Bool)(z:List D)(v:D)(h:0<size):rJ ⟨k,size,ag,z⟩ v=if v.cells.length=size then(if v.cells.all D.one then some v else none)else none:=by
 unfold rJ;cases h2:v.cells.all D.one<;>by_cases h1:v.cells.length=size<;>simp_all
@[go_sem] theorem UD(k:IntKind)(n:Int):D.one (.int k n)=true:=ax
@[go_sem] theorem S5(b:Bool):D.one (.bool b)=true:=ax
@[go_sem] theorem UG(s:List UInt8):D.one (.str s)=true:=ax
@[go_sem] theorem QG:D.one .nilsl=true:=ax
@[go_sem] theorem Vm(sz:Nat)(es:List D):D.one (.sl sz es)=true:=ax
@[go_sem] theorem UF(t e sz o n:Nat):D.one (.osl t e sz o n)=true:=ax
@[go_sem] theorem UE(t e i j:Nat):D.one (.loc t e i j)=true:=ax
@[go_sem] theorem Vk(f:Fn)(ds:List D):D.one (.fn f ds)=true:=ax
@[go_sem] theorem S9(x:Option Addr):D.one (.raw (.pointer x))=true:=ax
@[go_sem] theorem S7:D.one (.raw .nilFunc)=true:=ax
@[go_sem] theorem S8(x:Option Nat):D.one (.raw (.map x))=true:=ax
@[go_sem] theorem all_nil{α:Type}(p:α->Bool):[].all p=true:=ax
@[go_sem] theorem all_cons{α:Type}(p:α->Bool)(x:α)(l:List α):(x::l).all p=(p x&&l.all p):=ax
attribute [go_sem] Bool.and_self Bool.and_true Bool.true_and Bool.and_false Bool.false_and true_and and_true
@[go_sem ↓] theorem NY(T:Nat)(a x:Operand):aZ P C ⟨dst,.store T a x,ty,pos,af,g⟩ σ bx K1=aI (pR (ez C.lo (ak P T) bx (ev σ a) (ev σ x)) (mX (ak P T) (zeroV P T)) bx (ev σ a) (ev σ x)) fun bx'=>aI (some (ij (ev σ a))) fun c=>K1 c (put σ dst (.raw undef)) bx':=ax
@[go_sem ↓] theorem M4(T T':Nat)(x y:Operand):aZ P C ⟨dst,.call {callee:=.builtin .append,args:= #[x,y],argTypes:= #[T,T']},ty,pos,af,g⟩ σ bx K1=
 if yB C.tab dst=true then(C.pn=true/\aI (oR C.lo (ak P) (ak P T) T T' (gS C.base dst) bx (ev σ x) (ev σ y)) fun r=>K1 .wa (put σ dst r.1.1) r.1.2/\K1 .wa (put σ dst r.2.1) r.2.2)
 else aI (pw C.lo (ak P) T T' (gS C.base dst) bx (ev σ x) (ev σ y)) fun r=>K1 .wa (put σ dst r.1) r.2:=ax
@[go_sem] theorem N9(tab:List (Nat×List (Nat×Nat)))(d:Tmp):yB tab (some d)=ma tab (2000000+d):=ax
@[go_sem] theorem Nn(lo:Nat)(T:TypeId->TI)(e esz b size d:Nat)(ag ag':Bool)(z:List D)(x y:D)(t t':Nat)(h:0<esz):oR lo T ⟨.slice e esz b ag,size,ag',z⟩ t t' (some d) bx x y=if(T e).zero.length=esz then(lj T t t' esz e bx y).bind fun ys=>if ys=[]then A9 x bx else px lo d e esz b bx x ys else none:=by simp[oR,h]
@[go_sem] theorem NC(T:TypeId->TI)(t esz el:Nat)(y:D):lj T t t esz el bx y=ff bx esz y:=by simp[lj]
@[go_sem] theorem Ox(T:TypeId->TI)(t t' el:Nat)(s:List UInt8)(h:t≠t'):lj T t t' 1 el bx (.str s)=match(T t').k with| .str=>if(T el).k.lN=true then some (aV s)else none|_=>none:=by simp only[lj,if_neg h];cases(T t').k<;>simp
@[go_sem] theorem UT(sz:Nat)(es:List D):A9 (.clp sz es) bx=some ((.sl sz es,bx),(.sl sz es,bx)):=ax
@[go_sem] theorem Vu(sz:Nat)(es:List D):A9 (.sl sz es) bx=some ((.sl sz es,bx),(.sl sz es,bx)):=ax
@[go_sem] theorem UU:A9 .nilsl bx=some ((.nilsl,bx),(.nilsl,bx)):=ax
@[go_sem] theorem UW(t e sz o n:Nat):A9 (.osl t e sz o n) bx=some ((.osl t e sz o n,bx),(.osl t e sz o n,bx)):=ax
@[go_sem] theorem Rw(lo d el esz b:Nat)(es ys:List D)(h1:0<esz)(h2:0<b)(h3:(es.length+ys.length) * b<=140737488355328):px lo d el esz b bx (.clp esz es) ys=some ((.osl d ((bx d).ep+1) esz 0 (es.length+ys.length),ao bx d ⟨(bx d).ep+1,1,esz,el,es++ys⟩),(.osl d ((bx d).ep+1) esz 0 (es.length+ys.length),ao bx d ⟨(bx d).ep+1,1,esz,el,es++ys⟩)):=by simp[px,h1,h2,h3]
@[go_sem] theorem Np{lo:Nat}{T:TypeId->TI}{e esz b size d:Nat}{ag ag':Bool}{z es:List D}{y:D}{ys:List D}(h1:0<esz)(h2:0<b)(h3:(es.length+(y::ys).length) * b<=140737488355328):
 eh lo T ⟨.slice e esz b ag,size,ag',z⟩ (some d) bx (.clp esz es) (y::ys)=if(T e).zero.length=esz then some (.osl d ((bx d).ep+1) esz 0 (es.length+(y::ys).length),ao bx d ⟨(bx d).ep+1,1,esz,e,es++(y::ys)⟩)else none:=by
 have h3':(es.length+(ys.length+1)) * b<=140737488355328:=by simpa using h3
 simp[eh,kX,h1,h2,h3']
@[go_sem] theorem PD(lo:Nat)(T:TypeId->TI)(t:TypeId)(x y:D):pw lo T t t dst bx x y=C3 lo T (T t) dst bx x y:=by simp only[pw,if_true]
@[go_sem] theorem Oa(lo:Nat)(T:TypeId->TI)(e esz b size d size':Nat)(ag ag' ag'':Bool)(z z':List D)(k k2:IntKind)(x:D)(n:Int)(h0:0<=n)(h1:n<=140737488355328)(h2:0<esz)(h3:0<b):rI lo T ⟨.slice e esz b ag,size,ag',z⟩ ⟨.int k,size',ag'',z'⟩ (some d) bx x (.int k2 n)=
 if(T e).zero.length=esz then(fw (T e)).bind fun z=>yD lo d e esz b bx x (List.replicate n.toNat z)else none:=by
 simp[rI,h0,h1,h2,h3]
@[go_sem] theorem Rx(lo:Nat)(T:TypeId->TI)(e b size d size':Nat)(ag ag' ag'':Bool)(z z':List D)(x:D)(s:List UInt8):rI lo T ⟨.slice e 1 b ag,size,ag',z⟩ ⟨.str,size',ag'',z'⟩ (some d) bx x (.str s)=
 if(T e).zero.length=1/\(T e).k.lN=true then eh lo T ⟨.slice e 1 b ag,size,ag',z⟩ (some d) bx x (aV s)else none:=by
 simp[rI]
@[go_sem] theorem PE(lo d e esz b:Nat)(ys:List D):yD lo d e esz b bx .nilsl ys=if ys=[]then some (.nilsl,bx)else kX lo d e esz b bx .nilsl ys:=ax
@[go_sem] theorem N_(lo:Nat)(T:TypeId->TI)(e esz b size:Nat)(ag ag':Bool)(z:List D)(x y:D):C3 lo T ⟨.slice e esz b ag,size,ag',z⟩ dst bx x y=if esz=0 then none else(ff bx esz y).bind fun ys=>eh lo T ⟨.slice e esz b ag,size,ag',z⟩ dst bx x ys:=ax
@[go_sem ↓] theorem Pf(fo:Operand)(args:List Operand)(ats:Array TypeId):aZ P C ⟨dst,.call {callee:=.value fo,args:=args.toArray,argTypes:=ats},ty,pos,af,g⟩ σ bx K1=
 iA C (ev σ fo) (args.map (ev σ)) bx fun c d bx'=>K1 c (put σ dst d) bx':=by
 simp only[aZ]
theorem au{f:Nat}{ds:List D}{K2:Cl->D->ae->Prop}{d:D}(h:C.o.to f ds d)(hp:D.aF ds=true)(hk:K2 .n d bx):dV C f ds bx K2:=.inl ⟨d,hp,h,hk⟩
theorem mu{f:Nat}{ds ds':List D}{K2:Cl->D->ae->Prop}{d:D}(h:C.o.to f ds' d)(ho:cg bx ds=some ds')(hb:d.bare=true)(hk:K2 .ra d bx):dV C f ds bx K2:=.inr (.inl ⟨ds',d,ho,h,hb,hk⟩)
theorem GH{f:Nat}{ds ds':List D}{K2:Cl->D->ae->Prop}{d:D}(h:C.o.to f ds' d)(ho:cg bx ds=some ds')(hlo:C.lo=0)(hk:K2 .wa d (cv bx ds)):dV C f ds bx K2:=.inr (.inr (.inl ⟨ds',d,hlo,ho,h,hk⟩))
theorem aB{f:Nat}{ds:List D}{K2:Cl->D->ae->Prop}{bG:D->ae->Prop}(h:C.o.oF f C.nxt ds bx bG fun _ _=>False)(hlo:C.lo=0)(hk:∀d bx',bG d bx'->K2 .wa d bx'):dV C f ds bx K2:=.inr (.inr (.inr ⟨bG,_,hlo,h,fun d bx' hp=> .inl (hk d bx' hp),fun _ _ h=>h.elim⟩))
theorem nU{f:Nat}{ds:List D}{K2:Cl->D->ae->Prop}{bG Pan:D->ae->Prop}(h:C.o.oF f C.nxt ds bx bG Pan)(hlo:C.lo=0)(hk:∀d bx',bG d bx'->K2 .wa d bx')(hp:∀d bx',Pan d bx'->K2 (.pan d) .undef bx'):dV C f ds bx K2:=.inr (.inr (.inr ⟨bG,Pan,hlo,h,fun d bx' hp=> .inl (hk d bx' hp),hp⟩))
theorem qj{f:Nat}{ds:List D}{K2:Cl->D->ae->Prop}{bG Pan:D->ae->Prop}(h:C.o.oF f C.nxt ds bx bG Pan)(hlo:C.lo=0)(hk:∀d bx',bG d bx'->∃r r',bf bx' d=some r/\bk r r'/\K2 .wa r' (cv bx' [d]))(hp:∀d bx',Pan d bx'->K2 (.pan d) .undef bx'):dV C f ds bx K2:=.inr (.inr (.inr ⟨bG,Pan,hlo,h,fun d bx' hp=> .inr (hk d bx' hp),hp⟩))
@[go_sem] theorem OV(a b:D):me (.bool true) a b=some a:=by simp[me]
@[go_sem] theorem NL(a b:D):me (.bool false) a b=some b:=by simp[me]
@[go_sem] theorem To(t a b:Bool):me (.bool t) (.bool a) (.bool b)=some (.bool (if t then a else b)):=by cases t<;>simp[me]
@[go_sem] theorem Tn(t:TypeId)(v:D)(f:D->Prop):wY (.ifc t v) f=f (.ifc t v):=ax
@[go_sem ↓] theorem NX(x:Operand):aZ P C ⟨dst,.panic x,ty,pos,af,g⟩ σ bx K1=(C.pn=true/\wY (ev σ x) fun d=>K1 (.pan d) σ bx):=ax
@[go_sem ↓] theorem Ra(x:Operand):aZ P C ⟨dst,.move x,ty,pos,af,g⟩ σ bx K1=aI (some (ev σ x)) fun v=>K1 .n (put σ dst v) bx:=ax
@[go_sem ↓] theorem NZ(x:Operand):aZ P C ⟨dst,.assign x,ty,pos,af,g⟩ σ bx K1=aI (some (ev σ x)) fun v=>K1 .n (put σ dst v) bx:=ax
@[go_sem ↓] theorem Rc(x y z:Operand):aZ P C ⟨dst,.pick x y z,ty,pos,af,g⟩ σ bx K1=aI (me (ev σ x) (ev σ y) (ev σ z)) fun v=>K1 .n (put σ dst v) bx:=ax
@[go_sem ↓] theorem Pg(op:BinOp)(t t':Nat)(x y:Operand):aZ P C ⟨dst,.binOp op t x y t',ty,pos,af,g⟩ σ bx K1=aI (tZ (ak P t) op (ev σ x) (ev σ y) (isNil y)) fun v=>K1 .n (put σ dst v) bx:=ax
@[go_sem ↓] theorem Qn(t:Nat):isNil (.tmp t)=false:=ax
@[go_sem ↓] theorem Qj(k:IntKind)(n:Int):isNil (.const (.int k n))=false:=ax
@[go_sem ↓] theorem Ql(s:ByteArray):isNil (.const (.string s))=false:=ax
@[go_sem ↓] theorem Qk:isNil (.const .nilIface)=true:=ax
@[go_sem] theorem Od(ti:TI)(op:BinOp)(x y:D):tZ ti op x y false=iy ti op x y:=ax
@[go_sem] theorem RF(size:Nat)(ag:Bool)(z:List D)(x y:D):tZ ⟨.ifc,size,ag,z⟩ .eql x y true=(sg x).map .bool:=ax
@[go_sem] theorem RH(size:Nat)(ag:Bool)(z:List D)(x y:D):tZ ⟨.ifc,size,ag,z⟩ .neq x y true=(sg x).map fun b=> .bool (!b):=ax
@[go_sem] theorem SY(t:TypeId)(d:D):sg (.ifc t d)=some false:=ax
@[go_sem] theorem SZ:sg (.raw .nilIface)=some true:=ax
@[go_sem] theorem My:ry .nilIface= .raw .nilIface:=ax
@[go_sem ↓] theorem Gh(t:Nat)(x:Operand):aZ P C ⟨dst,.makeInterface t x,ty,pos,af,g⟩ σ bx K1=aI (vE (ak P t) t (ev σ x)) fun v=>K1 .n (put σ dst v) bx:=ax
@[go_sem ↓] theorem Je(t t':Nat)(ok:Bool)(x:Operand):aZ P C ⟨dst,.typeAssert x t' t ok,ty,pos,af,g⟩ σ bx K1=aI (wu (ak P t) t ok (ev σ x)) fun v=>K1 .n (put σ dst v) bx:=ax
def TK.Dc:TK->Bool
 | .none| .ifc=>false
 |_=>true
@[go_sem] theorem RV(k:IntKind):TK.Dc (.int k)=true:=ax
@[go_sem] theorem Ny(fs:List (Nat×Nat×Bool))(eq:List Nat):TK.Dc (.struct fs eq)=true:=ax
@[go_sem] theorem SV(k:TK)(size:Nat)(ag:Bool)(z:List D)(t:TypeId)(x:D):vE ⟨k,size,ag,z⟩ t x=if k.Dc then some (.ifc t x)else none:=by cases k<;>rfl
@[go_sem] theorem Rg(k:TK)(size:Nat)(ag:Bool)(z:List D)(t t':TypeId)(ok:Bool)(v:D):wu ⟨k,size,ag,z⟩ t ok (.ifc t' v)=if k.Dc then(if t'=t then some (if ok then .tup [v,.bool true]else v)else if ok&& !z.isEmpty then some (.tup [.undef,.bool false])else none)else none:=by cases k<;>rfl
@[go_sem] theorem isEmpty_cons{α:Type}(x:α)(l:List α):(x::l).isEmpty=false:=ax
@[go_sem ↓] theorem Rd(op:UnOp)(t:Nat)(x:Operand):aZ P C ⟨dst,.unOp op t x,ty,pos,af,g⟩ σ bx K1=aI (Bg op (ev σ x)) fun v=>K1 .n (put σ dst v) bx:=ax
@[go_sem ↓] theorem Kn(t i:Nat)(x:Operand):aZ P C ⟨dst,.fieldAddr t x i,ty,pos,af,g⟩ σ bx K1=aI (jL (ak P t) (ev σ x) i) fun v=>K1 .n (put σ dst v) bx:=ax
@[go_sem ↓] theorem Pk(t i:Nat)(x:Operand):aZ P C ⟨dst,.field t x i,ty,pos,af,g⟩ σ bx K1=aI (rT (ak P t) (ev σ x) i) fun v=>K1 .n (put σ dst v) bx:=ax
@[go_sem] theorem PH(k:IntKind)(n:Int)(f:Int->Option D):j9 (.int k n) f=f n:=ax
@[go_sem ↓] theorem Ko(t:Nat)(x y:Operand):aZ P C ⟨dst,.indexAddr t x y,ty,pos,af,g⟩ σ bx K1=aI (j9 (ev σ y) (dn (ak P t) (ev σ x))) fun v=>K1 .n (put σ dst v) bx:=ax
@[go_sem ↓] theorem Pm(t:Nat)(x y:Operand):aZ P C ⟨dst,.index t x y,ty,pos,af,g⟩ σ bx K1=aI (j9 (ev σ y) (mB (ak P t) (ev σ x))) fun v=>K1 .n (put σ dst v) bx:=ax
@[go_sem ↓] theorem Q_(t:Nat)(x:Operand):aZ P C ⟨dst,.load t x,ty,pos,af,g⟩ σ bx K1=aI (fb (ak P t) bx (ev σ x)) fun v=>aI (some (jQ (ev σ x))) fun c=>K1 c (put σ dst v) bx:=ax
@[go_sem] theorem PJ(ds:List D)(i:Nat):yF (.tup ds) i=ds[i]?:=ax
@[go_sem ↓] theorem M6(x:Operand)(i:Nat):aZ P C ⟨dst,.extract x i,ty,pos,af,g⟩ σ bx K1=aI (yF (ev σ x) i) fun v=>K1 .n (put σ dst v) bx:=ax
@[go_sem] theorem QM(a b:Option Int)(f:Option Int->Option Int->Option D):sq (some a) (some b) f=f a b:=ax
@[go_sem] theorem Sw(k:IntKind)(n:Int):rZ (.int k n)=some (some n):=ax
@[go_sem] theorem NI:dh σ none=some none:=ax
@[go_sem] theorem NJ(x:Operand):dh σ (some x)=rZ (ev σ x):=ax
@[go_sem ↓] theorem Pp(t:Nat)(x:Operand)(lo hi:Option Operand):aZ P C ⟨dst,.slice t x lo hi none,ty,pos,af,g⟩ σ bx K1=aI (sq (dh σ lo) (dh σ hi) (gf (ak P t) (ev σ x))) fun v=>K1 .n (put σ dst v) bx:=ax
@[go_sem ↓] theorem N3(t:Nat)(x m:Operand)(lo hi:Option Operand):aZ P C ⟨dst,.slice t x lo hi (some m),ty,pos,af,g⟩ σ bx K1=aI (AD (ak P t) (ev σ x) (dh σ lo) (dh σ hi) (rZ (ev σ m))) fun v=>K1 .n (put σ dst v) bx:=ax
@[go_sem] theorem QL(l:Option Int)(h m:Int)(x:D)(ti:TI):AD ti x (some l) (some (some h)) (some (some m))=pV ti x l h m:=ax
@[go_sem] theorem O8(e esz b size:Nat)(ag ag':Bool)(z:List D)(es:List D)(lo:Option Int)(h:Int)(hz:0<esz):pV ⟨.slice e esz b ag,size,ag',z⟩ (.sl esz es) lo h h=(cT es.length lo (some h)).map fun p=> .clp esz ((es.drop p.1).take (p.2 - p.1)):=by simp[pV,hz]
@[go_sem ↓] theorem Ph(t:Nat)(ps:List (Nat×Operand)):aZ P C ⟨dst,.build t ps.toArray,ty,pos,af,g⟩ σ bx K1=aI (rz (iH (ak P t) (ps.map fun p=>(p.1,ev σ p.2))) (ps.isEmpty&&mX (ak P t) (zeroV P t))) fun v=>K1 .n (put σ dst v) bx:=ax
@[go_sem ↓] theorem Jd(t n d:Nat)(ps:List (Nat×Operand)):aZ P C ⟨some d,.buildSlice t n ps.toArray,ty,pos,af,g⟩ σ bx K1=if ma C.tab d=true then(aI (oX (ak P) (ak P t) n (ps.map fun p=>(p.1,ev σ p.2))) fun r=>K1 (.w (C.base+d)) (ao σ d (.osl (C.base+d) ((bx (C.base+d)).ep+1) r.1 0 r.2.2.length)) (ao bx (C.base+d) ⟨(bx (C.base+d)).ep+1,1,r.1,r.2.1,r.2.2⟩))else aI (iM (ak P) (ak P t) n (ps.map fun p=>(p.1,ev σ p.2))) fun v=>K1 .n (put σ (some d) v) bx:=ax
@[go_sem] theorem Qy(d:Nat):ma [] d=false:=ax
@[go_sem] theorem OM(k d:Nat)(l:List (Nat×Nat))(r:List (Nat×List (Nat×Nat))):ma ((k,l)::r) d=if k=1000000+d then true else ma r d:=ax
attribute [go_sem] Bool.false_eq_true
@[go_sem] theorem SX(t e i j:Nat):Ao (.loc t e i j)=some (.loc t e i j):=ax
@[go_sem ↓] theorem KQ(x:Operand):aZ P C ⟨dst,.nilCheck x,ty,pos,af,g⟩ σ bx K1=aI (Ao (ev σ x)) fun v=>K1 .n (put σ dst v) bx:=ax
@[go_sem ↓] theorem KP(f:Fn)(caps:List Operand):aZ P C ⟨dst,.makeFunc f #[] caps.toArray,ty,pos,af,g⟩ σ bx K1=aI (some (.fn f (caps.map (ev σ)))) fun v=>K1 .n (put σ dst v) bx:=ax
@[go_sem ↓] theorem M5(s d:Nat)(x:Operand):aZ P C ⟨dst,.convert s d x,ty,pos,af,g⟩ σ bx K1=aI (lW (ak P) (ak P s) (ak P d) (ev σ x)) fun v=>K1 .n (put σ dst v) bx:=ax
def Ag(C:Calc)(ti:TI)(x:D)(bx:ae)(K:Cl->D->Prop)(_:Tok (K .n .undef):=⟨⟩):Prop:=match ti.k with
 | .map _ _=>C.pn=true/\C.lo=0/\aI (ug bx [x]) (K .wa)
 |_=>aI (i_ .len [ti] [x]) (K .n)
@[go_sem ↓] theorem TP(T:Nat)(x:Operand):aZ P C ⟨dst,.call {callee:=.builtin .len,args:= #[x],argTypes:= #[T]},ty,pos,af,g⟩ σ bx K1=Ag C (ak P T) (ev σ x) bx fun c v=>K1 c (put σ dst v) bx:=by
 simp only[aZ,dN,kh,Ag,eW,bR,List.map_cons,List.map_nil];cases(ak P T).k<;>simp[TK.isMap,gJ]
section
variable (size:Nat) (ag:Bool) (z:List D) (x:D) (K:Cl->D->Prop)
@[go_sem] theorem SG:Ag C ⟨.str,size,ag,z⟩ x bx K=aI (i_ .len [⟨.str,size,ag,z⟩] [x]) fun v=>K .n v:=ax
@[go_sem] theorem OL(e sz b:Nat)(g:Bool):Ag C ⟨.slice e sz b g,size,ag,z⟩ x bx K=aI (i_ .len [⟨.slice e sz b g,size,ag,z⟩] [x]) fun v=>K .n v:=ax
@[go_sem] theorem SF(kt et:Nat):Ag C ⟨.map kt et,size,ag,z⟩ x bx K=(C.pn=true/\C.lo=0/\aI (ug bx [x]) fun v=>K .wa v):=ax
end
@[go_sem ↓] theorem TR(ts:Array TypeId)(x:List Operand):aZ P C ⟨dst,.call {callee:=.builtin .min,args:=x.toArray,argTypes:=ts},ty,pos,af,g⟩ σ bx K1=aI (minD (x.map (ev σ))) fun v=>K1 .n (put σ dst v) bx:=ax
@[go_sem ↓] theorem TQ(ts:Array TypeId)(x:List Operand):aZ P C ⟨dst,.call {callee:=.builtin .max,args:=x.toArray,argTypes:=ts},ty,pos,af,g⟩ σ bx K1=aI (maxD (x.map (ev σ))) fun v=>K1 .n (put σ dst v) bx:=ax
@[go_sem ↓] theorem Pu(x:Operand):bR P σ bx (.assign x)=some (ev σ x):=ax
@[go_sem ↓] theorem Rm(op:BinOp)(t t':Nat)(x y:Operand):bR P σ bx (.binOp op t x y t')=tZ (ak P t) op (ev σ x) (ev σ y) (isNil y):=ax
@[go_sem ↓] theorem KS(t i:Nat)(x:Operand):bR P σ bx (.fieldAddr t x i)=jL (ak P t) (ev σ x) i:=ax
@[go_sem ↓] theorem KT(t:Nat)(x y:Operand):bR P σ bx (.indexAddr t x y)=j9 (ev σ y) (dn (ak P t) (ev σ x)):=ax
@[go_sem ↓] theorem Ro(t:Nat)(x:Operand)(lo hi:Option Operand):bR P σ bx (.slice t x lo hi none)=sq (dh σ lo) (dh σ hi) (gf (ak P t) (ev σ x)):=ax
@[go_sem ↓] theorem Rn(t:Nat)(ps:List (Nat×Operand)):bR P σ bx (.build t ps.toArray)=rz (iH (ak P t) (ps.map fun p=>(p.1,ev σ p.2))) (ps.isEmpty&&mX (ak P t) (zeroV P t)):=ax
@[go_sem ↓] theorem M9(x:Operand):bR P σ bx (.nilCheck x)=Ao (ev σ x):=ax
@[go_sem ↓] theorem N5(s d:Nat)(x:Operand):bR P σ bx (.convert s d x)=lW (ak P) (ak P s) (ak P d) (ev σ x):=ax
variable {ti:TI}
@[go_sem] theorem Rz(op:BinOp)(k:IntKind)(a b:Int):iy ti op (.int k a) (.int k b)=gy op k a b:=by simp[iy]
@[go_sem] theorem RE(op:BinOp)(a b:List UInt8):iy ti op (.str a) (.str b)=sO op a b:=by simp[iy]
@[go_sem] theorem Se(k:IntKind)(a b:Int):gy .add k a b=some (.int k (k.wrap (a+b))):=ax
@[go_sem] theorem Su(k:IntKind)(a b:Int):gy .sub k a b=some (.int k (k.wrap (a - b))):=ax
@[go_sem] theorem Sp(k:IntKind)(a b:Int):gy .mul k a b=some (.int k (k.wrap (a * b))):=ax
@[go_sem] theorem Sr(k:IntKind)(a b:Int)(h:b≠0):gy .quo k a b=some (.int k (k.wrap (a.tdiv b))):=by simp[gy,h]
@[go_sem] theorem Ss(k:IntKind)(a b:Int)(h:b≠0):gy .rem k a b=some (.int k (a.tmod b)):=by simp[gy,h]
@[go_sem] theorem Si(k:IntKind)(a b:Int):gy .eql k a b=some (.bool (decide (a=b))):=by simp[gy,Db];rfl
@[go_sem] theorem Sq(k:IntKind)(a b:Int):gy .neq k a b=some (.bool (!decide (a=b))):=by simp[gy,Db,bne];rfl
@[go_sem] theorem So(k:IntKind)(a b:Int):gy .lss k a b=some (.bool (decide (a<b))):=ax
@[go_sem] theorem Sn(k:IntKind)(a b:Int):gy .leq k a b=some (.bool (decide (a<=b))):=ax
@[go_sem] theorem Sm(k:IntKind)(a b:Int):gy .gtr k a b=some (.bool (decide (b<a))):=ax
@[go_sem] theorem Sj(k:IntKind)(a b:Int):gy .geq k a b=some (.bool (decide (b<=a))):=ax
@[go_sem] theorem TS(a b:List UInt8):sO .eql a b=some (.bool (decide (a=b))):=by by_cases h:a=b<;>simp[sO,h]
@[go_sem] theorem TT(a b:List UInt8):sO .neq a b=some (.bool (!decide (a=b))):=by by_cases h:a=b<;>simp[sO,h]
@[go_sem] theorem Lj(a b:List D):iy ti .neq (.agg a) (.agg b)=(xD ti (.agg a) (.agg b)).map fun x=> .bool (!x):=ax
@[go_sem] theorem KH(size:Nat)(ag:Bool)(z:List D)(a b:Bool):iy ⟨.bool,size,ag,z⟩ .eql (.bool a) (.bool b)=some (.bool (a==b)):=ax
@[go_sem] theorem KJ(size:Nat)(ag:Bool)(z:List D)(a b:Bool):iy ⟨.bool,size,ag,z⟩ .neq (.bool a) (.bool b)=some (.bool (!(a==b))):=ax
@[go_sem] theorem Um(fs:List (Nat×Nat×Bool))(k:Nat)(ks:List Nat)(size:Nat)(ag:Bool)(z a b:List D):xD ⟨.struct fs (k::ks),size,ag,z⟩ (.agg a) (.agg b)=if bD (k::ks) a then fC a b else yT k ks a b:=ax
@[go_sem] theorem Qv(ks:List Nat)(ds:List D):bD (0::ks) ds=false:=by cases ds<;>simp[bD]
@[go_sem] theorem NH:bD [] []=true:=by simp[bD]
@[go_sem] theorem Qw(ks:List Nat)(k:IntKind)(n:Int)(ds:List D):bD (2::ks) (.int k n::ds)=bD ks ds:=by simp[bD]
@[go_sem] theorem Qx(ks:List Nat)(s:List UInt8)(ds:List D):bD (3::ks) (.str s::ds)=bD ks ds:=by simp[bD]
def y9(a:Bool)(x:Option Bool):Option Bool:=x.map fun b=>a&&b
@[go_sem] theorem PC(a b:Bool):y9 a (some b)=some (a&&b):=ax
@[go_sem] theorem Uo:fC [] []=some true:=by simp[fC]
@[go_sem] theorem Un(k:IntKind)(m n:Int)(xs ys:List D):fC (.int k m::xs) (.int k n::ys)=y9 (decide (m=n)) (fC xs ys):=by
 simp only[fC,oV,if_true,y9];by_cases h:m=n
 ·subst h;cases fC xs ys<;>simp
 ·have:(m==n)=false:=by simp[h]
  simp only[this,h,decide_false];cases fC xs ys<;>simp
@[go_sem] theorem Up(m n:List UInt8)(xs ys:List D):fC (.str m::xs) (.str n::ys)=y9 (decide (m=n)) (fC xs ys):=by
 simp only[fC,oV,y9];by_cases h:m=n
 ·subst h;cases fC xs ys<;>simp
 ·have:(m==n)=false:=by simp[h]
  simp only[this,h,decide_false];cases fC xs ys<;>simp
@[go_sem] theorem Sg(k:IntKind)(a b:Int):gy .and k a b=some (.int k (ca .and k a b)):=ax
@[go_sem] theorem Uv(k:IntKind)(a b:Int):gy .or k a b=some (.int k (ca .or k a b)):=ax
@[go_sem] theorem Sv(k:IntKind)(a b:Int):gy .xor k a b=some (.int k (ca .xor k a b)):=ax
@[go_sem ↓] theorem RB(k k':IntKind)(a b:Int):iy ti .shl (.int k a) (.int k' b)=sJ .shl k a b:=by simp only[iy];split<;>rfl
@[go_sem ↓] theorem RC(k k':IntKind)(a b:Int):iy ti .shr (.int k a) (.int k' b)=sJ .shr k a b:=by simp only[iy];split<;>rfl
@[go_sem] theorem UR(k:IntKind)(a b:Int)(h:0<=b):sJ .shl k a b=some (.int k (k.wrap (a * 2 ^ (min b.toNat k.bits)))):=by unfold sJ;rw[if_neg oM]
@[go_sem] theorem US(k:IntKind)(a b:Int)(h:0<=b):sJ .shr k a b=some (.int k (a.fdiv (2 ^ (min b.toNat k.bits)))):=by unfold sJ;rw[if_neg oM]
@[go_sem] theorem U0(k:IntKind)(n:Int):Bg .xor (.int k n)=some (.int k (ca .xor k (if k.signed then -1 else k.max) n)):=ax
@[go_sem] theorem UZ(b:Bool):Bg .not (.bool b)=some (.bool (!b)):=ax
@[go_sem] theorem UY(k:IntKind)(n:Int):Bg .neg (.int k n)=some (.int k (k.wrap (0 - n))):=ax
theorem wrap_i64{n:Int}(h1: -9223372036854775808<=n)(h2:n<=9223372036854775807):IntKind.i64.wrap n=n:=IntWalk.i64_in n ⟨by omega,by omega⟩
@[go_sem] theorem O5(t e i j o:Nat):gR (.loc t e i j) o=some (.loc t e i (j+o)):=ax
@[go_sem] theorem NR(d:D)(j o:Nat):gR (.cref d j) o=some (.cref d (j+o)):=ax
def LG(x:D):Option (Nat×Nat×Bool)->Option D
 |some (off,sz,_)=>if sz=0 then none else gR x off
 |none=>none
@[go_sem] theorem Qa(x:D)(off sz:Nat)(b:Bool):LG x (some (off,sz,b))=if sz=0 then none else gR x off:=ax
@[go_sem] theorem Gx(fs:List (Nat×Nat×Bool))(eq:List Nat)(size:Nat)(ag:Bool)(z:List D)(x:D)(i:Nat):jL ⟨.struct fs eq,size,ag,z⟩ x i=LG x fs[i]?:=ax
def LH(ds:List D):Option (Nat×Nat×Bool)->Option D
 |some (off,sz,ag)=>if sz=0 then none else fK (.agg ds) off ag sz
 |none=>none
@[go_sem] theorem Qb(x:List D)(off sz:Nat)(b:Bool):LH x (some (off,sz,b))=if sz=0 then none else fK (.agg x) off b sz:=ax
@[go_sem] theorem KL(fs:List (Nat×Nat×Bool))(eq:List Nat)(size:Nat)(ag:Bool)(z:List D)(ds:List D)(i:Nat):rT ⟨.struct fs eq,size,ag,z⟩ (.agg ds) i=LH ds fs[i]?:=ax
@[go_sem] theorem NK(d:D)(j k:Nat):fK d j false k=d.cells[j]?:=by simp[fK]
@[go_sem] theorem OU(d:D)(j k:Nat):fK d j true k=if j+k<=d.cells.length then some (.agg ((d.cells.drop j).take k))else none:=by simp[fK]
@[go_sem] theorem PR(ds:List D):(D.agg ds).cells=ds:=ax
@[go_sem] theorem PS(k:IntKind)(n:Int):(D.int k n).cells=[.int k n]:=ax
@[go_sem] theorem On(b:Bool):(D.bool b).cells=[.bool b]:=ax
@[go_sem] theorem PV(s:List UInt8):(D.str s).cells=[.str s]:=ax
@[go_sem] theorem Nx:D.nilsl.cells=[.nilsl]:=ax
@[go_sem] theorem RT(sz:Nat)(es:List D):(D.sl sz es).cells=[.sl sz es]:=ax
@[go_sem] theorem PU(t e sz o n:Nat):(D.osl t e sz o n).cells=[.osl t e sz o n]:=ax
@[go_sem] theorem PT(t e i j:Nat):(D.loc t e i j).cells=[.loc t e i j]:=ax
@[go_sem] theorem RS(f:Fn)(ds:List D):(D.fn f ds).cells=[.fn f ds]:=ax
@[go_sem] theorem KM(e esz b size:Nat)(ag ag':Bool)(z:List D)(es:List D)(n:Int)(h:0<=n)(h2:0<esz):dn ⟨.slice e esz b ag,size,ag',z⟩ (.sl esz es) n=(es[n.toNat]?).map fun d=> .cref d 0:=by simp[dn,h,h2]
@[go_sem] theorem JW(e esz b size:Nat)(ag ag':Bool)(z:List D)(t e' o len:Nat)(n:Int)(h:0<=n)(h':n<len)(h2:0<esz):dn ⟨.slice e esz b ag,size,ag',z⟩ (.osl t e' esz o len) n=some (.loc t e' (o+n.toNat) 0):=by simp[dn,h,h',h2]
@[go_sem] theorem OH(size:Nat)(ag:Bool)(z:List D)(s:List UInt8)(n:Int)(h:0<=n):mB ⟨.str,size,ag,z⟩ (.str s) n=(s[n.toNat]?).map fun b=> .int .u8 (b.toNat:Int):=by simp[mB,h]
@[go_sem] theorem ON(k:TK)(size:Nat)(ag:Bool)(z:List D)(d:D)(j:Nat)(h:0<size):fb ⟨k,size,ag,z⟩ bx (.cref d j)=fK d j ag size:=by simp[fb,h]
def C7(b:Bx)(e i:Nat)(f:D->Option D):Option D:=if b.ep=e/\lv b.k then(b.es[i]?).bind f else none
@[go_sem] theorem Qz(k:TK)(size:Nat)(ag:Bool)(z:List D)(t e i j:Nat)(h:0<size):fb ⟨k,size,ag,z⟩ bx (.loc t e i j)=C7 (bx t) e i fun d=>fK d j ag size:=by simp[fb,C7,h]
@[go_sem] theorem PO(e sz ty i:Nat)(es:List D)(f:D->Option D):C7 ⟨e,1,sz,ty,es⟩ e i f=(es[i]?).bind f:=by simp[C7,Mo,QC]
@[go_sem] theorem Pq(lo:Nat)(k:TK)(size:Nat)(ag:Bool)(z:List D)(t e i j:Nat)(v:D)(h:0<size):ez lo ⟨k,size,ag,z⟩ bx (.loc t e i j) v=if lo<=t then(if v.cells.length=size then(if v.cells.all D.one then qi bx t (bx t) e i j v.cells else none)else none)else none:=by
 unfold ez;cases h2:v.cells.all D.one<;>by_cases h1:v.cells.length=size<;>by_cases h3:lo<=t<;>simp_all
def uS(bx:ae)(t e sz ty i:Nat)(es:List D)(x:Option D):Option ae:=x.map fun d'=>ao bx t ⟨e,1,sz,ty,es.set i d'⟩
@[go_sem] theorem Oj(t e sz ty i j:Nat)(es cs:List D):qi bx t ⟨e,1,sz,ty,es⟩ e i j cs=uS bx t e sz ty i es ((es[i]?).bind fun d0=>dz d0 j cs):=by
 simp only[qi,uS];cases es[i]?<;>simp
@[go_sem] theorem Nt(t e sz ty i:Nat)(es:List D)(d':D):uS bx t e sz ty i es (some d')=some (ao bx t ⟨e,1,sz,ty,es.set i d'⟩):=by simp[uS]
@[go_sem] theorem TJ(ds cs:List D)(j:Nat):dz (.agg ds) j cs=if j+cs.length<=ds.length then some (.agg (ds.take j++cs++ds.drop (j+cs.length)))else none:=by simp[dz,D.cells]
@[go_sem] theorem TL(k:IntKind)(n:Int)(c:D):dz (.int k n) 0 [c]=some c:=by simp[dz,D.cells]
@[go_sem] theorem Q2(b:Bool)(c:D):dz (.bool b) 0 [c]=some c:=by simp[dz,D.cells]
@[go_sem] theorem A6(s:List UInt8)(c:D):dz (.str s) 0 [c]=some c:=by simp[dz,D.cells]
@[go_sem] theorem TM(x:Value)(c:D):dz (.raw x) 0 [c]=some c:=by simp[dz,D.cells]
@[go_sem] theorem O4(c:D):dz .nilsl 0 [c]=some c:=by simp[dz,D.cells]
@[go_sem] theorem UP(sz:Nat)(es:List D)(c:D):dz (.sl sz es) 0 [c]=some c:=by simp[dz,D.cells]
@[go_sem] theorem SU(cs:List D):tL true cs= .agg cs:=by simp[tL]
@[go_sem] theorem QF(c:D)(cs:List D):tL false (c::cs)=c:=by simp[tL]
@[go_sem] theorem T6(e sz b size:Nat)(g ag:Bool)(z:List D):i_ .cap [⟨.slice e sz b g,size,ag,z⟩] [.nilsl]=some (.int .i64 0):=ax
@[go_sem] theorem O_(e esz b size:Nat)(ag ag':Bool)(z:List D)(lo hi:Option Int)(hz:0<esz):gf ⟨.slice e esz b ag,size,ag',z⟩ .nilsl lo hi=(cT 0 lo hi).map fun _=> .nilsl:=by simp[gf,hz]
@[go_sem] theorem T7(ti:TI)(x:D):i_ .len [ti] [x]=(mO ti.k x).map fun n:Nat=>D.int .i64 (n:Int):=ax
@[go_sem] theorem SD(s:List UInt8):mO .str (.str s)=some s.length:=ax
@[go_sem] theorem Ux(e z b:Nat)(ag:Bool)(sz:Nat)(es:List D):mO (.slice e z b ag) (.sl sz es)=some es.length:=ax
@[go_sem] theorem SB(e z b:Nat)(ag:Bool):mO (.slice e z b ag) .nilsl=some 0:=ax
@[go_sem] theorem SC(e z b:Nat)(ag:Bool)(t e' sz o n:Nat):mO (.slice e z b ag) (.osl t e' sz o n)=some n:=ax
@[go_sem] theorem SP(k:IntKind)(a b:Int):minD [.int k a,.int k b]=some (.int k (min a b)):=by
 simp only[minD,if_true]
 congr 2
 split<;>omega
theorem Al(k:IntKind)(a b:Int):qB (.int k a) (.int k b)=some (.int k (max a b)):=by
 simp only[qB,if_true]
 congr 2
 split<;>omega
@[go_sem] theorem SO(k:IntKind)(a b:Int):maxD [.int k a,.int k b]=some (.int k (max a b)):=Al k a b
@[go_sem] theorem QD(k:IntKind)(a b c:Int):maxD [.int k a,.int k b,.int k c]=some (.int k (max (max a b) c)):=by simp only[maxD,Al,Option.bind_some]
@[go_sem] theorem P1(T:TypeId->TI)(k k':IntKind)(s s':Nat)(g g':Bool)(z z':List D)(k0:IntKind)(n:Int):lW T ⟨.int k0,s,g,z⟩ ⟨.int k,s',g',z'⟩ (.int k' n)=some (.int k (k.wrap n)):=ax
@[go_sem] theorem Q4(e esz b size:Nat)(ag ag':Bool)(z:List D)(es:List D)(lo hi:Option Int)(hz:0<esz):gf ⟨.slice e esz b ag,size,ag',z⟩ (.sl esz es) lo hi=(cT es.length lo hi).map fun p=> .sl esz ((es.drop p.1).take (p.2 - p.1)):=by simp[gf,hz]
@[go_sem] theorem Pa(e esz b size:Nat)(ag ag':Bool)(z:List D)(t e' o n:Nat)(lo hi:Option Int)(hz:0<esz):gf ⟨.slice e esz b ag,size,ag',z⟩ (.osl t e' esz o n) lo hi=(cT n lo hi).map fun p=> .osl t e' esz (o+p.1) (p.2 - p.1):=by simp[gf,hz]
@[go_sem] theorem OG(len esz size:Nat)(ag ag':Bool)(z ds:List D)(n:Int)(h0:0<=n)(h1:n<(len:Int))(hz:0<esz):mB ⟨.arr len esz ag,size,ag',z⟩ (.agg ds) n=fK (.agg ds) (n.toNat * esz) ag esz:=by simp[mB,h0,h1,hz]
@[go_sem] theorem O9(m size:Nat)(ag ag':Bool)(z:List D)(t e i j:Nat)(lo hi:Option Int)(h:m<=65536):gf ⟨.arr m 1 ag,size,ag',z⟩ (.loc t e i j) lo hi=(cT m lo hi).map fun p=> .csl t e i (j+p.1) (p.2 - p.1):=by simp[gf,h]
@[go_sem] theorem SA(e z b:Nat)(ag:Bool)(t e' i j n:Nat):mO (.slice e z b ag) (.csl t e' i j n)=some n:=ax
@[go_sem] theorem Sy(e z b:Nat)(ag:Bool)(sz:Nat)(es:List D):mO (.slice e z b ag) (.clp sz es)=some es.length:=ax
@[go_sem] theorem JV(e b size:Nat)(ag ag':Bool)(z:List D)(t e' i j len:Nat)(n:Int)(h:0<=n)(h':n<len):dn ⟨.slice e 1 b ag,size,ag',z⟩ (.csl t e' i j len) n=some (.loc t e' i (j+n.toNat)):=by simp[dn,h,h']
@[go_sem] theorem Th(t e i j n:Nat):bf bx (.csl t e i j n)=qF (bx t) e i j n:=by simp only[bf,qF]
@[go_sem] theorem Pb(size:Nat)(ag:Bool)(z:List D)(s:List UInt8)(lo hi:Option Int):gf ⟨.str,size,ag,z⟩ (.str s) lo hi=(cT s.length lo hi).map fun p=> .str ((s.drop p.1).take (p.2 - p.1)):=by simp[gf]
@[go_sem] theorem Uj(len:Nat)(h:Int)(h0:0<=h)(h1:h<=len):cT len none (some h)=some (0,h.toNat):=by simp[cT,h0,h1]
@[go_sem] theorem Uk(len:Nat)(l:Int)(h0:0<=l)(h1:l<=len):cT len (some l) none=some (l.toNat,len):=by simp[cT,h0,h1]
@[go_sem] theorem P7(len:Nat)(l h:Int)(h0:0<=l)(h1:l<=h)(h2:h<=len):cT len (some l) (some h)=some (l.toNat,h.toNat):=by simp[cT,h0,h1,h2]
def Dp(b:Bx):Bx:={b with k:=if b.k=1 then 2 else b.k}
@[go_sem] theorem R7(e sz ty:Nat)(es:List D):Dp ⟨e,1,sz,ty,es⟩=⟨e,2,sz,ty,es⟩:=by simp[Dp]
@[go_sem] theorem Sb:cv bx []=bx:=by simp[cv]
@[go_sem] theorem Qe(d:D)(ds:List D):cv bx (d::ds)=cv (cY bx d) ds:=by simp[cv]
@[go_sem] theorem R_(t e sz o n:Nat):cY bx (.osl t e sz o n)=ao bx t (Dp (bx t)):=by simp[cY,Dp]
@[go_sem] theorem R8(ds:List D):cY bx (.agg ds)=cv bx ds:=by simp[cY]
@[go_sem] theorem R9(k:IntKind)(n:Int):cY bx (.int k n)=bx:=by simp[cY]
@[go_sem] theorem Sa(x:List UInt8):cY bx (.str x)=bx:=by simp[cY]
@[go_sem] theorem OC:cY bx .nilsl=bx:=by simp[cY]
@[go_sem] theorem R0(lo e e' esz' b b' size size':Nat)(ag ag2 ag' ag2':Bool)(z z':List D)(x y:D):qp lo ⟨.slice e 1 b ag,size,ag2,z⟩ ⟨.slice e' esz' b' ag',size',ag2',z'⟩ bx x y=(ff bx 1 y).bind fun ys=>if ys.all D.one=true then qq lo bx x ys else none:=by simp[qp]
def yI(bx:ae)(t e o n:Nat)(ys:List D)(b:Bx):Option (Nat×ae):=if b.ep=e/\b.k=1/\b.sz=1/\o+n<=b.es.length then
 some (min ys.length n,ao bx t {b with es:=b.es.take o++ys.take n++b.es.drop (o+min ys.length n)})else none
@[go_sem] theorem P6(t e o n:Nat)(ys:List D):qq 0 bx (.osl t e 1 o n) ys=yI bx t e o n ys (bx t):=by simp[qq,yI]
@[go_sem] theorem P3(t e o n ty:Nat)(ys es:List D)(h:o+n<=es.length):yI bx t e o n ys ⟨e,1,1,ty,es⟩=some (min ys.length n,ao bx t ⟨e,1,1,ty,es.take o++ys.take n++es.drop (o+min ys.length n)⟩):=by simp[yI,h]
def yJ(bx:ae)(t e i j n:Nat)(ys:List D)(b:Bx):Option (Nat×ae):=if b.ep=e/\b.k=1 then match b.es[i]? with
 |some d=>(dz d j (ys.take n)).map fun d'=>(min ys.length n,ao bx t {b with es:=b.es.set i d'})
 |none=>none
 else none
@[go_sem] theorem P5(t e i j n:Nat)(ys:List D):qq 0 bx (.csl t e i j n) ys=yJ bx t e i j n ys (bx t):=by simp[qq,yJ]
@[go_sem] theorem P4(t e i j n sz ty:Nat)(ys es:List D):yJ bx t e i j n ys ⟨e,1,sz,ty,es⟩=(es[i]?).bind fun d=>(dz d j (ys.take n)).map fun d'=>(min ys.length n,ao bx t ⟨e,1,sz,ty,es.set i d'⟩):=by simp only[yJ];cases es[i]?<;>simp
@[go_sem] theorem P9(esz:Nat)(es:List D):ff bx esz (.sl esz es)=some es:=by simp[ff]
@[go_sem] theorem PN(fs:List (Nat×Nat×Bool))(eq:List Nat)(size:Nat)(ag:Bool)(z:List D)(ps:List (Nat×D))(h:0<size):iH ⟨.struct fs eq,size,ag,z⟩ ps=if z.length=size then(if fs.all (fun f=>decide (0<f.2.1))=true then(fz fs z ps).map .agg else none)else none:=by simp only[iH,h,true_and,lO]
@[go_sem] theorem Oh(n esz:Nat)(eag:Bool)(size:Nat)(ag:Bool)(z:List D)(ps:List (Nat×D))(h:0<size)(h2:0<esz):iH ⟨.arr n esz eag,size,ag,z⟩ ps=if z.length=size then(fz ((List.range n).map fun i=>(i * esz,esz,eag)) z ps).map .agg else none:=by simp only[iH,h,h2,and_true]
def GD(fs:List (Nat×Nat×Bool))(cs:List D)(d:D)(ps:List (Nat×D)):Option (Nat×Nat×Bool)->Option (List D)
 |some (off,sz,_)=>if d.cells.length=sz then(if off+sz<=cs.length then(if d.cells.all D.one then fz fs (cs.take off++d.cells++cs.drop (off+sz)) ps else none)else none)else none
 |none=>none
@[go_sem] theorem Oi(fs:List (Nat×Nat×Bool))(cs:List D):fz fs cs []=some cs:=ax
@[go_sem] theorem Ns(fs:List (Nat×Nat×Bool))(cs:List D)(i:Nat)(d:D)(ps:List (Nat×D)):fz fs cs ((i,d)::ps)=GD fs cs d ps fs[i]?:=by
 simp only[fz,GD];cases fs[i]? with
 |none=>rfl
 |some x=>
  obtain⟨off,sz,g⟩:=x;simp only;cases h2:d.cells.all D.one<;>by_cases h1:d.cells.length=sz<;>by_cases h3:off+sz<=cs.length<;>simp_all
@[go_sem] theorem PK(fs:List (Nat×Nat×Bool))(cs:List D)(d:D)(ps:List (Nat×D))(off sz:Nat)(g:Bool):GD fs cs d ps (some (off,sz,g))=if d.cells.length=sz then(if off+sz<=cs.length then(if d.cells.all D.one then fz fs (cs.take off++d.cells++cs.drop (off+sz)) ps else none)else none)else none:=ax
@[go_sem] theorem Jp(T:TypeId->TI)(e esz b size:Nat)(ag ag':Bool)(z:List D)(len:Nat)(ps:List (Nat×D))(h3:0<esz)(h4:len * esz<=65536):iM T ⟨.slice e esz b ag,size,ag',z⟩ len ps=if ps.map (·.1)=List.range len then(if ps.all (fun p=>p.2.cells.length==esz&&p.2.cells.all D.one&&p.2.pure)=true then(if(T e).zero.length=esz then some (.sl esz (ps.map (·.2)))else none)else none)else none:=by simp only[iM,h3,h4,true_and,lO]
@[go_sem] theorem SJ(T:TypeId->TI)(e esz b size:Nat)(ag ag':Bool)(z:List D)(len:Nat)(ps:List (Nat×D))(h3:0<esz)(h4:len * esz<=65536):oX T ⟨.slice e esz b ag,size,ag',z⟩ len ps=if ps.map (·.1)=List.range len then(if ps.all (fun p=>p.2.cells.length==esz&&p.2.cells.all D.one)=true then(if(T e).zero.length=esz then some (esz,e,ps.map (·.2))else none)else none)else none:=by simp only[oX,h3,h4,true_and,lO]
@[go_sem] theorem UM:List.range 0=[]:=ax
attribute [go_sem] beq_self_eq_true
def aW(bx:ae)(ts:List Nat)(el esz:Nat)(x:D)(xs:List D):Prop:=
 (x= .nilsl/\xs=[])\/∃t e,t∈ts/\x= .osl t e esz 0 xs.length/\bx t=⟨e,1,esz,el,xs⟩
theorem aW.nil(bx:ae)(ts:List Nat)(el esz:Nat):aW bx ts el esz .nilsl []:=.inl ⟨rfl,rfl⟩
theorem aW.mk{bx:ae}{ts:List Nat}{el esz t e:Nat}{xs:List D}(ht:t∈ts)(h:bx t=⟨e,1,esz,el,xs⟩):aW bx ts el esz (.osl t e esz 0 xs.length) xs:=.inr ⟨t,e,ht,rfl,h⟩
theorem aW.of{bx bx':ae}{ts:List Nat}{el esz:Nat}{x:D}{xs:List D}(h:aW bx ts el esz x xs)(hb:∀t,t∈ts->bx' t=bx t):aW bx' ts el esz x xs:=by
 rcases h with h|⟨t,e,ht,hx,h⟩
 ·exact .inl h
 ·exact .inr ⟨t,e,ht,hx,by rw[hb t ht];exact h⟩
theorem aW.len{bx:ae}{ts:List Nat}{el esz:Nat}{x:D}{xs:List D}(h:aW bx ts el esz x xs)(e b:Nat)(ag:Bool):mO (.slice e esz b ag) x=some xs.length:=by rcases h with⟨rfl,rfl⟩|⟨t,e',_,rfl,_⟩<;>rfl
theorem eG{lo:Nat}{T:TypeId->TI}{e esz b size d:Nat}{ag ag':Bool}{z:List D}{x:D}{xs ys:List D}{ts:List Nat}{K2:D×ae->Prop}(hx:aW bx ts e esz x xs)(hne:ys≠[])(hz:(T e).zero.length=esz)
 (h1:(xs.length+ys.length) * b<=140737488355328) (h2:0<esz) (h3:0<b) (hlo:∀t,t∈ts->lo<=t)
 (hk:∀(e':Nat) (bx':ae),bx' d=⟨e',1,esz,e,xs++ys⟩->(∀s,s≠d->s∉ts->bx' s=bx s)->K2 (.osl d e' esz 0 (xs++ys).length,bx')):
 aI (eh lo T ⟨.slice e esz b ag,size,ag',z⟩ (some d) bx x ys) K2:=by
 rcases hx with⟨rfl,rfl⟩|⟨t,e',ht,rfl,hb⟩
 ·simp only[eh,hne,if_false,hz,if_true,kX];rw[if_pos ⟨by simpa using h1,h2,h3⟩,kY];have:=hk ((bx d).ep+1) (ao bx d ⟨(bx d).ep+1,1,esz,e,ys⟩) (by simp[ao]) (fun s hs _=>by simp[ao,hs]);simpa using this
 ·simp only[eh,hne,if_false,hz,if_true,kX,wI,hb];rw[if_pos ⟨hlo t ht,trivial,trivial,trivial,trivial,trivial,trivial,Nat.le_refl _,h1,h2,h3⟩,kY];have:=hk ((bx d).ep+1) (ao (ao bx t ⟨e',0,esz,e,xs⟩) d ⟨(bx d).ep+1,1,esz,e,xs++ys⟩) (by simp[ao]) (fun s hs hst=>by
   have:s≠t:=by rintro rfl;exact hst ht
   simp[ao,hs,this])
  simpa using this
theorem eY{lo:Nat}{T:TypeId->TI}{e esz b size d:Nat}{ag ag':Bool}{z:List D}{x:D}{xs:List D}{ts:List Nat}{K2:D×ae->Prop}(hx:aW bx ts e esz x xs)(hk:K2 (x,bx)):
 aI (eh lo T ⟨.slice e esz b ag,size,ag',z⟩ (some d) bx x []) K2:=by
 rcases hx with⟨rfl,rfl⟩|⟨t,e',ht,rfl,hb⟩<;>simpa[eh,Ja,kY]using hk
end Go.V
namespace Go.V
open Go.RowKit
structure Place where
 b:Nat
 cap:Nat
 sz:Nat
 ty:TypeId
structure bN where
 at_:Nat->Nat->Option Place
 hold:Nat->Option Obj
instance:CoeFun bN (fun _=>Nat->Nat->Option Place):=⟨bN.at_⟩
def Obj.jn:Obj->Bool
 | .cells ..=>true
 |_=>false
def iY(w w':World)(b:Nat):Prop:=∀o,w.heap[b]? =some o->Obj.jn o=true->w'.heap[b]? =some o
theorem iY.of_eq{w w':World}{b:Nat}(h:w'.heap[b]? =w.heap[b]?):iY w w' b:=fun _ ho _=>h.trans ho
theorem iY.cell{w w':World}{b o:Nat}{v:Value}(h:iY w w' b)(hc:w.cell? ⟨b,o,none⟩=some v):w'.cell? ⟨b,o,none⟩=some v:=by
 unfold World.cell? at hc⊢;split at hc
 ·rename_i hb;have:=h _ hb rfl;simp only at this hb⊢;rw[this];exact hc
 ·cases hc
inductive ba(w:World)(S:Nat->Prop):D->Value->Prop where
 |undef (v:Value):ba w S .undef v
 |any (ds:List D) (v:Value):ba w S (.any ds) v
 |glo (v:Value) (h:∀b d,ue b=some d->ba w S (.cref d 0) (.pointer (some ⟨b,0,none⟩))) (hc:∀b cs,Dr b=some cs->S b/\∃ty sp,w.heap[b]? =some (.cells cs ty sp)):ba w S .glo v
 |int (k:IntKind) (n:Int):ba w S (.int k n) (.int k n)
 |bool (b:Bool):ba w S (.bool b) (.bool b)
 |str (l:List UInt8):ba w S (.str l) (.string ⟨l.toArray⟩)
 |raw (x:Value):ba w S (.raw x) x
 |nilsl:ba w S .nilsl (.slice none 0 0)
 |agg {ds:List D} {vs:Array Value} (hl:vs.size=ds.length) (h:∀(i:Nat) d v,ds[i]? =some d->vs[i]? =some v->ba w S d v):ba w S (.agg ds) (.agg vs)
 |tup {ds:List D} {vs:Array Value} (hl:vs.size=ds.length) (h:∀(i:Nat) d v,ds[i]? =some d->vs[i]? =some v->ba w S d v):ba w S (.tup ds) (.tuple vs)
 |sl {sz:Nat} {es:List D} {A:Option Addr} {n cap b off:Nat} {us:Nat->Nat->Value} (hn:n=es.length) (hcap:n<=cap) (hmax:cap<=maxLen) (hA:es≠[]->A=some ⟨b,off,none⟩/\S b)
  (hsz:∀(i:Nat) d,es[i]? =some d->d.cells.length=sz)
  (hc:∀(i:Nat) d (j:Nat) c,es[i]? =some d->d.cells[j]? =some c->w.cell? ⟨b,off+i * sz+j,none⟩=some (us i j))
  (h1:∀(i:Nat) d (j:Nat) c,es[i]? =some d->d.cells[j]? =some c->(us i j).oneCell'=true)
  (hr:∀(i:Nat) d (j:Nat) c,es[i]? =some d->d.cells[j]? =some c->ba w S c (us i j)):ba w S (.sl sz es) (.slice A n cap)
 |clp {sz:Nat} {es:List D} {A:Option Addr} {n:Nat} (h:ba w S (.sl sz es) (.slice A n n)):ba w S (.clp sz es) (.slice A n n)
 |cref {d:D} {j b off p:Nat} {us:Nat->Value} (hS:S b) (hp:p=off+j)
  (hc:∀(m:Nat) c,d.cells[m]? =some c->w.cell? ⟨b,off+m,none⟩=some (us m))
  (h1:∀(m:Nat) c,d.cells[m]? =some c->(us m).oneCell'=true)
  (hr:∀(m:Nat) c,d.cells[m]? =some c->ba w S c (us m)):ba w S (.cref d j) (.pointer (some ⟨b,p,none⟩))
 |fn {f:Fn} {caps:List D} {vs:Array Value} (hl:vs.size=caps.length) (h:∀(i:Nat) d v,caps[i]? =some d->vs[i]? =some v->ba w S d v):ba w S (.fn f caps) (.func f #[] vs)
 |bfn {f:FuncId} {caps:List D} {vs:Array Value} (hl:vs.size=caps.length) (h:∀(i:Nat) d v,caps[i]? =some d->vs[i]? =some v->ba w S d v):ba w S (.bfn f caps) (.func (.func f) vs #[])
 |ifc {t:TypeId} {d:D} {v:Value} (h:ba w S d v):ba w S (.ifc t d) (.iface t v)
 |abool (b:Bool):ba w S .abool (.bool b)
theorem ba.du{w w':World}{S S':Nat->Prop}{d:D}{v:Value}(h:ba w S d v)(hw:∀b,S b->iY w w' b)(hS:∀b,S b->S' b):ba w' S' d v:=by
 induction h with
 |undef v=>exact .undef v
 |any ds v=>exact .any ds v
 |glo v _ hc ih=>exact .glo v ih fun b cs h=>let ⟨h1,ty,sp,h2⟩:=hc b cs h;⟨hS b h1,ty,sp,hw b h1 _ h2 rfl⟩
 |int k n=>exact .int k n
 |bool b=>exact .bool b
 |abool b=>exact .abool b
 |str l=>exact .str l
 |raw x=>exact .raw x
 |nilsl=>exact .nilsl
 |agg hl _ ih=>exact .agg hl ih
 |tup hl _ ih=>exact .tup hl ih
 |@sl sz es A n cap b off us hn hcap hmax hA hsz hc h1 _ ih=>
  refine .sl (b:=b) (off:=off) (us:=us) hn hcap hmax (fun hne=>⟨(hA hne).1,hS _ (hA hne).2⟩) hsz (fun i d j c hi hj=>?_) h1 ih;have hne:es≠[]:=by rintro rfl;simp at hi
  exact(hw b (hA hne).2).cell (hc i d j c hi hj)
 |clp _ ih=>exact .clp ih
 |@cref d j b off p us hb hp hc h1 _ ih=>
  refine .cref (us:=us) (hS _ hb) hp (fun m c hm=>?_) h1 ih;exact(hw b hb).cell (hc m c hm)
 |fn hl _ ih=>exact .fn hl ih
 |bfn hl _ ih=>exact .bfn hl ih
 |ifc _ ih=>exact .ifc ih
theorem ba.mG{w:World}{S:Nat->Prop}{sz:Nat}{es:List D}{v:Value}(h:ba w S (.clp sz es) v):ba w S (.sl sz es) v:=by cases h;assumption
theorem ba.pK{w:World}{S:Nat->Prop}{sz:Nat}{es:List D}{v:Value}(h:ba w S (.clp sz es) v):∃A,v= .slice A es.length es.length:=by
 cases h with
 |clp h=>cases h with|sl hn=>subst hn;exact⟨_,rfl⟩
theorem ba.mono{w w':World}{S S':Nat->Prop}{d:D}{v:Value}(h:ba w S d v)(hw:∀b,S b->w'.heap[b]? =w.heap[b]?)(hS:∀b,S b->S' b):ba w' S' d v:=
 h.du (fun b hb=> .of_eq (hw b hb)) hS
inductive aE(w:World)(S:Nat->Prop)(ρ:bN):D->Value->Prop where
 |pure {d:D} {v:Value} (h:ba w S d v):aE w S ρ d v
 |loc {t e i j q:Nat} {p:Place} (hp:ρ t e=some p) (hq:q=i * p.sz+j):aE w S ρ (.loc t e i j) (.pointer (some ⟨p.b,q,none⟩))
 |osl {t e sz o n off cap:Nat} {p:Place} (hp:ρ t e=some p) (hsz:p.sz=sz) (h0:o=0->off=0/\cap=p.cap) (hoff:0<cap->off=o * sz) (hn:n<=cap) (hcap:o+cap<=p.cap/\p.cap<=maxLen):
  aE w S ρ (.osl t e sz o n) (.slice (some ⟨p.b,off,none⟩) n cap)
 |csl {t e i j n off cap:Nat} {p:Place} (hp:ρ t e=some p) (hoff:0<cap->off=i * p.sz+j) (hn:n<=cap) (hcap:cap<=65536):aE w S ρ (.csl t e i j n) (.slice (some ⟨p.b,off,none⟩) n cap)
 |omap {t e:Nat} {p:Place} (hp:ρ t e=some p):aE w S ρ (.omap t e) (.map (some p.b))
 |agg {ds:List D} {vs:Array Value} (hl:vs.size=ds.length) (h:∀(i:Nat) d v,ds[i]? =some d->vs[i]? =some v->aE w S ρ d v):aE w S ρ (.agg ds) (.agg vs)
 |tup {ds:List D} {vs:Array Value} (hl:vs.size=ds.length) (h:∀(i:Nat) d v,ds[i]? =some d->vs[i]? =some v->aE w S ρ d v):aE w S ρ (.tup ds) (.tuple vs)
 |fn {f:Fn} {caps:List D} {vs:Array Value} (hl:vs.size=caps.length) (h:∀(i:Nat) d v,caps[i]? =some d->vs[i]? =some v->aE w S ρ d v):aE w S ρ (.fn f caps) (.func f #[] vs)
 |bfn {f:FuncId} {caps:List D} {vs:Array Value} (hl:vs.size=caps.length) (h:∀(i:Nat) d v,caps[i]? =some d->vs[i]? =some v->aE w S ρ d v):aE w S ρ (.bfn f caps) (.func (.func f) vs #[])
 |ifc {t:TypeId} {d:D} {v:Value} (h:aE w S ρ d v):aE w S ρ (.ifc t d) (.iface t v)
theorem aE.du{w w':World}{S S':Nat->Prop}{ρ ρ':bN}{d:D}{v:Value}(h:aE w S ρ d v)(hw:∀b,S b->iY w w' b)(hS:∀b,S b->S' b)(hρ:∀t e p,ρ t e=some p->ρ' t e=some p):aE w' S' ρ' d v:=by
 induction h with
 |pure h=>exact .pure (h.du hw hS)
 |loc hp hq=>exact .loc (hρ _ _ _ hp) hq
 |osl hp hsz h0 hoff hn hcap=>exact .osl (hρ _ _ _ hp) hsz h0 hoff hn hcap
 |csl hp hoff hn hcap=>exact .csl (hρ _ _ _ hp) hoff hn hcap
 |omap hp=>exact .omap (hρ _ _ _ hp)
 |agg hl _ ih=>exact .agg hl ih
 |tup hl _ ih=>exact .tup hl ih
 |fn hl _ ih=>exact .fn hl ih
 |bfn hl _ ih=>exact .bfn hl ih
 |ifc _ ih=>exact .ifc ih
theorem aE.mono{w w':World}{S S':Nat->Prop}{ρ ρ':bN}{d:D}{v:Value}(h:aE w S ρ d v)(hw:∀b,S b->w'.heap[b]? =w.heap[b]?)(hS:∀b,S b->S' b)(hρ:∀t e p,ρ t e=some p->ρ' t e=some p):aE w' S' ρ' d v:=
 h.du (fun b hb=> .of_eq (hw b hb)) hS hρ
section
variable {w:World} {S:Nat->Prop} {ρ:bN} {d:D} {v:Value}
theorem aE.one(h:aE w S ρ d v)(ho:d.one=true):v.oneCell'=true:=by
 cases h with
 |pure h=>cases h<;>first|rfl|(simp[D.one]at ho;done)|exact ho
 |agg=>simp[D.one]at ho
 |tup=>simp[D.one]at ho
 |_=>rfl
theorem ER{v:Value}(h:v.oneCell'=true):v.cells= #[v]:=by cases v<;>first|rfl|(simp[Value.oneCell']at h)
theorem en{d:D}(h:d.one=true):d.cells=[d]:=by cases d<;>first|rfl|(simp[D.one]at h)
theorem aE.cells(h:aE w S ρ d v)(ho:d.cells.all D.one=true):v.cells.size=d.cells.length/\∀(j:Nat) c,d.cells[j]? =some c->∃u,v.cells[j]? =some u/\aE w S ρ c u/\u.oneCell'=true:=by
 have agg:∀(ds:List D) (vs:Array Value),vs.size=ds.length->(∀(i:Nat) d v,ds[i]? =some d->vs[i]? =some v->aE w S ρ d v)->ds.all D.one=true->
  (Value.agg vs).cells.size=(D.agg ds).cells.length/\∀(j:Nat) c,(D.agg ds).cells[j]? =some c->∃u,(Value.agg vs).cells[j]? =some u/\aE w S ρ c u/\u.oneCell'=true:=by
  intro ds vs hl h ho;refine⟨hl,fun j c hj=>?_⟩;have hj':j<ds.length:=(List.getElem?_eq_some_iff.1 hj).1;have hv:vs[j]? =some vs[j]:=Array.getElem?_eq_getElem oM;have hr:=h j c _ hj hv;exact⟨_,hv,hr,hr.one (List.all_eq_true.1 ho _ (List.mem_of_getElem? hj))⟩
 have single:d.one=true->d.cells=[d]->v.cells.size=d.cells.length/\∀(j:Nat) c,d.cells[j]? =some c->∃u,v.cells[j]? =some u/\aE w S ρ c u/\u.oneCell'=true:=by
  intro h1 hd;have hv:=ER (h.one h1);rw[hd,hv];refine⟨rfl,fun j c hj=>?_⟩;cases j with
  |zero=>simp at hj;subst hj;exact⟨v,rfl,h,h.one h1⟩
  |succ j=>simp at hj
 cases d with
 |agg ds=>
  cases h with
  |pure h=>cases h with|agg hl h=>exact agg ds _ hl (fun i d v hd hv=> .pure (h i d v hd hv)) ho
  |agg hl h=>exact agg ds _ hl h ho
 |_=>exact single (by simpa[D.cells]using ho) rfl
theorem aE.dK(h:aE w S ρ d v)(hp:d.pure=true):ba w S d v:=by
 have inL:∀(ds:List D),D.aF ds=true->∀(i:Nat) d,ds[i]? =some d->d.pure=true:=by
  intro ds;induction ds with
  |nil=>intro _ i d hd;simp at hd
  |cons x xs ih=>
   intro hp i d hd;simp only[D.aF,Bool.and_eq_true]at hp;cases i with
   |zero=>simp at hd;subst hd;exact hp.1
   |succ i=>exact ih hp.2 i d (by simpa using hd)
 induction h with
 |pure h=>exact h
 |loc=>simp[D.pure]at hp
 |osl=>simp[D.pure]at hp
 |csl=>simp[D.pure]at hp
 |omap=>simp[D.pure]at hp
 |agg hl _ ih=>exact .agg hl fun i d v hd hv=>ih i d v hd hv (inL _ (by simpa only[D.pure]using hp) i d hd)
 |tup hl _ ih=>exact .tup hl fun i d v hd hv=>ih i d v hd hv (inL _ (by simpa only[D.pure]using hp) i d hd)
 |fn hl _ ih=>exact .fn hl fun i d v hd hv=>ih i d v hd hv (inL _ (by simpa only[D.pure]using hp) i d hd)
 |bfn hl _ ih=>exact .bfn hl fun i d v hd hv=>ih i d v hd hv (inL _ (by simpa only[D.pure]using hp) i d hd)
 |ifc _ ih=>exact .ifc (ih (by simpa only[D.pure]using hp))
theorem ow:∀(ds:List D),D.aF ds=true->∀d∈ds,d.pure=true
 |[],_,d,hd=>by simp at hd
 |x::xs,hp,d,hd=>by
  simp only[D.aF,Bool.and_eq_true]at hp;rcases List.mem_cons.1 hd with rfl|hd
  ·exact hp.1
  ·exact ow xs hp.2 d hd
theorem nr{d:D}(h:d.pure=true):∀c∈d.cells,c.pure=true:=by
 intro c hc;cases d with
 |agg ds=>exact ow ds (by simpa only[D.pure]using h) c hc
 |_=>simp only[D.cells,List.mem_singleton]at hc;subst hc;exact h
theorem iS(v:Value):ba w S (tM v) v:=by
 unfold tM;split
 ·exact .int _ _
 ·exact .bool _
 ·rename_i s;exact .str s.data.toList
 ·exact .nilsl
 ·exact .raw _
theorem w_(v:Value):ba w S (ry v) v:=by
 unfold ry;split
 ·rename_i cs;refine .agg sI fun i d u hd hu=>?_;simp only[List.getElem?_map,Array.getElem?_toList,hu,Option.map_some,Option.some.injEq]at hd;subst hd;exact iS u
 ·exact iS _
theorem aE.pF{d d':D}{v:Value}(hw:bk d d'):ba w S d v->ba w S d' v:=by
 induction hw generalizing v with
 |refl=>exact id
 |nil sz=>intro h;cases h;exact .sl (b:=0) (off:=0) (us:=fun _ _=>undef) rfl sI (by simp[maxLen]) (fun h=>absurd rfl h) sI sI sI sI
 |tup hl _ ih=>
  intro h;cases h with
  |tup hl' h=>
   refine .tup (hl'.trans hl) fun i x' v hx hv=>?_;have hi:i<_:=(List.getElem?_eq_some_iff.1 hx).1;exact ih i _ x' (List.getElem?_eq_getElem (hl▸hi)) hx (h i _ v (List.getElem?_eq_getElem (hl▸hi)) hv)
 |agg hl _ ih=>
  intro h;cases h with
  |agg hl' h=>
   refine .agg (hl'.trans hl) fun i x' v hx hv=>?_;have hi:i<_:=(List.getElem?_eq_some_iff.1 hx).1;exact ih i _ x' (List.getElem?_eq_getElem (hl▸hi)) hx (h i _ v (List.getElem?_eq_getElem (hl▸hi)) hv)
 |@sl sz ds ds' hl hz _ ih=>
  intro h;cases h with
  |@sl _ _ A n cap b off us hn hcap hmax hA hsz hc h1 hr=>
   have at_:∀(i:Nat) d',ds'[i]? =some d'->∃d,ds[i]? =some d:=fun i d' hd'=>by
    have hi:=(List.getElem?_eq_some_iff.1 hd').1;exact⟨_,List.getElem?_eq_getElem (hl▸hi)⟩
   have cell:∀(i:Nat) d d' (j:Nat) c',ds[i]? =some d->ds'[i]? =some d'->d'.cells[j]? =some c'->∃c,d.cells[j]? =some c:=fun i d d' j c' hd hd' hc'=>by
    have hj:=(List.getElem?_eq_some_iff.1 hc').1;exact⟨_,List.getElem?_eq_getElem (by rw[hz i d d' hd hd'];exact hj)⟩
   refine .sl (A:=A) (b:=b) (off:=off) (us:=us) (hn.trans hl) hcap hmax (fun hne=>hA fun e=>hne (List.eq_nil_of_length_eq_zero (by rw[<-hl,e];rfl))) (fun i d' hd'=>?_) (fun i d' j c' hd' hc'=>?_) (fun i d' j c' hd' hc'=>?_) (fun i d' j c' hd' hc'=>?_)
   ·obtain⟨d,hd⟩:=at_ i d' hd';rw[<-hz i d d' hd hd'];exact hsz i d hd
   ·obtain⟨d,hd⟩:=at_ i d' hd';obtain⟨c,hcc⟩:=cell i d d' j c' hd hd' hc';exact hc i d j c hd hcc
   ·obtain⟨d,hd⟩:=at_ i d' hd';obtain⟨c,hcc⟩:=cell i d d' j c' hd hd' hc';exact h1 i d j c hd hcc
   ·obtain⟨d,hd⟩:=at_ i d' hd';obtain⟨c,hcc⟩:=cell i d d' j c' hd hd' hc';exact ih i d d' j c c' hd hd' hcc hc' (hr i d j c hd hcc)
end
inductive d_:D->Value->Prop where
 |int (k:IntKind) (n:Int):d_ (.int k n) (.int k n)
 |bool (b:Bool):d_ (.bool b) (.bool b)
 |str (l:List UInt8):d_ (.str l) (.string ⟨l.toArray⟩)
 |raw (x:Value):d_ (.raw x) x
 |nilsl:d_ .nilsl (.slice none 0 0)
 |agg {ds:List D} {vs:Array Value} (hl:vs.size=ds.length) (h:∀(i:Nat) d v,ds[i]? =some d->vs[i]? =some v->d_ d v):d_ (.agg ds) (.agg vs)
 |fn {f:Fn} {caps:List D} {vs:Array Value} (hl:vs.size=caps.length) (h:∀(i:Nat) d v,caps[i]? =some d->vs[i]? =some v->d_ d v):d_ (.fn f caps) (.func f #[] vs)
theorem d_.rep{w:World}{S:Nat->Prop}{d:D}{v:Value}(h:d_ d v):ba w S d v:=by
 induction h with
 |int k n=>exact .int k n
 |bool b=>exact .bool b
 |str l=>exact .str l
 |raw x=>exact .raw x
 |nilsl=>exact .nilsl
 |agg hl _ ih=>exact .agg hl ih
 |fn hl _ ih=>exact .fn hl ih
theorem lB:∀(ds:List D),D.kT ds=true->∀(i:Nat) d,ds[i]? =some d->d.simple=true
 |[],_,i,d,hd=>by simp at hd
 |x::xs,hp,i,d,hd=>by
  simp only[D.kT,Bool.and_eq_true]at hp;cases i with
  |zero=>simp at hd;subst hd;exact hp.1
  |succ i=>exact lB xs hp.2 i d (by simpa using hd)
theorem ba.simple{w:World}{S:Nat->Prop}{d:D}{v:Value}(h:ba w S d v)(hs:d.simple=true):d_ d v:=by
 induction h with
 |int k n=>exact .int k n
 |bool b=>exact .bool b
 |str l=>exact .str l
 |raw x=>exact .raw x
 |nilsl=>exact .nilsl
 |agg hl _ ih=>exact .agg hl fun i d v hd hv=>ih i d v hd hv (lB _ (by simpa only[D.simple]using hs) i d hd)
 |fn hl _ ih=>exact .fn hl fun i d v hd hv=>ih i d v hd hv (lB _ (by simpa only[D.simple]using hs) i d hd)
 |_=>simp[D.simple]at hs
theorem aE.simple{w:World}{S:Nat->Prop}{ρ:bN}{d:D}{v:Value}(h:aE w S ρ d v)(hs:d.simple=true):d_ d v:=by
 induction h with
 |pure h=>exact h.simple hs
 |agg hl _ ih=>exact .agg hl fun i d v hd hv=>ih i d v hd hv (lB _ (by simpa only[D.simple]using hs) i d hd)
 |fn hl _ ih=>exact .fn hl fun i d v hd hv=>ih i d v hd hv (lB _ (by simpa only[D.simple]using hs) i d hd)
 |_=>simp[D.simple]at hs
inductive ej:List D->List MapEntry->Prop where
 |nil:ej [] []
 |cons {k v:D} {e:MapEntry} {ds:List D} {es:List MapEntry} (hk:d_ k e.key) (hv:d_ v e.val) (t:ej ds es):ej (.tup [k,v,.int .i64 (e.born:Int)]::ds) (e::es)
inductive jU(ρ:bN):Obj->List D->Prop where
 |map {ents:Array MapEntry} {clock:Nat} {es:List D} (h:ej es ents.toList):jU ρ (.map ents clock) (.int .i64 (clock:Int)::es)
 |iter {m k:Nat} {p:Place} {since last:Nat} {seen:Array Nat} (hp:ρ m k=some p):jU ρ (.mapIter (some p.b) since seen last) (.omap m k:: .int .i64 (since:Int):: .int .i64 (last:Int)::seen.toList.map fun n:Nat=> .int .i64 (n:Int))
theorem jU.mono{ρ ρ':bN}{o:Obj}{es:List D}(h:jU ρ o es)(hρ:∀t e p,ρ t e=some p->ρ' t e=some p):jU ρ' o es:=by
 cases h with
 |map h=>exact .map h
 |iter hp=>exact .iter (hρ _ _ _ hp)
def Obj.xJ:Obj->Bool
 | .map ..| .mapIter ..=>true
 |_=>false
theorem jU.xJ{ρ:bN}{o:Obj}{es:List D}(h:jU ρ o es):Obj.xJ o=true:=by cases h<;>rfl
theorem jU.jn{ρ:bN}{o:Obj}{es:List D}(h:jU ρ o es):Obj.jn o=false/\∀x,o≠ .deferred x:=by
 cases h with
 |map h=>exact⟨rfl,fun _ e=>by cases e⟩
 |iter hp=>exact⟨rfl,fun _ e=>by cases e⟩
structure Holds(w:World)(S:Nat->Prop)(ρ:bN)(p:Place)(es:List D):Prop where
 ex:∃cur,w.heap[p.b]? =some (.cells cur p.ty (0,0))/\cur.size=p.cap * p.sz/\
  ∃us:Nat->Nat->Value,∀(i:Nat) d (j:Nat) c,es[i]? =some d->d.cells[j]? =some c->cur[i * p.sz+j]? =some (us i j)/\aE w S ρ c (us i j)/\(us i j).oneCell'=true
 len:es.length<=p.cap
 max:p.cap<=maxLen
 sz:∀(i:Nat) d,es[i]? =some d->d.cells.length=p.sz
theorem Holds.du{w w':World}{S S':Nat->Prop}{ρ ρ':bN}{p:Place}{es:List D}(h:Holds w S ρ p es)(hb:iY w w' p.b)(hw:∀b,S b->iY w w' b)(hS:∀b,S b->S' b)
 (hρ:∀t e p,ρ t e=some p->ρ' t e=some p):Holds w' S' ρ' p es:=by
 obtain⟨⟨cur,hc,hs,us,hu⟩,hl,hm,hz⟩:=h;exact⟨⟨cur,hb _ hc rfl,hs,us,fun i d j c hi hj=>⟨(hu i d j c hi hj).1,(hu i d j c hi hj).2.1.du hw hS hρ,(hu i d j c hi hj).2.2⟩⟩,hl,hm,hz⟩
theorem Holds.mono{w w':World}{S S':Nat->Prop}{ρ ρ':bN}{p:Place}{es:List D}(h:Holds w S ρ p es)(hb:w'.heap[p.b]? =w.heap[p.b]?)(hw:∀b,S b->w'.heap[b]? =w.heap[b]?)(hS:∀b,S b->S' b)
 (hρ:∀t e p,ρ t e=some p->ρ' t e=some p):Holds w' S' ρ' p es:=h.du (.of_eq hb) (fun b hb=> .of_eq (hw b hb)) hS hρ
theorem Holds.cell{w:World}{S:Nat->Prop}{ρ:bN}{p:Place}{es:List D}(h:Holds w S ρ p es){i:Nat}{d:D}{j:Nat}{c:D}(hi:es[i]? =some d)(hj:d.cells[j]? =some c):
 ∃u,w.cell? ⟨p.b,i * p.sz+j,none⟩=some u/\aE w S ρ c u/\u.oneCell'=true:=by
 obtain⟨⟨cur,hc,hs,us,hu⟩,hl,hm,hz⟩:=h;obtain⟨h1,h2,h3⟩:=hu i d j c hi hj;exact⟨us i j,by simp[World.cell?,hc,h1],h2,h3⟩
end Go.V
namespace Go.V
open Go.RowKit
structure Fr(M:Nat->Prop)(w w':World):Prop where
 os:w'.os=w.os
 tape:w'.tape=w.tape
 output:w'.output=w.output
 size:w.heap.size<=w'.heap.size
 block:∀k,k<w.heap.size->¬M k->w'.heap[k]? =w.heap[k]?
theorem Fr.refl(M:Nat->Prop)(w:World):Fr M w w:=⟨rfl,rfl,rfl,Nat.le_refl _,fun _ _ _=>rfl⟩
theorem Fr.step{M M':Nat->Prop}{a b c:World}(h:Fr M a b)(k:Fr M' b c)(hM:∀n,n<a.heap.size->M' n->M n):Fr M a c:=
 ⟨k.os.trans h.os,k.tape.trans h.tape,k.output.trans h.output,Nat.le_trans h.size k.size,fun i hi hm=>(k.block i (Nat.lt_of_lt_of_le hi h.size) (fun hm'=>hm (hM i hi hm'))).trans (h.block i hi hm)⟩
theorem Fr.og{M:Nat->Prop}{w w':World}(h:Below w.heap.size w w'):Fr M w w':=⟨h.os,h.tape,h.output,h.size,fun k hk _=>h.block k hk⟩
theorem Fr.alloc(M:Nat->Prop)(w:World)(o:Obj):Fr M w (w.alloc o):=.og ((Below.refl _ _).alloc (Nat.le_refl _) o)
theorem Fr.Aw{w w':World}{row:Option Nat}(h:w.grownBy w' row):Fr (fun b=>some b=row) w w':=⟨h.os,h.tape,h.output,h.size,fun k hk hm=>h.block k hk hm⟩
structure Ctx where
 w0:World
 S0:Nat->Prop
 n0:Nat
 M:Nat->Prop
 E:Nat->Prop
 N:Nat
 r0:bN
 ml:Nat
 lo:Nat
 Y:ae->(Nat->Option Obj)->Prop
 md:Nat
theorem gE{n:Nat}{bx bx':ae}(h:∀s,s<n->bx' s=bx s):bp n bx'=bp n bx:=by
 funext s;unfold bp;by_cases hs:s<n
 ·simp[hs,h s hs]
 ·simp[hs]
def eQ(r:Nat):Deferred:={target:=.collected r,args:= #[]}
def ay(X:Ctx)(ρ:bN)(bx:ae)(w:World)(b:Nat):Prop:=
 b<w.heap.size/\(X.S0 b\/X.n0<=b)/\∀t,(bx t).k=1->∀p,ρ t (bx t).ep=some p->p.b≠b
def ly:D->List D
 | .any l=>l
 |_=>[]
inductive Defs(w:World)(S:Nat->Prop)(ρ:bN)(m:Nat):List D->List Deferred->Prop where
 |nil:Defs w S ρ m [] []
 |mark {l:List D} {r:Nat} {ds:List Deferred} (h:ρ.hold r=some (.deferred (some []))) (hm:m<=r) (hn:eQ r∉ds) (t:Defs w S ρ m l ds):Defs w S ρ m l (eQ r::ds)
 |call {f:FuncId} {caps args l:List D} {vc va:Array Value} {ds:List Deferred} (hc:vc.size=caps.length) (hcr:∀(i:Nat) d v,caps[i]? =some d->vc[i]? =some v->aE w S ρ d v)
  (ha:va.size=args.length) (har:∀(i:Nat) d v,args[i]? =some d->va[i]? =some v->aE w S ρ d v) (t:Defs w S ρ m l ds):Defs w S ρ m (.tup (.fn (.func f) caps::args)::l) ({target:=.fn (.func f) vc,args:=va}::ds)
def Mk(w:World)(S:Nat->Prop)(ρ:bN)(md ml:Nat)(d:D)(ds:List Deferred):Prop:=md=1\/(Defs w S ρ ml (if md=0 then[]else ly d) ds/\(md=3->ds=[]))
theorem Defs.du{w w':World}{S S':Nat->Prop}{ρ ρ':bN}{m:Nat}{l:List D}{ds:List Deferred}(h:Defs w S ρ m l ds)(hw:∀b,S b->iY w w' b)(hS:∀b,S b->S' b)(hρ:∀t e p,ρ t e=some p->ρ' t e=some p)
 (hh:∀r,eQ r∈ds->ρ.hold r=some (.deferred (some []))->ρ'.hold r=some (.deferred (some []))):Defs w' S' ρ' m l ds:=by
 induction h with
 |nil=>exact .nil
 |mark h hm hn _ ih=>exact .mark (hh _ (List.mem_cons_self ..) h) hm hn (ih fun r hr=>hh r (List.mem_cons_of_mem _ hr))
 |call hc hcr ha har _ ih=>exact .call hc (fun i d v hd hv=>(hcr i d v hd hv).du hw hS hρ) ha (fun i d v hd hv=>(har i d v hd hv).du hw hS hρ) (ih fun r hr=>hh r (List.mem_cons_of_mem _ hr))
theorem Mk.du{w w':World}{S S':Nat->Prop}{ρ ρ':bN}{md m:Nat}{l:D}{ds:List Deferred}(h:Mk w S ρ md m l ds)(hw:∀b,S b->iY w w' b)(hS:∀b,S b->S' b)(hρ:∀t e p,ρ t e=some p->ρ' t e=some p)
 (hh:∀r,eQ r∈ds->ρ.hold r=some (.deferred (some []))->ρ'.hold r=some (.deferred (some []))):Mk w' S' ρ' md m l ds:=h.imp id fun h=>⟨h.1.du hw hS hρ hh,h.2⟩
theorem Mk.mono{w w':World}{S S':Nat->Prop}{ρ ρ':bN}{md m:Nat}{l:D}{ds:List Deferred}(h:Mk w S ρ md m l ds)(hw:∀b,S b->w'.heap[b]? =w.heap[b]?)(hS:∀b,S b->S' b)(hρ:∀t e p,ρ t e=some p->ρ' t e=some p)
 (hh:∀r,ρ.hold r=some (.deferred (some []))->ρ'.hold r=some (.deferred (some []))):Mk w' S' ρ' md m l ds:=h.du (fun b hb=> .of_eq (hw b hb)) hS hρ fun r _=>hh r
theorem Mk.nil{w:World}{S:Nat->Prop}{ρ:bN}{md m:Nat}{l:D}(h:md=0\/md=1\/ly l=[]):Mk w S ρ md m l []:=by
 rcases h with h|h|h
 ·exact .inr ⟨by rw[if_pos h];exact .nil,fun _=>rfl⟩
 ·exact .inl h
 ·exact .inr ⟨by rw[h,ite_self];exact .nil,fun _=>rfl⟩
structure Maps(X:Ctx)(ρ:bN)(bx:ae):Prop where
 has:∀t,(bx t).k=3->∃p o,ρ t (bx t).ep=some p/\ρ.hold p.b=some o/\(X.E p.b\/X.w0.heap.size<=p.b)/\jU ρ o (bx t).es
 inj:∀t t' p p',(bx t).k=3->(bx t').k=3->t≠t'->ρ t (bx t).ep=some p->ρ t' (bx t').ep=some p'->p.b≠p'.b
theorem Maps.of{X X':Ctx}{ρ ρ':bN}{bx bx':ae}(h:Maps X ρ bx)(hb:∀t,(bx' t).k=3->(bx t).k=3/\(bx' t).ep=(bx t).ep/\(bx' t).es=(bx t).es)(hρ:∀t e p,ρ t e=some p->ρ' t e=some p)
 (hh:∀t p o,(bx t).k=3->ρ t (bx t).ep=some p->ρ.hold p.b=some o->ρ'.hold p.b=some o) (hX:∀b,X.E b\/X.w0.heap.size<=b->X'.E b\/X'.w0.heap.size<=b):Maps X' ρ' bx':=by
 refine⟨fun t ht=>?_,fun t t' p p' ht ht' hn hp hp'=>?_⟩
 ·obtain⟨h1,h2,h3⟩:=hb t ht;obtain⟨p,o,g1,g2,g3,g4⟩:=h.has t h1;exact⟨p,o,by rw[h2];exact hρ _ _ _ g1,hh t p o h1 g1 g2,hX _ g3,by rw[h3];exact g4.mono hρ⟩
 ·obtain⟨h1,h2,_⟩:=hb t ht;obtain⟨k1,k2,_⟩:=hb t' ht';obtain⟨q,o,g1,_⟩:=h.has t h1;obtain⟨q',o',g1',_⟩:=h.has t' k1;rw[h2,hρ _ _ _ g1]at hp;rw[k2,hρ _ _ _ g1']at hp';injection hp with hp;injection hp' with hp';subst hp;subst hp';exact h.inj t t' q q' h1 k1 hn g1 g1'
structure az(X:Ctx)(ρ:bN)(σ:Env)(bx:ae)(a:Act)(w:World):Prop where
 fr:Fr (fun b=>X.M b\/X.E b) X.w0 w
 s0:∀b,X.S0 b->b<X.n0
 nb:X.n0<=X.w0.heap.size
 mb:∀b,X.M b->X.n0<=b
 ec:∀b,X.E b->∀o,X.w0.heap[b]? =some o->Obj.jn o=false
 size:a.tmps.size=X.N
 marks:Mk w (ay X ρ bx w) ρ X.md X.ml (σ cB) a.defers
 nle:X.N<=cB
 mkb:X.ml<=X.w0.heap.size
 tmps:∀t,aE w (ay X ρ bx w) ρ (σ t) (a.tmps.getD t undef)
 glo:aE w (ay X ρ bx w) ρ .glo undef
 box:∀t,lv (bx t).k->∃p,ρ t (bx t).ep=some p/\p.sz=(bx t).sz/\p.ty=(bx t).ty/\(X.n0<=p.b/\((bx t).k=1->X.w0.heap.size<=p.b\/X.M p.b))/\Holds w (ay X ρ bx w) ρ p (bx t).es
 inj:∀t t' p p',(bx t).k=1->lv (bx t').k->t≠t'->ρ t (bx t).ep=some p->ρ t' (bx t').ep=some p'->p.b≠p'.b
 eps:∀t e p,ρ t e=some p->e<=(bx t).ep
 r0:∀t e p,X.r0 t e=some p->ρ t e=some p
 hold:∀b o,ρ.hold b=some o->w.heap[b]? =some o/\Obj.jn o=false
 holds0:∀b o,X.r0.hold b=some o->¬X.E b->ρ.hold b=some o
 yc:∀c h h',X.Y c h->(∀b o,h b=some o->h' b=some o)->X.Y c h'
 inv:X.Y (bp X.lo bx) ρ.hold
 y0:X.lo=0->∀c h,X.Y c h
 h0lt:∀b o,X.r0.hold b=some o->b<X.w0.heap.size
 maps:Maps X ρ bx
variable {X:Ctx} {ρ:bN} {σ:Env} {bx:ae} {a:Act} {w:World}
theorem Holds.jn{S:Nat->Prop}{p:Place}{es:List D}(h:Holds w S ρ p es):∃o,w.heap[p.b]? =some o/\Obj.jn o=true:=by
 obtain⟨⟨cur,hc,_⟩,_⟩:=h;exact⟨_,hc,rfl⟩
theorem Holds.lt{S:Nat->Prop}{p:Place}{es:List D}(h:Holds w S ρ p es):p.b<w.heap.size:=by
 obtain⟨⟨cur,hc,_⟩,_⟩:=h;exact(Array.getElem?_eq_some_iff.1 hc).1
theorem az.ext{w':World}(h:az X ρ σ bx a w)(hb:Below w.heap.size w w'):az X ρ σ bx a w':=by
 have hS:∀b,ay X ρ bx w b->ay X ρ bx w' b:=fun b hb'=>⟨Nat.lt_of_lt_of_le hb'.1 hb.size,hb'.2⟩
 have hw:∀b,ay X ρ bx w b->w'.heap[b]? =w.heap[b]?:=fun b hb'=>hb.block b hb'.1;exact⟨h.fr.step (Fr.og (M:=fun _=>False) hb) (fun _ _ h=>h.elim),h.s0,h.nb,h.mb,h.ec,h.size,h.marks.mono hw hS (fun _ _ _ h=>h) (fun _ h=>h),h.nle,h.mkb,fun t=>(h.tmps t).mono hw hS (fun _ _ _ h=>h),h.glo.mono hw hS (fun _ _ _ h=>h),
  fun t ht=>let ⟨p,h1,h2,h3,h4,h5⟩:=h.box t ht;⟨p,h1,h2,h3,h4,h5.mono (hb.block _ h5.lt) hw hS (fun _ _ _ h=>h)⟩,h.inj,h.eps,h.r0,
  fun b o ho=>⟨(hb.block b (Array.getElem?_eq_some_iff.1 (h.hold b o ho).1).1).trans (h.hold b o ho).1,(h.hold b o ho).2⟩,h.holds0,h.yc,h.inv,h.y0,h.h0lt,h.maps⟩
theorem az.put{dst:Option Tmp}{d:D}{v:Value}(h:az X ρ σ bx a w)(hd:∀t,dst=some t->t<X.N)(hr:aE w (ay X ρ bx w) ρ d v):az X ρ (put σ dst d) bx (a.put dst v) w:=by
 cases dst with
 |none=>exact h
 |some t=>
  have ht:=hd t rfl;have hdf:cB≠t:=by
   intro e;exact absurd (hd t rfl) (by rw[<-e];exact Nat.not_lt.2 h.nle)
  refine⟨h.fr,h.s0,h.nb,h.mb,h.ec,by simp[Act.put,h.size],by simpa[Act.put,V.put,ao,hdf]using h.marks,h.nle,h.mkb,fun x=>?_,h.glo,h.box,h.inj,h.eps,h.r0,h.hold,h.holds0,h.yc,h.inv,h.y0,h.h0lt,h.maps⟩;simp only[V.put,ao,Act.put];by_cases hx:x=t
  ·subst hx;simp only[if_true];have:(a.tmps.setIfInBounds x v).getD x undef=v:=by simp[Array.getD,h.size,ht]
   rw[this];exact hr
  ·simp only[hx,if_false];have:(a.tmps.setIfInBounds t v).getD x undef=a.tmps.getD x undef:=by simp only[Array.getD_eq_getD_getElem?,Array.getElem?_setIfInBounds_ne (Ne.symm hx)]
   rw[this];exact h.tmps x
theorem az.ev(h:az X ρ σ bx a w)(x:Operand):aE w (ay X ρ bx w) ρ (ev σ x) (a.eval x):=by
 cases x with
 |tmp t=>exact h.tmps t
 |const v=>exact .pure (w_ v)
 |global g=>
  show aE w (ay X ρ bx w) ρ (P_ g (ue g)) (.pointer (some ⟨g,0,none⟩));cases hg:ue g with
  |none=>exact .pure (.raw _)
  |some d=>
   have h:=h.glo.dK rfl;cases h with
   |glo _ h _=>exact .pure (h g d hg)
 |func f=>exact .pure (.fn rfl sI)
theorem az.own{w':World}{t:Nat}{p:Place}{es:List D}{bx1:ae}(h:az X ρ σ bx a w)
 (hlo:X.lo<=t) (h1:∀s,bx1 s=bx s\/((bx1 s).k=0/\(bx1 s).ep=(bx s).ep/\X.lo<=s)) {Old:Nat->Prop} (hg:Fr Old w w')
 (hO:∀b,Old b->∃t0 p0,(bx t0).k=1/\ρ t0 (bx t0).ep=some p0/\p0.b=b/\(t0=t\/(bx1 t0).k=0)) (hp:w.heap.size<=p.b\/Old p.b)
 (hh:∀S' ρ',(∀b,ay X ρ bx w b->S' b)->(∀s e q,ρ s e=some q->ρ' s e=some q)->Holds w' S' ρ' p es):
 az X ⟨fun s e=>if s=t/\e=(bx t).ep+1 then some p else ρ s e,ρ.hold⟩ σ (ao bx1 t ⟨(bx t).ep+1,1,p.sz,p.ty,es⟩) a w':=by
 have hnO:∀b,ay X ρ bx w b->¬Old b:=by
  intro b hb e;obtain⟨t0,p0,hk,hr,hpb,_⟩:=hO b e;exact hb.2.2 t0 hk p0 hr hpb
 have hne:∀b,ay X ρ bx w b->b≠p.b:=by
  intro b hb e;rcases hp with hp|hp
  ·have:=hb.1;omega
  ·exact hnO b hb (e▸hp)
 have hρ:∀s e q,ρ s e=some q->(if s=t/\e=(bx t).ep+1 then some p else ρ s e)=some q:=by
  intro s e q hq;rw[if_neg]
  ·exact hq
  ·rintro⟨rfl,rfl⟩;have:=h.eps _ _ _ hq;omega
 have hw:∀b,ay X ρ bx w b->w'.heap[b]? =w.heap[b]?:=fun b hb=>hg.block b hb.1 (hnO b hb);have live:∀s,s≠t->lv (ao bx1 t ⟨(bx t).ep+1,1,p.sz,p.ty,es⟩ s).k->ao bx1 t ⟨(bx t).ep+1,1,p.sz,p.ty,es⟩ s=bx s:=by
  intro s hs hk;simp only[ao,hs,if_false]at hk⊢;rcases h1 s with e|⟨e,_⟩
  ·exact e
  ·exact absurd e hk.1
 have hS:∀b,ay X ρ bx w b->ay X ⟨fun s e=>if s=t/\e=(bx t).ep+1 then some p else ρ s e,ρ.hold⟩ (ao bx1 t ⟨(bx t).ep+1,1,p.sz,p.ty,es⟩) w' b:=by
  intro b hb;refine⟨Nat.lt_of_lt_of_le hb.1 hg.size,hb.2.1,fun s hs q hq=>?_⟩;by_cases hst:s=t
  ·subst hst;simp only[ao,if_true,and_self]at hq;injection hq with hq;subst hq;exact(hne b hb).symm
  ·have hl:=live s hst (by rw[hs];decide);rw[hl]at hs hq;simp only[hst,false_and,if_false]at hq;exact hb.2.2 s hs q hq
 have hOM:∀b,Old b->X.w0.heap.size<=b\/X.M b:=by
  intro b hb;obtain⟨t0,p0,hk,hr,hpb,_⟩:=hO b hb;obtain⟨p1,hr1,_,_,hb,_⟩:=h.box t0 (by rw[hk];decide);rw[hr]at hr1;injection hr1 with hr1;subst hr1;rw[hpb]at hb;exact hb.2 hk
 have hOC:∀b o,Old b->w.heap[b]? =some o->Obj.jn o=true:=by
  intro b o hb ho;obtain⟨t0,p0,hk,hr,hpb,_⟩:=hO b hb;obtain⟨p1,hr1,_,_,_,hh⟩:=h.box t0 (by rw[hk];decide);rw[hr]at hr1;injection hr1 with hr1;subst hr1;obtain⟨o',ho',hc⟩:=hh.jn;rw[hpb,ho]at ho';injection ho' with ho';subst ho';exact hc
 have hpb:X.w0.heap.size<=p.b\/X.M p.b:=by
  rcases hp with hp|hp
  ·exact .inl (Nat.le_trans h.fr.size hp)
  ·exact hOM _ hp
 have otherO:∀s q,s≠t->lv (bx s).k->ao bx1 t ⟨(bx t).ep+1,1,p.sz,p.ty,es⟩ s=bx s->ρ s (bx s).ep=some q->¬Old q.b:=by
  intro s q hst hk hl hq e;obtain⟨t0,p0,hk0,hr0,hpb0,h0⟩:=hO _ e;by_cases hs0:s=t0
  ·subst hs0;rcases h0 with h0|h0
   ·exact hst h0
   ·simp only[ao,hst,if_false]at hl;rw[hl]at h0;exact hk.1 h0
  ·exact h.inj t0 s p0 q hk0 hk (Ne.symm hs0) hr0 hq hpb0
 have other:∀s q,s≠t->lv (bx s).k->ao bx1 t ⟨(bx t).ep+1,1,p.sz,p.ty,es⟩ s=bx s->ρ s (bx s).ep=some q->q.b≠p.b:=by
  intro s q hst hk hl hq e;rcases hp with hp|hp
  ·obtain⟨q',hq',_,_,_,hh'⟩:=h.box s hk;rw[hq]at hq';injection hq' with hq';subst hq';have:=hh'.lt;omega
  ·exact otherO s q hst hk hl hq (e▸hp)
 refine⟨h.fr.step hg (fun n hn hm=>?_),h.s0,h.nb,h.mb,h.ec,h.size,h.marks.mono hw hS hρ (fun _ h=>h),h.nle,h.mkb,fun x=>(h.tmps x).mono hw hS hρ,h.glo.mono hw hS hρ,fun s hs=>?_,fun s s' q q' hs hs' hss hq hq'=>?_,fun s e q hq=>?_,fun s e q hq=>hρ s e q (h.r0 s e q hq),fun b o ho=>?_,h.holds0,h.yc,?_,h.y0,h.h0lt,h.maps.of (fun s hs=>?_) hρ (fun _ _ _ _ _ h=>h) (fun _ h=>h)⟩
 ·rcases hOM n hm with hpb|hpb
  ·omega
  ·exact .inl hpb
 ·by_cases hst:s=t
  ·subst hst;simp only[ao,if_true];exact⟨p,by simp,rfl,rfl,⟨hpb.elim (fun h'=>Nat.le_trans h.nb h') (h.mb _),fun _=>hpb⟩,hh _ _ hS hρ⟩
  ·have hl:=live s hst hs;rw[hl]at hs⊢;obtain⟨q,hq,h2,h3,h4,h5⟩:=h.box s hs;refine⟨q,by simp only[hst,false_and,if_false];exact hq,h2,h3,h4,h5.mono (hg.block _ h5.lt (otherO s q hst hs hl hq)) hw hS hρ⟩
 ·by_cases hst:s=t
  ·subst hst;simp only[ao,if_true,and_self]at hq;injection hq with hq;subst hq;have hl:=live s' (Ne.symm hss) hs';rw[hl]at hs' hq';simp only[Ne.symm hss,false_and,if_false]at hq';exact(other s' q' (Ne.symm hss) hs' hl hq').symm
  ·have hl:=live s hst (by rw[hs];decide);rw[hl]at hs hq;simp only[hst,false_and,if_false]at hq;by_cases hst':s'=t
   ·subst hst';simp only[ao,if_true,and_self]at hq';injection hq' with hq';subst hq';exact other s q hst (by rw[hs];decide) hl hq
   ·have hl':=live s' hst' hs';rw[hl']at hs' hq';simp only[hst',false_and,if_false]at hq';exact h.inj s s' q q' hs hs' hss hq hq'
 ·by_cases hst:s=t
  ·subst hst;simp only[ao,if_true];by_cases he:e=(bx s).ep+1
   ·omega
   ·simp only[he,and_false,if_false]at hq;have:=h.eps _ _ _ hq;omega
  ·simp only[hst,false_and,if_false]at hq;have:=h.eps _ _ _ hq;simp only[ao,hst,if_false];rcases h1 s with e1|⟨_,e1,_⟩
   ·rw[e1];exact this
   ·rw[e1];exact this
 ·obtain⟨g1,g2⟩:=h.hold b o ho;refine⟨(hg.block b (Array.getElem?_eq_some_iff.1 g1).1 (fun hb=>?_)).trans g1,g2⟩;have:=hOC b o hb g1;rw[g2]at this;cases this
 ·rw[gE (bx:=bx) (fun s hs=>?_)]
  ·exact h.inv
  ·have:s≠t:=oM;simp only[ao,this,if_false];rcases h1 s with e1|⟨_,_,e1⟩
   ·exact e1
   ·omega
 ·by_cases hst:s=t
  ·subst hst;simp[ao]at hs
  ·simp only[ao,hst,if_false]at hs⊢;rcases h1 s with e1|⟨e1,_⟩
   ·rw[e1]at hs⊢;exact⟨hs,rfl,rfl⟩
   ·rw[e1]at hs;cases hs
theorem az.stored{w':World}{t:Nat}{p:Place}{es:List D}(h:az X ρ σ bx a w)(hlo:X.lo<=t)(hk:(bx t).k=1)(hr:ρ t (bx t).ep=some p)(hg:Fr (fun b=>b=p.b) w w')
 (hh:Holds w' (ay X ρ bx w) ρ p es):az X ρ σ (ao bx t {bx t with es:=es}) a w':=by
 have hk':∀s,(ao bx t {bx t with es:=es} s).k=(bx s).k:=fun s=>by by_cases hs:s=t<;>simp[ao,hs]
 have he':∀s,(ao bx t {bx t with es:=es} s).ep=(bx s).ep:=fun s=>by by_cases hs:s=t<;>simp[ao,hs]
 have hne:∀b,ay X ρ bx w b->b≠p.b:=fun b hb e=>hb.2.2 t hk p hr e.symm;have hw:∀b,ay X ρ bx w b->w'.heap[b]? =w.heap[b]?:=fun b hb=>hg.block b hb.1 (hne b hb);have hS:∀b,ay X ρ bx w b->ay X ρ (ao bx t {bx t with es:=es}) w' b:=fun b hb=>⟨Nat.lt_of_lt_of_le hb.1 hg.size,hb.2.1,fun s hs q hq=>by rw[hk']at hs;rw[he']at hq;exact hb.2.2 s hs q hq⟩
 obtain⟨p0,hr0,hz0,ht0,hb0,hh0⟩:=h.box t (by rw[hk];decide);rw[hr]at hr0;injection hr0 with hr0;subst hr0;refine⟨h.fr.step hg (fun n hn hm=>?_),h.s0,h.nb,h.mb,h.ec,h.size,h.marks.mono hw hS (fun _ _ _ h=>h) (fun _ h=>h),h.nle,h.mkb,fun x=>(h.tmps x).mono hw hS (fun _ _ _ h=>h),h.glo.mono hw hS (fun _ _ _ h=>h),fun s hs=>?_,fun s s' q q' hs hs' hss hq hq'=>?_,fun s e q hq=>by rw[he'];exact h.eps s e q hq,h.r0,fun b o ho=>?_,h.holds0,h.yc,?_,h.y0,h.h0lt,h.maps.of (fun s hs=>?_) (fun _ _ _ h=>h) (fun _ _ _ _ _ h=>h) (fun _ h=>h)⟩
 ·subst hm;rcases hb0.2 hk with hb0|hb0
  ·omega
  ·exact .inl hb0
 ·by_cases hst:s=t
  ·subst hst;simp only[ao,if_true];exact⟨p,hr,hz0,ht0,⟨hb0.1,hb0.2⟩,hh.mono rfl (fun _ _=>rfl) hS (fun _ _ _ h=>h)⟩
  ·rw[hk']at hs;obtain⟨q,hq,h2,h3,h4,h5⟩:=h.box s hs;simp only[ao,hst,if_false];exact⟨q,hq,h2,h3,h4,h5.mono (hg.block _ h5.lt (h.inj t s p q hk hs (Ne.symm hst) hr hq).symm) hw hS (fun _ _ _ h=>h)⟩
 ·rw[hk']at hs hs';rw[he']at hq hq';exact h.inj s s' q q' hs hs' hss hq hq'
 ·obtain⟨g1,g2⟩:=h.hold b o ho;refine⟨(hg.block b (Array.getElem?_eq_some_iff.1 g1).1 (fun hb=>?_)).trans g1,g2⟩;obtain⟨o',ho',hc⟩:=hh0.jn;rw[<-hb,g1]at ho';injection ho' with ho';subst ho';rw[g2]at hc;cases hc
 ·rw[gE (bx:=bx) (fun s hs=>?_)]
  ·exact h.inv
  ·have:s≠t:=oM;simp[ao,this]
 ·by_cases hst:s=t
  ·subst hst;rw[hk',hk]at hs;cases hs
  ·simp only[ao,hst,if_false]at hs⊢;exact⟨hs,trivial,trivial⟩
theorem az.less{bx':ae}(h:az X ρ σ bx a w)(hl:∀s,(bx' s)=bx s\/(X.lo<=s/\(bx' s).k≠1/\(bx' s).ep=(bx s).ep/\(lv (bx' s).k->lv (bx s).k/\(bx' s).sz=(bx s).sz/\(bx' s).ty=(bx s).ty/\(bx' s).es=(bx s).es)/\((bx' s).k=3->(bx s).k=3/\(bx' s).es=(bx s).es))):az X ρ σ bx' a w:=by
 have he:∀s,(bx' s).ep=(bx s).ep:=fun s=>by
  rcases hl s with e|e
  ·rw[e]
  ·exact e.2.2.1
 have h1:∀s,(bx' s).k=1->(bx s).k=1:=fun s hs=>by
  rcases hl s with e|e
  ·rw[e]at hs;exact hs
  ·exact absurd hs e.2.1
 have h0:∀s,lv (bx' s).k->lv (bx s).k/\(bx' s).sz=(bx s).sz/\(bx' s).ty=(bx s).ty/\(bx' s).es=(bx s).es:=fun s hs=>by
  rcases hl s with e|e
  ·rw[e]at hs⊢;exact⟨hs,rfl,rfl,rfl⟩
  ·exact e.2.2.2.1 hs
 have hS:∀b,ay X ρ bx w b->ay X ρ bx' w b:=fun b hb=>⟨hb.1,hb.2.1,fun s hs q hq=>by rw[he]at hq;exact hb.2.2 s (h1 s hs) q hq⟩
 refine⟨h.fr,h.s0,h.nb,h.mb,h.ec,h.size,h.marks.mono (fun _ _=>rfl) hS (fun _ _ _ h=>h) (fun _ h=>h),h.nle,h.mkb,fun x=>(h.tmps x).mono (fun _ _=>rfl) hS (fun _ _ _ h=>h),h.glo.mono (fun _ _=>rfl) hS (fun _ _ _ h=>h),fun s hs=>?_,fun s s' q q' hs hs' hss hq hq'=>?_,fun s e q hq=>by rw[he];exact h.eps s e q hq,h.r0,h.hold,h.holds0,h.yc,?_,h.y0,h.h0lt,h.maps.of (fun s hs=>?_) (fun _ _ _ h=>h) (fun _ _ _ _ _ h=>h) (fun _ h=>h)⟩
 ·obtain⟨g1,g2,g3,g4⟩:=h0 s hs;obtain⟨q,hq,k2,k3,k4,k5⟩:=h.box s g1;exact⟨q,by rw[he];exact hq,by rw[g2];exact k2,by rw[g3];exact k3,⟨k4.1,fun hk=>k4.2 (h1 s hk)⟩,by rw[g4];exact k5.mono rfl (fun _ _=>rfl) hS (fun _ _ _ h=>h)⟩
 ·rw[he]at hq hq';exact h.inj s s' q q' (h1 s hs) (h0 s' hs').1 hss hq hq'
 ·rw[gE (bx:=bx) (fun s hs=>?_)]
  ·exact h.inv
  ·rcases hl s with e1|⟨e1,_⟩
   ·exact e1
   ·omega
 ·rcases hl s with e|e
  ·rw[e]at hs⊢;exact⟨hs,rfl,rfl⟩
  ·exact⟨(e.2.2.2.2 hs).1,e.2.2.1,(e.2.2.2.2 hs).2⟩
def ui(ρ:bN)(bx:ae)(b:Nat):Prop:=∃t p,(bx t).k=3/\ρ t (bx t).ep=some p/\p.b=b
def Ctx.sub(X:Ctx)(ρ:bN)(bx:ae)(w:World)(E:Nat->Prop)(N ml md:Nat):Ctx:=
 {w0:=w,S0:=X.S0,n0:=X.n0,M:=fun b=>∃t p,(bx t).k=1/\ρ t (bx t).ep=some p/\p.b=b,E:=fun b=>E b\/ui ρ bx b,N:=N,r0:=ρ,ml:=ml,lo:=0,Y:=fun _ _=>True,md:=md}
theorem az.Ap(h:az X ρ σ bx a w){b:Nat}{o:Obj}(hb:ρ.hold b=some o)(hn:Obj.xJ o=false):¬ui ρ bx b:=by
 rintro⟨t,p,h1,h2,rfl⟩;obtain⟨q,o',g1,g2,_,g4⟩:=h.maps.has t h1;rw[h2]at g1;injection g1 with g1;subst g1;rw[hb]at g2;injection g2 with g2;subst g2;rw[g4.xJ]at hn;cases hn
theorem az.sub(h:az X ρ σ bx a w){E:Nat->Prop}{N ml md:Nat}{σ':Env}{a':Act}(hN:N<=cB)(hE:∀b,E b->∀o,w.heap[b]? =some o->Obj.jn o=false)(hs:a'.tmps.size=N)(hm:Mk w (ay X ρ bx w) ρ md ml (σ' cB) a'.defers)(hmk:ml<=w.heap.size)
 (ht:∀t,aE w (ay X ρ bx w) ρ (σ' t) (a'.tmps.getD t undef)):az (X.sub ρ bx w E N ml md) ρ σ' bx a' w:=by
 have hE':∀b,E b\/ui ρ bx b->∀o,w.heap[b]? =some o->Obj.jn o=false:=fun b hb o ho=>by
  rcases hb with hb|⟨t,p,h1,h2,rfl⟩
  ·exact hE b hb o ho
  ·obtain⟨q,o',g1,g2,_,g4⟩:=h.maps.has t h1;rw[h2]at g1;injection g1 with g1;subst g1;have:=(h.hold _ _ g2).1;rw[ho]at this;injection this with this;subst this;exact g4.jn.1
 refine⟨.refl _ _,h.s0,Nat.le_trans h.nb h.fr.size,?_,hE',hs,hm,hN,hmk,ht,h.glo,fun t hk=>?_,h.inj,h.eps,fun _ _ _ h=>h,h.hold,fun _ _ h _=>h,fun _ _ _ _ _=>trivial,trivial,fun _ _ _=>trivial,fun b o ho=>(Array.getElem?_eq_some_iff.1 (h.hold b o ho).1).1,⟨fun t ht=>let ⟨p,o,g1,g2,_,g4⟩:=h.maps.has t ht;⟨p,o,g1,g2,.inl (.inr ⟨t,p,ht,g1,rfl⟩),g4⟩,h.maps.inj⟩⟩
 ·rintro b ⟨t,p,hk,hp,rfl⟩;obtain⟨p',hp',_,_,hb,_⟩:=h.box t (by rw[hk];decide);rw[hp]at hp';injection hp' with hp';subst hp';exact hb.1
 ·obtain⟨p,hp,h2,h3,hb,hh⟩:=h.box t hk;exact⟨p,hp,h2,h3,⟨hb.1,fun hk1=> .inr ⟨t,p,hk1,hp,rfl⟩⟩,hh⟩
theorem az.back{X':Ctx}{ρ2:bN}{σ':Env}{bx2:ae}{a':Act}{w2:World}{E:Nat->Prop}{N ml md:Nat}(h:az X' ρ σ bx a w)(hS:X'.S0=X.S0)(hn:X'.n0=X.n0)(k:az (X.sub ρ bx w E N ml md) ρ2 σ' bx2 a' w2)
 (hE:∀b,E b->X'.E b\/X'.w0.heap.size<=b) (hd:∀b,E b->ρ.hold b≠some (.deferred (some []))) (h0:∀b,E b->X'.r0.hold b=none\/X'.E b) (hY:X'.Y (bp X'.lo bx2) ρ2.hold):az X' ρ2 σ bx2 a w2:=by
 have hst:∀ρ' bx' w',ay X' ρ' bx' w'=ay (X.sub ρ bx w E N ml md) ρ' bx' w':=fun ρ' bx' w'=>by funext b;simp only[ay,Ctx.sub,hS,hn]
 have hE':∀b,E b\/ui ρ bx b->X'.E b\/X'.w0.heap.size<=b:=fun b hb=>by
  rcases hb with hb|⟨t,p,h1,h2,rfl⟩
  ·exact hE b hb
  ·obtain⟨q,o',g1,g2,g3,g4⟩:=h.maps.has t h1;rw[h2]at g1;injection g1 with g1;subst g1;exact g3
 have hd':∀b,E b\/ui ρ bx b->ρ.hold b≠some (.deferred (some [])):=fun b hb=>by
  rcases hb with hb|⟨t,p,h1,h2,rfl⟩
  ·exact hd b hb
  ·obtain⟨q,o',g1,g2,g3,g4⟩:=h.maps.has t h1;rw[h2]at g1;injection g1 with g1;subst g1;rw[g2];intro e;injection e with e;exact g4.jn.2 _ e
 have h0':∀b,E b\/ui ρ bx b->X'.r0.hold b=none\/X'.E b:=fun b hb=>by
  rcases hb with hb|hb
  ·exact h0 b hb
  ·rcases hE' b (.inr hb)with g|g
   ·exact .inr g
   ·left;cases ho:X'.r0.hold b with
    |none=>rfl
    |some o=>have:=h.h0lt b o ho;omega
 have hlive:∀b,ay X' ρ bx w b->¬(X.sub ρ bx w E N ml md).M b:=by
  rintro b hb ⟨t,p,hk,hp,rfl⟩;exact hb.2.2 t hk p hp rfl
 have hw:∀b,ay X' ρ bx w b->iY w w2 b:=by
  intro b hb o ho hc;refine(k.fr.block b hb.1 (fun hm=>?_)).trans ho;rcases hm with hm|hm
  ·exact hlive b hb hm
  ·have:=k.ec b hm o ho;rw[hc]at this;cases this
 have hSt:∀b,ay X' ρ bx w b->ay X' ρ2 bx2 w2 b:=by
  intro b hb;refine⟨Nat.lt_of_lt_of_le hb.1 k.fr.size,hb.2.1,fun t ht p hp e=>?_⟩;obtain⟨p',hp',_,_,hpb,_⟩:=k.box t (by rw[ht];decide);rw[hp]at hp';injection hp' with hp';subst hp';rcases hpb.2 ht with h1|h1
  ·have:=hb.1;simp only[Ctx.sub]at h1;omega
  ·exact hlive b hb (e▸h1)
 refine⟨h.fr.step k.fr (fun n hnl hm=>?_),h.s0,h.nb,h.mb,h.ec,h.size,h.marks.du hw hSt k.r0 (fun r _ hr=>k.holds0 r _ hr (fun he=>hd' r he hr)),h.nle,h.mkb,fun t=>(h.tmps t).du hw hSt k.r0,h.glo.du hw hSt k.r0,fun t hk=>?_,k.inj,k.eps,fun t e p hp=>k.r0 t e p (h.r0 t e p hp),k.hold,fun b o ho hnE=>?_,h.yc,hY,h.y0,h.h0lt,⟨fun t ht=>let ⟨p,o,g1,g2,g3,g4⟩:=k.maps.has t ht;⟨p,o,g1,g2,g3.elim (fun g=>hE' _ g) (fun g=> .inr (Nat.le_trans h.fr.size g)),g4⟩,k.maps.inj⟩⟩
 ·rcases hm with⟨t,p,hk,hp,rfl⟩|hm
  ·obtain⟨p',hp',_,_,hpb,_⟩:=h.box t (by rw[hk];decide);rw[hp]at hp';injection hp' with hp';subst hp';rcases hpb.2 hk with h1|h1
   ·omega
   ·exact .inl h1
  ·rcases hE' n hm with h1|h1
   ·exact .inr h1
   ·omega
 ·obtain⟨p,hp,h2,h3,hpb,hh⟩:=k.box t hk;refine⟨p,hp,h2,h3,⟨by rw[hn];exact hpb.1,fun hk1=>?_⟩,by rw[hst];exact hh⟩;rcases hpb.2 hk1 with h1|⟨s,q,hs,hq,e⟩
  ·exact .inl (Nat.le_trans h.fr.size h1)
  ·obtain⟨q',hq',_,_,hqb,_⟩:=h.box s (by rw[hs];decide);rw[hq]at hq';injection hq' with hq';subst hq';rw[<-e];exact hqb.2 hs
 ·refine k.holds0 b o (h.holds0 b o ho hnE) (fun he=>?_);rcases h0' b he with h1|h1
  ·rw[ho]at h1;cases h1
  ·exact hnE h1
theorem az.xe{b:Nat}{o o':Obj}(h:az X ρ σ bx a w)(hb:ρ.hold b=some o)(hE:X.E b\/X.w0.heap.size<=b)(h0:X.r0.hold b=none\/X.E b)(hd:o≠ .deferred (some []))(hn:Obj.xJ o=false)(ho:Obj.jn o'=false){w':World}(hw:Fr (fun k=>k=b) w w')(hw':w'.heap[b]? =some o')(hY:X.Y (bp X.lo bx) (fun k=>if k=b then some o' else ρ.hold k)):
 az X ⟨ρ.at_,fun k=>if k=b then some o' else ρ.hold k⟩ σ bx a w':=by
 obtain⟨g1,g2⟩:=h.hold b o hb;have hsame:∀k,iY w w' k:=by
  intro k o1 ho1 hc;refine(hw.block k (Array.getElem?_eq_some_iff.1 ho1).1 (fun e=>?_)).trans ho1;subst e;rw[g1]at ho1;injection ho1 with ho1;subst ho1;rw[g2]at hc;cases hc
 have hS:∀k,ay X ρ bx w k->ay X ⟨ρ.at_,fun k=>if k=b then some o' else ρ.hold k⟩ bx w' k:=fun k hk=>⟨Nat.lt_of_lt_of_le hk.1 hw.size,hk.2.1,hk.2.2⟩
 refine⟨h.fr.step hw (fun n hn hm=>?_),h.s0,h.nb,h.mb,h.ec,h.size,h.marks.du (fun k _=>hsame k) hS (fun _ _ _ h=>h) (fun r _ hr=>?_),h.nle,h.mkb,fun t=>(h.tmps t).du (fun k _=>hsame k) hS (fun _ _ _ h=>h),h.glo.du (fun k _=>hsame k) hS (fun _ _ _ h=>h),fun t hk=>?_,h.inj,h.eps,h.r0,fun k o1 ho1=>?_,fun k o1 ho1 hnE=>?_,h.yc,hY,h.y0,h.h0lt,h.maps.of (fun t ht=>⟨ht,rfl,rfl⟩) (fun _ _ _ h=>h) (fun t p o1 ht hp ho1=>?_) (fun _ h=>h)⟩
 ·subst hm;rcases hE with h1|h1
  ·exact .inr h1
  ·omega
 ·show(if r=b then some o' else ρ.hold r)=_;rw[if_neg]
  ·exact hr
  ·intro e;subst e;rw[hb]at hr;injection hr with hr;exact hd hr
 ·obtain⟨p,hp,h2,h3,h4,h5⟩:=h.box t hk;exact⟨p,hp,h2,h3,h4,h5.du (hsame _) (fun k _=>hsame k) hS (fun _ _ _ h=>h)⟩
 ·by_cases e:k=b
  ·subst e;simp only[if_true,Option.some.injEq]at ho1;subst ho1;exact⟨hw',ho⟩
  ·simp only[e,if_false]at ho1;obtain⟨k1,k2⟩:=h.hold k o1 ho1;exact⟨(hw.block k (Array.getElem?_eq_some_iff.1 k1).1 e).trans k1,k2⟩
 ·show(if k=b then some o' else ρ.hold k)=_;by_cases e:k=b
  ·subst e;rcases h0 with h1|h1
   ·rw[ho1]at h1;cases h1
   ·exact absurd h1 hnE
  ·rw[if_neg e];exact h.holds0 k o1 ho1 hnE
 ·show(if p.b=b then some o' else ρ.hold p.b)=_;rw[if_neg]
  ·exact ho1
  ·intro e;obtain⟨q,o2,g1,g2,_,g4⟩:=h.maps.has t ht;rw[hp]at g1;injection g1 with g1;subst g1;rw[e,hb]at g2;injection g2 with g2;subst g2;rw[g4.xJ]at hn;cases hn
theorem az.tc{o:Obj}(h:az X ρ σ bx a w)(ho:Obj.jn o=false):az X ⟨ρ.at_,fun k=>if k=w.heap.size then some o else ρ.hold k⟩ σ bx a (w.alloc o):=by
 have hx:=h.ext ((Below.refl w.heap.size w).alloc (Nat.le_refl _) o);have hlt:∀k o1,ρ.hold k=some o1->k≠w.heap.size:=fun k o1 h1 e=>by
  have:=(Array.getElem?_eq_some_iff.1 (h.hold k o1 h1).1).1;omega
 have hsame:∀k o1,ρ.hold k=some o1->(if k=w.heap.size then some o else ρ.hold k)=some o1:=fun k o1 h1=>by rw[if_neg (hlt k o1 h1)];exact h1
 refine⟨hx.fr,hx.s0,hx.nb,hx.mb,hx.ec,hx.size,hx.marks.mono (fun _ _=>rfl) (fun _ h=>h) (fun _ _ _ h=>h) (fun r hr=>hsame r _ hr),hx.nle,hx.mkb,fun t=>(hx.tmps t).mono (fun _ _=>rfl) (fun _ h=>h) (fun _ _ _ h=>h),hx.glo.mono (fun _ _=>rfl) (fun _ h=>h) (fun _ _ _ h=>h),fun t hk=>?_,hx.inj,hx.eps,hx.r0,fun k o1 ho1=>?_,fun k o1 ho1 hnE=>hsame k o1 (h.holds0 k o1 ho1 hnE),h.yc,h.yc _ _ _ h.inv hsame,h.y0,h.h0lt,h.maps.of (fun t ht=>⟨ht,rfl,rfl⟩) (fun _ _ _ h=>h) (fun t p o1 ht hp ho1=>hsame _ o1 ho1) (fun _ h=>h)⟩
 ·obtain⟨p,hp,h2,h3,h4,h5⟩:=hx.box t hk;exact⟨p,hp,h2,h3,h4,h5.mono rfl (fun _ _=>rfl) (fun _ h=>h) (fun _ _ _ h=>h)⟩
 ·by_cases e:k=w.heap.size
  ·subst e;simp only[if_true,Option.some.injEq]at ho1;subst ho1;exact⟨heap_alloc_new w o,ho⟩
  ·simp only[e,if_false]at ho1;exact hx.hold k o1 ho1
theorem az.switch{σ':Env}{a':Act}(h:az X ρ σ bx a w)(hs:a'.tmps.size=X.N)(hm:Mk w (ay X ρ bx w) ρ X.md X.ml (σ' cB) a'.defers)(ht:∀t,aE w (ay X ρ bx w) ρ (σ' t) (a'.tmps.getD t undef)):az X ρ σ' bx a' w:=
 {h with size:=hs,marks:=hm,tmps:=ht}
theorem Defs.mem{S:Nat->Prop}{m:Nat}{l:List D}{ds:List Deferred}(h:Defs w S ρ m l ds):∀r,eQ r∈ds->ρ.hold r=some (.deferred (some [])):=by
 induction h with
 |nil=>intro r hr;simp at hr
 |@mark l r0 ds h0 hm hn _ ih=>
  intro r hr;rcases List.mem_cons.1 hr with e|hr
  ·have:r=r0:=by simp only[eQ,Deferred.mk.injEq,Target.collected.injEq]at e;exact e.1
   subst this;exact h0
  ·exact ih r hr
 |call _ _ _ _ _ ih=>
  intro r hr;rcases List.mem_cons.1 hr with e|hr
  ·simp[eQ]at e
  ·exact ih r hr
theorem az.Ek{r:Nat}{ds:List Deferred}(h:az X ρ σ bx a w)(hd:a.defers=eQ r::ds)(hmk:X.ml=X.w0.heap.size)(hmd:X.md≠1){w':World}(hw:Fr (fun k=>k=r) w w')(hw':w'.heap[r]? =some (.deferred none))(hlo:X.lo=0):
 ∃ρ',az X ρ' σ bx {a with defers:=ds} w'/\(∀b o,ρ.hold b=some o->o≠ .deferred (some [])->ρ'.hold b=some o)/\∀d v,aE w (ay X ρ bx w) ρ d v->aE w' (ay X ρ' bx w') ρ' d v:=by
 obtain⟨l,hl,hm⟩:∃l,(l=if X.md=0 then[]else ly (σ cB))/\Defs w (ay X ρ bx w) ρ X.ml l (eQ r::ds):=by
  have hm:=h.marks;rw[hd]at hm;exact⟨_,rfl,(hm.resolve_left hmd).1⟩
 have hm3:X.md≠3:=by
  intro h3;have:=(h.marks.resolve_left hmd).2 h3;rw[hd]at this;cases this
 have hh:=hm.mem r (List.mem_cons_self ..);obtain⟨hge,hn,hm2⟩:X.ml<=r/\eQ r∉ds/\Defs w (ay X ρ bx w) ρ X.ml l ds:=by
  generalize hx:eQ r::ds=dd at hm;cases hm with
  |nil=>cases hx
  |@mark _ q _ h1 h2 h3 h4=>
   injection hx with e1 e2;have:r=q:=by simp only[eQ,Deferred.mk.injEq,Target.collected.injEq]at e1;exact e1.1
   subst this;subst e2;exact⟨h2,h3,h4⟩
  |call=>injection hx with e1 e2;simp[eQ]at e1
 obtain⟨g1,g2⟩:=h.hold r _ hh;have hsame:∀k,iY w w' k:=by
  intro k o1 ho1 hc;refine(hw.block k (Array.getElem?_eq_some_iff.1 ho1).1 (fun e=>?_)).trans ho1;subst e;rw[g1]at ho1;injection ho1 with ho1;subst ho1;rw[g2]at hc;cases hc
 have hS:∀k,ay X ρ bx w k->ay X ⟨ρ.at_,fun k=>if k=r then some (.deferred none)else ρ.hold k⟩ bx w' k:=fun k hk=>⟨Nat.lt_of_lt_of_le hk.1 hw.size,hk.2.1,hk.2.2⟩
 have hmarks:Mk w' (ay X ⟨ρ.at_,fun k=>if k=r then some (.deferred none)else ρ.hold k⟩ bx w') ⟨ρ.at_,fun k=>if k=r then some (.deferred none)else ρ.hold k⟩ X.md X.ml (σ cB) ds:=by
  refine .inr ⟨?_,fun h3=>absurd h3 hm3⟩;rw[<-hl];refine hm2.du (fun k _=>hsame k) hS (fun _ _ _ h=>h) fun q hq hq0=>?_;show(if q=r then some (.deferred none)else ρ.hold q)=_;rw[if_neg]
  ·exact hq0
  ·rintro rfl;exact hn hq
 refine⟨⟨ρ.at_,fun k=>if k=r then some (.deferred none)else ρ.hold k⟩,⟨h.fr.step hw (fun n hn hm=>?_),h.s0,h.nb,h.mb,h.ec,h.size,hmarks,h.nle,h.mkb,fun t=>(h.tmps t).du (fun k _=>hsame k) hS (fun _ _ _ h=>h),h.glo.du (fun k _=>hsame k) hS (fun _ _ _ h=>h),fun t hk=>?_,h.inj,h.eps,h.r0,fun k o1 ho1=>?_,fun k o1 ho1 hnE=>?_,h.yc,h.y0 hlo _ _,h.y0,h.h0lt,h.maps.of (fun t ht=>⟨ht,rfl,rfl⟩) (fun _ _ _ h=>h) (fun t p o1 ht hp ho1=>?_) (fun _ h=>h)⟩,fun b o ho hno=>?_,fun d v hr=>hr.du (fun k _=>hsame k) hS (fun _ _ _ h=>h)⟩
 ·subst hm;omega
 ·obtain⟨p,hp,h2,h3,h4,h5⟩:=h.box t hk;exact⟨p,hp,h2,h3,h4,h5.du (hsame _) (fun k _=>hsame k) hS (fun _ _ _ h=>h)⟩
 ·by_cases e:k=r
  ·subst e;simp only[if_true,Option.some.injEq]at ho1;subst ho1;exact⟨hw',rfl⟩
  ·simp only[e,if_false]at ho1;obtain⟨k1,k2⟩:=h.hold k o1 ho1;exact⟨(hw.block k (Array.getElem?_eq_some_iff.1 k1).1 e).trans k1,k2⟩
 ·show(if k=r then some (.deferred none)else ρ.hold k)=_;rw[if_neg]
  ·exact h.holds0 k o1 ho1 hnE
  ·intro e;subst e;have:=h.h0lt k o1 ho1;omega
 ·show(if p.b=r then some (.deferred none)else ρ.hold p.b)=_;rw[if_neg]
  ·exact ho1
  ·intro e;obtain⟨q,o2,g1,g2,_,g4⟩:=h.maps.has t ht;rw[hp]at g1;injection g1 with g1;subst g1;rw[e,hh]at g2;injection g2 with g2;subst g2;exact g4.jn.2 _ rfl
 ·show(if b=r then some (.deferred none)else ρ.hold b)=_;rw[if_neg]
  ·exact ho
  ·intro e;subst e;rw[hh]at ho;injection ho with ho;exact hno ho.symm
theorem az.take{r:Nat}{ds:List Deferred}(h:az X ρ σ bx a w)(hd:a.defers=eQ r::ds)(hmk:X.ml=X.w0.heap.size)(hmd:X.md≠1){w':World}(hw:Fr (fun k=>k=r) w w')(hw':w'.heap[r]? =some (.deferred none))(hlo:X.lo=0):
 ∃ρ',az X ρ' σ bx {a with defers:=ds} w'/\∀b o,ρ.hold b=some o->o≠ .deferred (some [])->ρ'.hold b=some o:=
 let ⟨ρ',h1,h2,_⟩:=h.Ek hd hmk hmd hw hw' hlo
 ⟨ρ',h1,h2⟩
end Go.V
namespace Go.V
open Go.RowKit
section inv
variable {w:World} {S:Nat->Prop} {ρ:bN} {v:Value}
theorem aE.cy{k:IntKind}{n:Int}(h:aE w S ρ (.int k n) v):v= .int k n:=by cases h with|pure h=>cases h;rfl
theorem aE.fX{b:Bool}(h:aE w S ρ (.bool b) v):v= .bool b:=by cases h with|pure h=>cases h;rfl
theorem aE.fl{l:List UInt8}(h:aE w S ρ (.str l) v):v= .string ⟨l.toArray⟩:=by cases h with|pure h=>cases h;rfl
theorem aE.wQ{x:Value}(h:aE w S ρ (.raw x) v):v=x:=by cases h with|pure h=>cases h;rfl
theorem aE.ei(h:aE w S ρ .nilsl v):v= .slice none 0 0:=by cases h with|pure h=>cases h;rfl
theorem aE.iq{t e i j:Nat}(h:aE w S ρ (.loc t e i j) v):∃p,ρ t e=some p/\v= .pointer (some ⟨p.b,i * p.sz+j,none⟩):=by
 cases h with
 |pure h=>cases h
 |loc hp hq=>subst hq;exact⟨_,hp,rfl⟩
theorem aE.kK{ds:List D}(h:aE w S ρ (.agg ds) v):∃vs,v= .agg vs/\vs.size=ds.length/\∀(i:Nat) d u,ds[i]? =some d->vs[i]? =some u->aE w S ρ d u:=by
 cases h with
 |pure h=>cases h with|agg hl h=>exact⟨_,rfl,hl,fun i d u hd hu=> .pure (h i d u hd hu)⟩
 |agg hl h=>exact⟨_,rfl,hl,h⟩
theorem aE.Cw{ds:List D}(h:aE w S ρ (.tup ds) v):∃vs,v= .tuple vs/\vs.size=ds.length/\∀(i:Nat) d u,ds[i]? =some d->vs[i]? =some u->aE w S ρ d u:=by
 cases h with
 |pure h=>cases h with|tup hl h=>exact⟨_,rfl,hl,fun i d u hd hu=> .pure (h i d u hd hu)⟩
 |tup hl h=>exact⟨_,rfl,hl,h⟩
theorem aE.pO{f:Fn}{ds:List D}(h:aE w S ρ (.fn f ds) v):∃vs,v= .func f #[] vs/\vs.size=ds.length/\∀(i:Nat) d u,ds[i]? =some d->vs[i]? =some u->aE w S ρ d u:=by
 cases h with
 |pure h=>cases h with|fn hl h=>exact⟨_,rfl,hl,fun i d u hd hu=> .pure (h i d u hd hu)⟩
 |fn hl h=>exact⟨_,rfl,hl,h⟩
theorem aE.Cv{f:FuncId}{ds:List D}(h:aE w S ρ (.bfn f ds) v):∃vs,v= .func (.func f) vs #[]/\vs.size=ds.length/\∀(i:Nat) d u,ds[i]? =some d->vs[i]? =some u->aE w S ρ d u:=by
 cases h with
 |pure h=>cases h with|bfn hl h=>exact⟨_,rfl,hl,fun i d u hd hu=> .pure (h i d u hd hu)⟩
 |bfn hl h=>exact⟨_,rfl,hl,h⟩
end inv
variable {P:Program} {X:Ctx} {ρ:bN} {σ:Env} {bx:ae} {a:Act} {w:World}
theorem iu{t:TypeId}(h:0<bI P t):∃i d,P.info? t=some i/\P.underlying t=some d/\i.size=bI P t:=by
 unfold bI at h⊢;cases hu:P.underlying t with
 |none=>simp[hu]at h
 |some d=>
  simp only[hu,Option.isSome_some,if_true]at h⊢;cases hi:P.info? t with
  |none=>simp[hi]at h
  |some i=>exact⟨i,d,by first|rfl|trivial,by first|rfl|trivial,by first|rfl|trivial⟩
theorem Kv{t:TypeId}(h:0<(ak P t).size):∃i d,P.info? t=some i/\P.underlying t=some d/\i.size=(ak P t).size/\(ak P t).size=bI P t:=by
 obtain⟨i,d,h1,h2,h3⟩:=iu (P:=P) (t:=t) h;exact⟨i,d,h1,h2,h3,rfl⟩
theorem bW{t:TypeId}(h:0<bI P t)(w:World):(sizeOf t).run P w= .ok (bI P t) w:=by
 obtain⟨i,d,h1,_,h3⟩:=iu h;rw[<-h3];simp[sizeOf,typeInfo,h1,go_sem]
theorem lT{t:TypeId}{d:TypeDesc}(h:P.underlying t=some d)(w:World):(isAgg t).run P w= .ok (kl P t) w:=by
 simp only[isAgg,Sem.run_bind,run_underlying h,Result.andThen_ok,kl,h];cases d<;>simp
theorem bY{t e esz b:Nat}{ag:Bool}(h:(ak P t).k= .slice e esz b ag):P.underlying t=some (.slice e)/\esz=bI P e/\b=((P.info? e).map (·.bytes)).getD 0/\ag=kl P e:=by
 simp only[ak]at h;cases hu:P.underlying t with
 |none=>simp[hu]at h
 |some d=>cases d<;>simp[hu]at h<;>(obtain⟨rfl,rfl,rfl,rfl⟩:=h;exact⟨rfl,rfl,rfl,rfl⟩)
theorem kV{t:TypeId}{fs:List (Nat×Nat×Bool)}{eq:List Nat}(h:(ak P t).k= .struct fs eq):∃F:Array Field,P.underlying t=some (.struct F)/\fs=F.toList.map (fun f=>(f.offset,bI P f.type,kl P f.type))/\
 eq=(if F.toList.all (fun f=>f.name != "_"&&ke P f.type&&bI P f.type==1)&& !P.stoodInHeld t&& !P.eqGuardType P.depth t&&(F.toList.map (·.offset))==List.range F.size&&bI P t==F.size then F.toList.map fun f=>kg P f.type else u9 P t F):=by
 simp only[ak]at h;cases hu:P.underlying t with
 |none=>simp[hu]at h
 |some d=>
  cases d<;>simp only[hu]at h<;>first|(cases h;done)|skip
  rename_i F;injection h with h1 h2;exact⟨F,rfl,h1.symm,h2.symm⟩
theorem lC{t:TypeId}(h:(ak P t).k= .str):P.underlying t=some .string:=by
 simp only[ak]at h;cases hu:P.underlying t with
 |none=>simp[hu]at h
 |some d=>cases d<;>simp[hu]at h;rfl
theorem CV{t:TypeId}(h:(ak P t).k= .bool):P.underlying t=some .bool:=by
 simp only[ak]at h;cases hu:P.underlying t with
 |none=>simp[hu]at h
 |some d=>cases d<;>simp[hu]at h;rfl
theorem oE{t:TypeId}{k:IntKind}(h:(ak P t).k= .int k):P.underlying t=some (.int k):=by
 simp only[ak]at h;cases hu:P.underlying t with
 |none=>simp[hu]at h
 |some d=>cases d<;>simp[hu]at h;rw[h]
theorem pY{t n esz:Nat}{ag:Bool}(h:(ak P t).k= .arr n esz ag):∃e,P.underlying t=some (.array n e)/\esz=bI P e/\ag=kl P e:=by
 simp only[ak]at h;cases hu:P.underlying t with
 |none=>simp[hu]at h
 |some d=>
  cases d<;>simp[hu]at h;obtain⟨rfl,h2,h3⟩:=h;exact⟨_,rfl,h2.symm,h3.symm⟩
theorem Gj{t:TypeId}(h:(ak P t).k= .ifc):∃ms,P.underlying t=some (.interface ms):=by
 simp only[ak]at h;cases hu:P.underlying t with
 |none=>simp[hu]at h
 |some d=>cases d<;>simp[hu]at h;exact⟨_,rfl⟩
theorem Bf{t:TypeId}(h:(ak P t).k≠ .none)(h2:(ak P t).k≠ .ifc):∃d,P.underlying t=some d/\∀ms,d≠ .interface ms:=by
 simp only[ak]at h h2;cases hu:P.underlying t with
 |none=>simp[hu]at h
 |some d=>
  refine⟨d,rfl,?_⟩;rintro ms rfl;simp[hu]at h2
theorem yg{t b o:Nat}{us:Nat->Value}(hz:0<(ak P t).size)(hc:∀j,j<(if(ak P t).agg then(ak P t).size else 1)->w.cell? ⟨b,o+j,none⟩=some (us j)):
 (loadVar t ⟨b,o,none⟩).run P w= .ok (if(ak P t).agg then .agg ((List.range (ak P t).size).map us).toArray else us 0) w:=by
 obtain⟨i,d,hi,hd,hs,hs2⟩:=Kv hz;have hag:(ak P t).agg=kl P t:=rfl;rw[hs2]at hz;simp only[loadVar,Sem.run_bind,lT hd,Result.andThen_ok,hag]at hc⊢;cases hA:kl P t with
 |false=>
  have h0:=hc 0 (by simp[hA]);simp only[Nat.add_zero]at h0;simp[load,Sem.run,h0]
 |true=>
  simp only[if_true,Sem.run_bind,bW hz,Result.andThen_ok];have hl:((List.range (bI P t)).map us).length=bI P t:=by simp
  have:=run_loadCells_list (P:=P) (w:=w) ⟨b,o,none⟩ ((List.range (bI P t)).map us) (fun j v hj=>by
   have hj':j<bI P t:=by have:=(List.getElem?_eq_some_iff.1 hj).1;simpa using this
   simp only[List.getElem?_map,List.getElem?_range hj',Option.map_some,Option.some.injEq]at hj;subst hj;rw[<-hs2]at hj';have:=hc j (by simpa[hA]using hj');simp only[Addr.add];by_cases h0:j=0
   ·subst h0;simpa using this
   ·simp[h0];exact this)
  rw[hl]at this;simp[this,hs2]
theorem AK{S:Nat->Prop}{d r:D}{j k:Nat}{ag:Bool}{us:Nat->Value}(hp:fK d j ag k=some r)(hu:∀m c,m<(if ag then k else 1)->d.cells[j+m]? =some c->aE w S ρ c (us m)):
 aE w S ρ r (if ag then .agg ((List.range k).map us).toArray else us 0):=by
 unfold fK at hp;cases ag with
 |true=>
  simp only[if_true]at hp⊢;split at hp
  ·rename_i hle;injection hp with hp;subst hp;refine .agg (by simp;omega) fun i c v hc hv=>?_;have hi:i<k:=by
    have:=(Array.getElem?_eq_some_iff.1 hv).1;simpa using this
   simp only[List.getElem?_toArray,List.getElem?_map,List.getElem?_range hi,Option.map_some,Option.some.injEq]at hv;subst hv;rw[List.getElem?_take_of_lt hi,List.getElem?_drop]at hc;exact hu i c (by simpa using hi) hc
  ·cases hp
 |false=>
  simp only[Bool.false_eq_true,if_false]at hp⊢;exact hu 0 r sI (by simpa using hp)
theorem CJ{d r:D}{j k:Nat}{ag:Bool}(hp:fK d j ag k=some r):∀m,m<(if ag then k else 1)->∃c,d.cells[j+m]? =some c:=by
 intro m hm;unfold fK at hp;cases ag with
 |true=>
  simp only[if_true]at hp hm;split at hp
  ·exact⟨_,List.getElem?_eq_getElem oM⟩
  ·cases hp
 |false=>
  simp only[Bool.false_eq_true,if_false]at hp hm;obtain rfl:m=0:=oM;exact⟨r,by simpa using hp⟩
def Yields(P:Program)(X:Ctx)(ρ:bN)(bx:ae)(a:Act)(w:World)(o:Oper)(d:D):Prop:=
 ∃v w',(execOp a.eval o).run P w= .ok (.value v) w'/\Below w.heap.size w w'/\aE w' (ay X ρ bx w') ρ d v
theorem aM{o:Oper}{d:D}(v:Value)(hrun:(execOp a.eval o).run P w= .ok (.value v) w)(hr:aE w (ay X ρ bx w) ρ d v):Yields P X ρ bx a w o d:=⟨v,w,hrun,Below.refl _ _,hr⟩
variable {dst:Option Tmp} {ty:TypeId} {pos:String} {af:Array Edge} {g:Option (Nat×Bool)}
theorem tK(h:az X ρ σ bx a w){t:TypeId}{dx d:D}{vx:Value}(hx:aE w (ay X ρ bx w) ρ dx vx)(hv:fb (ak P t) bx dx=some d):∃ad v,vx= .pointer (some ad)/\(loadVar t ad).run P w= .ok v w/\aE w (ay X ρ bx w) ρ d v:=by
 cases dx with
 |loc s e i j=>
  simp only[fb]at hv;split at hv
  ·rename_i hc;obtain⟨he,hk,hz⟩:=hc;obtain⟨p,hp,hv2⟩:=hx.iq;obtain⟨p',hp',_,_,_,hh⟩:=h.box s hk;rw[he,hp]at hp';injection hp' with hp';subst hp';cases hi:(bx s).es[i]? with
   |none=>simp[hi]at hv
   |some d0=>
    simp only[hi,Option.bind_some]at hv;have hlt:=CJ hv;have hcell:∀m,∃u,m<(if(ak P t).agg then(ak P t).size else 1)->w.cell? ⟨p.b,i * p.sz+j+m,none⟩=some u/\∀c,d0.cells[j+m]? =some c->aE w (ay X ρ bx w) ρ c u:=by
     intro m;by_cases hm:m<(if(ak P t).agg then(ak P t).size else 1)
     ·obtain⟨c,hc⟩:=hlt m hm;obtain⟨u,hu,hr,_⟩:=hh.cell hi hc;exact⟨u,fun _=>⟨by rw[Nat.add_assoc];exact hu,fun c' hc'=>by rw[hc]at hc';injection hc' with hc';subst hc';exact hr⟩⟩
     ·exact⟨undef,fun hm'=>absurd hm' hm⟩
    let us:Nat->Value:=fun m=>Classical.choose (hcell m);have hus:∀m,m<(if(ak P t).agg then(ak P t).size else 1)->w.cell? ⟨p.b,i * p.sz+j+m,none⟩=some (us m)/\∀c,d0.cells[j+m]? =some c->aE w (ay X ρ bx w) ρ c (us m):=fun m=>Classical.choose_spec (hcell m);exact⟨_,_,hv2,yg hz (fun m hm=>(hus m hm).1),AK hv (us:=us) fun m c hm hc=>(hus m hm).2 c hc⟩
  ·cases hv
 |cref d0 j=>
  simp only[fb]at hv;split at hv
  ·rename_i hz;have hx2:ba w (ay X ρ bx w) (.cref d0 j) vx:=hx.dK rfl;cases hx2 with
   |@cref _ _ b off p us hb hp hc h1 hr=>
    have hlt:=CJ hv;subst hp;exact⟨_,_,rfl,yg (us:=fun m=>us (j+m)) hz (fun m hm=>by obtain⟨c,hcm⟩:=hlt m hm;rw[Nat.add_assoc];exact hc _ _ hcm),AK hv (us:=fun m=>us (j+m)) fun m c hm hcm=> .pure (hr _ _ hcm)⟩
  ·cases hv
 |_=>simp[fb]at hv
theorem DF(h:az X ρ σ bx a w){t:TypeId}{x:Operand}{d:D}(hv:fb (ak P t) bx (ev σ x)=some d):Yields P X ρ bx a w ⟨dst,.load t x,ty,pos,af,g⟩ d:=by
 obtain⟨ad,v,h1,h2,h3⟩:=tK h (h.ev x) hv;exact aM v (by simp only[execOp,Instr.loadAt,Instr.sureAddr,h1,Sem.run_bind,Sem.run_pure,Result.andThen_ok,h2]) h3
theorem Addr.cz(b o k:Nat):(⟨b,o,none⟩:Addr).add k=⟨b,o+k,none⟩:=by
 unfold Addr.add;split
 ·rename_i h;subst h;rfl
 ·rfl
theorem vt(h:az X ρ σ bx a w){t:TypeId}{x y:Operand}{d:D}(hv:j9 (ev σ y) (dn (ak P t) (ev σ x))=some d):Yields P X ρ bx a w ⟨dst,.indexAddr t x y,ty,pos,af,g⟩ d:=by
 have hx:=h.ev x;have hy:=h.ev y;generalize ev σ x=dx at hv hx;generalize ev σ y=dy at hv hy;cases dy with
 |int k n=>
  have hy:=hy.cy;simp only[j9,dn]at hv;cases hk:(ak P t).k with
  |slice e esz b ag=>
   simp only[hk]at hv;obtain⟨hu,he,_,_⟩:=bY hk;have key:∀sz es,ba w (ay X ρ bx w) (.sl sz es) (a.eval x)->(if 0<=n/\sz=esz/\0<esz then(es[n.toNat]?).map fun d=>D.cref d 0 else none)=some d->Yields P X ρ bx a w ⟨dst,.indexAddr t x y,ty,pos,af,g⟩ d:=by
    intro sz es hx2 hv2;split at hv2
    ·rename_i hc;obtain⟨h0,hsz,hpos⟩:=hc;subst hsz;cases hi:es[n.toNat]? with
     |none=>rw[hi]at hv2;cases hv2
     |some d0=>
      rw[hi]at hv2;injection hv2 with hv2;subst hv2;generalize hax:a.eval x=vx at hx2;cases hx2 with
      |@sl _ _ A m cap b' off us hn hcap hmax hA hsz hc h1 hr=>
       obtain⟨rfl,hb⟩:=hA (by rintro rfl;simp at hi);have hlt:n.toNat<es.length:=(List.getElem?_eq_some_iff.1 hi).1;refine aM (.pointer (some ⟨b',off+n.toNat * sz,none⟩)) ?_ (.pure (.cref (off:=off+n.toNat * sz) (us:=us n.toNat) hb rfl (fun m c hm=>hc _ _ _ _ hi hm) (fun m c hm=>h1 _ _ _ _ hi hm) (fun m c hm=>hr _ _ _ _ hi hm)));have hc2:0<=n/\n<((m:Nat):Int):=⟨h0,by omega⟩
       simp only[execOp,Instr.indexAt,hy,hax,asIntOf,Sem.run_bind,Sem.run_pure,Result.andThen_ok,run_underlying hu,hc2,and_self,if_true,bW (he▸hpos),Addr.cz,<-he]
    ·cases hv2
   cases dx with
   |sl sz es=>exact key sz es (hx.dK rfl) hv
   |clp sz es=>exact key sz es (hx.dK rfl).mG hv
   |csl s e' i j len=>
    simp only at hv;split at hv
    ·rename_i hc;obtain⟨h0,hlt,h1⟩:=hc;injection hv with hv;subst hv;generalize hax:a.eval x=vx at hx;cases hx with
     |pure h=>cases h
     |@csl _ _ _ _ _ off cap p hp hoff hn hcap=>
      have hc2:0<=n/\n<((len:Nat):Int):=⟨h0,hlt⟩
      have ho:=hoff oM;subst ho;have he1:bI P e=1:=by rw[<-he,h1]
      refine aM (.pointer (some ⟨p.b,i * p.sz+j+n.toNat,none⟩)) ?_ (.loc hp oM);simp only[execOp,Instr.indexAt,hy,hax,asIntOf,Sem.run_bind,Sem.run_pure,Result.andThen_ok,run_underlying hu,hc2,and_self,if_true,bW (by rw[he1];decide:0<bI P e),Addr.cz,he1,Nat.mul_one]
    ·cases hv
   |osl s e' sz o len=>
    simp only at hv;split at hv
    ·rename_i hc;obtain⟨h0,hlt,hsz,hpos⟩:=hc;subst hsz;injection hv with hv;subst hv;generalize hax:a.eval x=vx at hx;cases hx with
     |pure h=>cases h
     |@osl _ _ _ _ _ off cap p hp hsz h0' hoff hn hcap=>
      subst hsz;have hc2:0<=n/\n<((len:Nat):Int):=⟨h0,hlt⟩
      have ho:=hoff oM;subst ho;refine aM (.pointer (some ⟨p.b,o * p.sz+n.toNat * p.sz,none⟩)) ?_ (.loc hp (by rw[Nat.add_mul,Nat.add_zero]));simp only[execOp,Instr.indexAt,hy,hax,asIntOf,Sem.run_bind,Sem.run_pure,Result.andThen_ok,run_underlying hu,hc2,and_self,if_true,bW (he▸hpos),Addr.cz,<-he]
    ·cases hv
   |_=>simp at hv
  |arr len esz ag=>
   simp only[hk]at hv;obtain⟨e,hu,he,_⟩:=pY hk;split at hv
   ·rename_i hc;obtain⟨h0,hlt,h1,hpos⟩:=hc;have hc2:0<=n/\n<((len:Nat):Int):=⟨h0,hlt⟩
    cases dx with
    |loc s e' i j=>
     simp only[gR,Option.some.injEq]at hv;subst hv;obtain⟨p,hp,hax⟩:=hx.iq;refine aM (.pointer (some ⟨p.b,i * p.sz+j+n.toNat * esz,none⟩)) ?_ (.loc hp oM);simp only[execOp,Instr.indexAt,Instr.sureAddr,hy,hax,asIntOf,Sem.run_bind,Sem.run_pure,Result.andThen_ok,run_underlying hu,hc2,and_self,if_true,bW (he▸hpos),Addr.cz,<-he]
    |cref d0 j=>
     simp only[gR,Option.some.injEq]at hv;subst hv;have hx2:ba w (ay X ρ bx w) (.cref d0 j) (a.eval x):=hx.dK rfl;generalize hax:a.eval x=vx at hx2;cases hx2 with
     |@cref _ _ b off p us hb hp hc h1 hr=>
      refine aM (.pointer (some ⟨b,p+n.toNat * esz,none⟩)) ?_ (.pure (.cref (us:=us) hb oM hc h1 hr));simp only[execOp,Instr.indexAt,Instr.sureAddr,hy,hax,asIntOf,Sem.run_bind,Sem.run_pure,Result.andThen_ok,run_underlying hu,hc2,and_self,if_true,bW (he▸hpos),Addr.cz,<-he]
    |_=>simp[gR]at hv
   ·cases hv
  |_=>simp[hk]at hv
 |_=>simp[j9]at hv
end Go.V
namespace Go.V
open Go.RowKit
variable {P:Program} {X:Ctx} {ρ:bN} {σ:Env} {bx:ae} {a:Act} {w:World}
variable {dst:Option Tmp} {ty:TypeId} {pos:String} {af:Array Edge} {g:Option (Nat×Bool)}
theorem Cg{S:Nat->Prop}{t:TypeId}{n:Nat}{x y:D}{vx vy:Value}{b:Bool}(h:oV x y=some b)(hx:aE w S ρ x vx)(hy:aE w S ρ y vy)
 (ht:(∃k m,x= .int k m/\∃k',P.underlying t=some (.int k'))\/(∃m,x= .bool m/\P.underlying t=some .bool)\/(∃m,x= .str m/\P.underlying t=some .string)):
 (Op.equalIn (n+1) t vx vy).run P w= .ok b w:=by
 rcases ht with⟨k,m,rfl,k',hu⟩|⟨m,rfl,hu⟩|⟨m,rfl,hu⟩<;>cases y<;>simp only[oV]at h<;>try (cases h;done)
 ·split at h
  ·rename_i hk;subst hk;injection h with h;subst h;rw[hx.cy,hy.cy,run_equalIn_int w n t _ _ _ _ hu]
  ·cases h
 ·injection h with h;subst h;rw[hx.fX,hy.fX,run_equalIn_bool' w n t _ _ hu]
 ·injection h with h;subst h;rw[hx.fl,hy.fl,run_equalIn_string w n t _ _ hu,ByteArray.toList_eq,ByteArray.toList_eq]
def qt(P:Program)(t:TypeId)(x:D):Prop:=
 (∃k m,x= .int k m/\∃k',P.underlying t=some (.int k'))\/(∃m,x= .bool m/\P.underlying t=some .bool)\/(∃m,x= .str m/\P.underlying t=some .string)
theorem zi(op:BinOp)(k k':IntKind)(x y:Int)(d:D)(h:sJ op k x y=some d)(t:TypeId)(S:Nat->Prop):∃v,(binOp op t (.int k x) (.int k' y)).run P w= .ok v w/\aE w S ρ d v:=by
 unfold sJ at h;split at h
 ·cases h
 ·rename_i hy;cases op<;>simp only at h<;>try (cases h;done)
  ·injection h with h;subst h;exact⟨_,by simp[binOp,Op.shift,hy],.pure (.int _ _)⟩
  ·injection h with h;subst h;exact⟨_,by simp[binOp,Op.shift,hy],.pure (.int _ _)⟩
theorem Jm(op:BinOp)(k:IntKind)(x y:Int)(d:D)(h:gy op k x y=some d)(t:TypeId)(S:Nat->Prop):∃v,(binOp op t (.int k x) (.int k y)).run P w= .ok v w/\aE w S ρ d v:=by
 cases op<;>simp only[gy,Db]at h<;>try (cases h;done)
 case add=>injection h with h;subst h;exact⟨_,by simp[binOp,Op.intArith],.pure (.int _ _)⟩
 case sub=>injection h with h;subst h;exact⟨_,by simp[binOp,Op.intArith],.pure (.int _ _)⟩
 case mul=>injection h with h;subst h;exact⟨_,by simp[binOp,Op.intArith],.pure (.int _ _)⟩
 case quo=>
  split at h
  ·cases h
  ·rename_i hy;injection h with h;subst h;exact⟨_,by simp[binOp,Op.intDiv,hy],.pure (.int _ _)⟩
 case rem=>
  split at h
  ·cases h
  ·rename_i hy;injection h with h;subst h;exact⟨_,by simp[binOp,Op.intDiv,hy],.pure (.int _ _)⟩
 case and=>injection h with h;subst h;exact⟨_,by simp[binOp,Op.intBits,ca],.pure (.int _ _)⟩
 case or=>injection h with h;subst h;exact⟨_,by simp[binOp,Op.intBits,ca],.pure (.int _ _)⟩
 case xor=>injection h with h;subst h;exact⟨_,by simp[binOp,Op.intBits,ca],.pure (.int _ _)⟩
 case andNot=>injection h with h;subst h;exact⟨_,by simp[binOp,Op.intBits,ca],.pure (.int _ _)⟩
 case shl=>exact zi .shl k k x y d h t S
 case shr=>exact zi .shr k k x y d h t S
 case eql=>injection h with h;subst h;exact⟨_,by simp[binOp,Op.intCmp],.pure (.bool _)⟩
 case neq=>injection h with h;subst h;exact⟨_,by simp[binOp,Op.intCmp],.pure (.bool _)⟩
 case lss=>injection h with h;subst h;exact⟨_,by simp[binOp,Op.intCmp],.pure (.bool _)⟩
 case leq=>injection h with h;subst h;exact⟨_,by simp[binOp,Op.intCmp],.pure (.bool _)⟩
 case gtr=>injection h with h;subst h;exact⟨_,by simp[binOp,Op.intCmp],.pure (.bool _)⟩
 case geq=>injection h with h;subst h;exact⟨_,by simp[binOp,Op.intCmp],.pure (.bool _)⟩
theorem zn(l m:List UInt8):((⟨l.toArray⟩:ByteArray)++⟨m.toArray⟩)=⟨(l++m).toArray⟩:=by
 apply ByteArray.ext;simp
theorem Jo(op:BinOp)(x y:List UInt8)(d:D)(h:sO op x y=some d)(t:TypeId)(S:Nat->Prop):∃v,(binOp op t (.string ⟨x.toArray⟩) (.string ⟨y.toArray⟩)).run P w= .ok v w/\aE w S ρ d v:=by
 cases op<;>simp only[sO]at h<;>try (cases h;done)
 case add=>
  split at h
  ·rename_i hl;injection h with h;subst h;refine⟨.string ⟨(x++y).toArray⟩,?_,.pure (.str _)⟩;have hle:¬(((⟨x.toArray⟩:ByteArray).size+(⟨y.toArray⟩:ByteArray).size:Nat):Int)>IntKind.i64.max:=by
    have:(IntKind.i64.max:Int)=9223372036854775807:=by decide
    rw[this];simp[ByteArray.size];omega
   simp only[binOp,Op.stringOp,hle,if_false,Sem.run_pure,zn]
  ·cases h
 all_goals
  injection h with h;subst h;exact⟨_,by simp only[binOp,Op.stringOp,ByteArray.toList_eq,Sem.run_pure],.pure (.bool _)⟩
theorem l_(op:BinOp)(t:TypeId)(x y:Operand)(vx vy:Value)(h:(∃k n,vx= .int k n)\/(∃s,vx= .string s)\/(∃b,vx= .bool b)):(eqGuard op t x y vx vy).run P w= .ok () w:=by rcases h with⟨k,n,rfl⟩|⟨s,rfl⟩|⟨b,rfl⟩<;>cases op<;>simp[eqGuard]
theorem qI{t:TypeId}{off:Nat}{cs:Array Value}{v:Value}(hf:ke P t=true)(hv:cs[off]? =some v):(part t cs off).run P w= .ok v w:=by
 have hu:∃d,P.underlying t=some d/\kl P t=false:=by
  unfold ke at hf;unfold kl;cases hu:P.underlying t with
  |none=>simp[hu]at hf
  |some d=>cases d<;>simp[hu]at hf<;>exact⟨_,rfl,rfl⟩
 obtain⟨d,hu,ha⟩:=hu;simp[part,lT hu,ha,hv]
theorem zF{S:Nat->Prop}{vx vy:Array Value}{n:Nat}:∀(fs:List Field) (o:Nat) (xs ys:List D) (b:Bool),fs.all (fun f=>f.name != "_"&&ke P f.type&&bI P f.type==1)=true->fs.map (·.offset)=List.range' o fs.length->
 fs.length=xs.length->fC xs ys=some b->(∀(i:Nat) d,xs[i]? =some d->∃v,vx[o+i]? =some v/\aE w S ρ d v)->(∀(i:Nat) d,ys[i]? =some d->∃v,vy[o+i]? =some v/\aE w S ρ d v)->
 (∀(i:Nat) f d,fs[i]? =some f->xs[i]? =some d->qt P f.type d)->(Op.eqFields (n+1) vx vy fs).run P w= .ok b w:=by
 intro fs;induction fs with
 |nil=>
  intro o xs ys b _ _ hl he _ _ _;cases xs with
  |nil=>cases ys with
   |nil=>simp[fC]at he;subst he;simp[Op.eqFields]
   |cons y ys=>simp[fC]at he
  |cons x xs=>simp at hl
 |cons f fs ih=>
  intro o xs ys b hall hoff hl he hx hy hfit;cases xs with
  |nil=>simp at hl
  |cons x xs=>
  cases ys with
  |nil=>simp[fC]at he
  |cons y ys=>
  simp only[List.all_cons,Bool.and_eq_true,bne_iff_ne,ne_eq,beq_iff_eq]at hall;obtain⟨⟨⟨hn,hf⟩,_⟩,hrest⟩:=hall;simp only[List.map_cons,List.length_cons,List.range'_succ,List.cons.injEq]at hoff;obtain⟨ho,hoff⟩:=hoff;obtain⟨v,hv,hrv⟩:=hx 0 x rfl;obtain⟨u,hu,hru⟩:=hy 0 y rfl;simp only[Nat.add_zero]at hv hu;have hfx:=hfit 0 f x rfl rfl;have ih':=fun b h=>ih (o+1) xs ys b hrest hoff (by simpa using hl) h (fun i d hd=>by have:=hx (i+1) d (by simpa using hd);rwa[show o+(i+1)=o+1+i from by omega]at this)
   (fun i d hd=>by have:=hy (i+1) d (by simpa using hd);rwa[show o+(i+1)=o+1+i from by omega]at this) (fun i f d hf hd=>hfit (i+1) f d (by simpa using hf) (by simpa using hd))
  simp only[fC]at he;cases hxy:oV x y with
  |none=>simp[hxy]at he
  |some c=>
   have hr:=Cg (n:=n) hxy hrv hru hfx;simp only[Op.eqFields,hn,not_false_eq_true,ne_eq,if_true,Sem.run_bind,ho,qI hf hv,qI hf hu,Result.andThen_ok,hr];cases c with
   |true=>
    simp only[hxy]at he;simp only[Bool.not_true,Bool.false_eq_true,if_false];exact ih' b he
   |false=>
    simp only[hxy]at he;cases hrec:fC xs ys with
    |none=>simp[hrec]at he
    |some c'=>simp only[hrec]at he;injection he with he;subst he;simp
theorem r9{k:Nat}{ks:List Nat}{ds:List D}(h:bD (k::ks) ds=true):∃d ds',ds=d::ds'/\bD ks ds'=true/\oV d d=some true/\∀t,kg P t=k->qt P t d:=by
 unfold bD at h;split at h;all_goals first
  |contradiction
  |(cases h;done)
  |(
   rename_i he;injection he with e1 e2;subst e2;refine⟨_,_,rfl,h,by simp[oV],fun t ht=>?_⟩;rw[e1]at ht;unfold kg at ht;unfold qt;cases hu:P.underlying t with
   |none=>simp[hu]at ht
   |some x=>cases x<;>simp[hu]at ht⊢)
theorem u_{t:TypeId}{F:Array Field}{k:Nat}{ks:List Nat}(h:k::ks=u9 P t F):k=0/\rP P 0 F.toList=some ks/\P.stoodInHeld t=false/\P.eqGuardType P.depth t=false:=by
 unfold u9 at h;split at h
 ·rename_i l hl;split at h
  ·rename_i hc;simp only[Bool.and_eq_true,Bool.not_eq_true']at hc;injection h with h1 h2;subst h2;exact⟨h1,hl,hc.1,hc.2⟩
  ·cases h
 ·cases h
theorem Ae{ks:List Nat}{ds:List D}:bD (0::ks) ds=false:=by cases ds<;>simp[bD]
theorem A5{S:Nat->Prop}{t:TypeId}{n:Nat}{d:D}{v:Value}(h:oV d d=some true)(hf:qt P t d)(hv:aE w S ρ d v):(Op.equalIn (n+1) t v v).run P w= .ok true w:=Cg h hv hv hf
theorem rQ{e:TypeId}{n:Nat}{cs:Array Value}(hf:ke P e=true):∀is:List Nat,(∀i∈is,∃v,cs[i]? =some v/\(Op.equalIn (n+1) e v v).run P w= .ok true w)->(Op.eqItems (n+1) e 1 cs cs is).run P w= .ok true w
 |[],_=>by simp[Op.eqItems]
 |i::is,h=>by
  obtain⟨v,h1,h2⟩:=h i sI;simp only[Op.eqItems,Sem.run_bind,Nat.mul_one,qI hf h1,Result.andThen_ok,h2,Bool.not_true,Bool.false_eq_true,if_false];exact rQ hf is fun j hj=>h j (by simp[hj])
theorem xM:∀ {k1 k2:List Nat} {ds:List D},bD (k1++k2) ds=true->∃a b,ds=a++b/\a.length=k1.length/\bD k1 a=true/\bD k2 b=true
 |[],k2,ds,h=>⟨[],ds,rfl,rfl,by simp[bD],h⟩
 |k::k1,k2,ds,h=>by
  have h':=h;unfold bD at h';rw[List.cons_append]at h;cases ds with
  |nil=>exact absurd h (by cases k1<;>cases k2<;>simp[bD])
  |cons d ds=>
   have hs:bD (k1++k2) ds=true/\∀l,bD (k::k1) (d::l)=bD k1 l:=by
    unfold bD at h;split at h
    ·rename_i he _;cases he
    all_goals first
     |(cases h;done)
     |(
      rename_i he he2;injection he with e1 e2;injection he2 with e3 e4;subst e2;subst e4;subst e3;subst e1;exact⟨h,fun l=>by simp[bD]⟩)
   obtain⟨a,b,h1,h2,h3,h4⟩:=xM hs.1;exact⟨d::a,b,by rw[h1];rfl,by simp[h2],by rw[hs.2];exact h3,h4⟩
theorem tE{t:TypeId}{d:TypeDesc}(hu:P.underlying t=some d):P.cellsOf t=bI P t:=by
 obtain⟨i,hi⟩:=info_of_underlying hu;simp[bI,hu,hi,Program.cellsOf]
theorem yx{S:Nat->Prop}{vx:Array Value}{n:Nat}:∀(fs:List Field) (o:Nat) (ks:List Nat) (xs:List D),rP P o fs=some ks->bD ks xs=true->(∀(i:Nat) d,xs[i]? =some d->∃v,vx[o+i]? =some v/\aE w S ρ d v)->(Op.eqFields (n+2) vx vx fs).run P w= .ok true w:=by
 intro fs;induction fs with
 |nil=>intro o ks xs _ _ _;simp[Op.eqFields]
 |cons f fs ih=>
  intro o ks xs hd hk hx;unfold rP at hd;split at hd
  ·rename_i k1 hf1;split at hd
   ·rename_i hc;simp only[Bool.and_eq_true,bne_iff_ne,ne_eq,beq_iff_eq]at hc;obtain⟨⟨hn,ho⟩,hsz⟩:=hc;rw[Option.map_eq_some_iff]at hd;obtain⟨k2,hd2,rfl⟩:=hd;obtain⟨a,b,rfl,ha,hka,hkb⟩:=xM hk;have ih':=ih (o+k1.length) k2 b hd2 hkb fun i d hi=>by
     have:=hx (k1.length+i) d (by rw[List.getElem?_append_right oM,<-ha,Nat.add_sub_cancel_left];exact hi);rwa[<-Nat.add_assoc]at this
    have hxa:∀(i:Nat) d,a[i]? =some d->∃v,vx[o+i]? =some v/\aE w S ρ d v:=fun i d hi=>hx i d (by rw[List.getElem?_append_left (List.getElem?_eq_some_iff.1 hi).1];exact hi);have step:∃v,(part f.type vx f.offset).run P w= .ok v w/\(Op.equalIn (n+2) f.type v v).run P w= .ok true w:=by
     unfold IK at hf1;split at hf1
     ·rename_i hfl;simp only[Bool.and_eq_true,beq_iff_eq]at hfl;injection hf1 with hf1;subst hf1;obtain⟨d,ds,rfl,_,he,hfit⟩:=r9 (P:=P) hka;obtain⟨v,hv,hr⟩:=hxa 0 d rfl;rw[Nat.add_zero,<-ho]at hv;exact⟨v,qI hfl.1 hv,A5 he (hfit _ rfl) hr⟩
     ·split at hf1
      ·rename_i m e hu;split at hf1
       ·rename_i hfl;simp only[Bool.and_eq_true,beq_iff_eq]at hfl;injection hf1 with hf1;subst hf1;obtain⟨i,hi⟩:=info_of_underlying hu;have hue:∃de,P.underlying e=some de:=by
         cases hue:P.underlying e with
         |none=>have:=hfl.1;simp[ke,hue]at this
         |some de=>exact⟨de,rfl⟩
        obtain⟨de,hue⟩:=hue;obtain⟨ie,hie⟩:=info_of_underlying hue;rw[List.length_replicate]at hsz ha;refine⟨.agg (vx.extract f.offset (f.offset+P.cellsOf f.type)),by simp[part,isAgg,run_underlying hu,run_sizeOf w hi],?_⟩;rw[run_equalIn_array w (n+1) _ _ hu hie,tE hue,hfl.2,tE hu,hsz];refine rQ hfl.1 _ fun j hj=>?_;rw[List.mem_range]at hj;have hlt:j<a.length:=oM;obtain⟨v,hv,hr⟩:=hxa j _ (List.getElem?_eq_getElem hlt);have hkk:∀(m:Nat) (l:List D),bD (List.replicate m (kg P e)) l=true->∀d∈l,oV d d=some true/\qt P e d:=by
         intro m;induction m with
         |zero=>intro l hl d hd;cases l with
          |nil=>cases hd
          |cons x l=>simp[bD]at hl
         |succ m ihm=>
          intro l hl d hd;rw[List.replicate_succ]at hl;obtain⟨d',ds',rfl,h1,h2,h3⟩:=r9 (P:=P) hl;rcases List.mem_cons.1 hd with rfl|hd
          ·exact⟨h2,h3 e rfl⟩
          ·exact ihm ds' h1 d hd
        obtain⟨h1,h2⟩:=hkk m a hka _ (List.getElem_mem hlt);refine⟨v,?_,A5 h1 h2 hr⟩;rw[Array.getElem?_extract,ho];have hb:o+j<vx.size:=(Array.getElem?_eq_some_iff.1 hv).1;rw[if_pos oM];exact hv
       ·cases hf1
      ·cases hf1
    obtain⟨v,h1,h2⟩:=step;simp only[Op.eqFields,hn,not_false_eq_true,ne_eq,if_true,Sem.run_bind,h1,Result.andThen_ok,h2,Bool.not_true,Bool.false_eq_true,if_false];exact ih'
   ·cases hd
  ·cases hd
end Go.V
namespace Go.V
open Go.RowKit
variable {P:Program} {X:Ctx} {ρ:bN} {σ:Env} {bx:ae} {a:Act} {w:World}
variable {dst:Option Tmp} {ty:TypeId} {pos:String} {af:Array Edge} {g:Option (Nat×Bool)}
theorem Ad(k:Nat)(ks:List Nat):bD (k::ks) []=false:=by
 unfold bD;split<;>simp_all
theorem FC{P:Program}:∀(ks:List Nat) (F:List Field) (ds:List D),ks=F.map (fun f=>kg P f.type)->bD ks ds=true->F.length=ds.length/\∀(i:Nat) f d,F[i]? =some f->ds[i]? =some d->qt P f.type d:=by
 intro ks;induction ks with
 |nil=>
  intro F ds hF h;cases F with
  |nil=>cases ds with
   |nil=>simp
   |cons d ds=>simp[bD]at h
  |cons f F=>simp at hF
 |cons k ks ih=>
  intro F ds hF h;cases F with
  |nil=>simp at hF
  |cons f F=>
  cases ds with
  |nil=>exact absurd h (by rw[Ad];decide)
  |cons d ds=>
  simp only[List.map_cons,List.cons.injEq]at hF;obtain⟨hk,hF⟩:=hF;have step:bD ks ds=true/\qt P f.type d:=by
   unfold bD at h;split at h
   ·rename_i he _;cases he
   ·rename_i he he2;injection he with e1 e2;injection he2 with e3 e4;subst e2;subst e4;subst e3;refine⟨h,.inr (.inl ⟨_,rfl,?_⟩)⟩;rw[e1]at hk;unfold kg at hk;cases hu:P.underlying f.type with
    |none=>simp[hu]at hk
    |some x=>cases x<;>simp[hu]at hk;rfl
   ·rename_i he he2;injection he with e1 e2;injection he2 with e3 e4;subst e2;subst e4;subst e3;refine⟨h,.inl ⟨_,_,rfl,?_⟩⟩;rw[e1]at hk;unfold kg at hk;cases hu:P.underlying f.type with
    |none=>simp[hu]at hk
    |some x=>cases x<;>simp[hu]at hk;exact⟨_,rfl⟩
   ·rename_i he he2;injection he with e1 e2;injection he2 with e3 e4;subst e2;subst e4;subst e3;refine⟨h,.inr (.inr ⟨_,rfl,?_⟩)⟩;rw[e1]at hk;unfold kg at hk;cases hu:P.underlying f.type with
    |none=>simp[hu]at hk
    |some x=>cases x<;>simp[hu]at hk;rfl
   ·cases h
  obtain⟨hl,hr⟩:=ih F ds hF step.1;refine⟨by simp[hl],fun i f' d' hf hd=>?_⟩;cases i with
  |zero=>simp at hf hd;subst hf;subst hd;exact step.2
  |succ i=>exact hr i f' d' (by simpa using hf) (by simpa using hd)
theorem JC{S:Nat->Prop}{t:TypeId}{x y:D}{vx vy:Value}{b:Bool}(h:xD (ak P t) x y=some b)(hx:aE w S ρ x vx)(hy:aE w S ρ y vy):
 (Op.equal t vx vy).run P w= .ok b w/\∀(op:BinOp) (p q:Operand),(eqGuard op t p q vx vy).run P w= .ok () w:=by
 unfold xD at h;split at h
 ·rename_i fs k ks da db hk;split at h
  ·rename_i hko;obtain⟨F,hu,hfs,hks⟩:=kV hk;obtain⟨xs,rfl,hxl,hxr⟩:=hx.kK;obtain⟨ys,rfl,hyl,hyr⟩:=hy.kK;have hcond:(F.toList.all (fun f=>f.name != "_"&&ke P f.type&&bI P f.type==1)&& !P.stoodInHeld t&& !P.eqGuardType P.depth t&&(F.toList.map (·.offset))==List.range F.size&&bI P t==F.size)=true:=by
    cases hb:(F.toList.all (fun f=>f.name != "_"&&ke P f.type&&bI P f.type==1)&& !P.stoodInHeld t&& !P.eqGuardType P.depth t&&(F.toList.map (·.offset))==List.range F.size&&bI P t==F.size) with
    |true=>rfl
    |false=>
     rw[hb]at hks;obtain⟨rfl,_⟩:=u_ (by simpa using hks);rw[Ae]at hko;cases hko
   rw[hcond]at hks;simp only[if_true]at hks;simp only[Bool.and_eq_true,Bool.not_eq_true',beq_iff_eq]at hcond;obtain⟨⟨⟨⟨hall,hst⟩,hgd⟩,hoff⟩,_⟩:=hcond;obtain⟨hl,hfit⟩:=FC _ _ _ hks hko;have hlen2:∀(p q:List D) (b:Bool),fC p q=some b->p.length=q.length:=by
    intro p;induction p with
    |nil=>intro q b hq;cases q<;>simp[fC]at hq⊢
    |cons c p ih=>
     intro q b hq;cases q with
     |nil=>simp[fC]at hq
     |cons c' q=>
      simp only[fC]at hq;cases hc:oV c c' with
      |none=>simp[hc]at hq
      |some r=>
       cases r with
       |true=>simp only[hc]at hq;simp[ih q b hq]
       |false=>
        simp only[hc]at hq;cases hr:fC p q with
        |none=>simp[hr]at hq
        |some r=>simp[ih q r hr]
   have hF:P.fieldsOf t=F:=by simp[Program.fieldsOf,hu]
   constructor
   ·simp only[Op.equal,Op.maxDepth];rw[run_equalIn_struct w 9999 t xs ys (by rw[hF];exact hu) hst,hF];refine zF (S:=S) (ρ:=ρ) (n:=9998) F.toList 0 da db b hall ?_ hl h (fun i d hd=>?_) (fun i d hd=>?_) hfit
    ·rw[hoff,List.range_eq_range'];simp
    ·have hi:i<xs.size:=by have:=(List.getElem?_eq_some_iff.1 hd).1;omega
     rw[Nat.zero_add];exact⟨_,Array.getElem?_eq_getElem hi,hxr i d _ hd (Array.getElem?_eq_getElem hi)⟩
    ·have hi:i<ys.size:=by have:=(List.getElem?_eq_some_iff.1 hd).1;omega
     rw[Nat.zero_add];exact⟨_,Array.getElem?_eq_getElem hi,hyr i d _ hd (Array.getElem?_eq_getElem hi)⟩
   ·intro op p q;exact run_eqGuard_agg w op t p q xs ys hgd
  ·rename_i hko;unfold yT at h;split at h
   ·rename_i hc;obtain⟨rfl,hk2,he⟩:=hc;injection h with h;subst h;obtain⟨F,hu,hfs,hks⟩:=kV hk;obtain⟨xs,rfl,hxl,hxr⟩:=hx.kK;obtain⟨ys,rfl,hyl,hyr⟩:=hy.kK;have hdk:0::ks=u9 P t F:=by
     split at hks
     ·rename_i hc;exfalso;simp only[Bool.and_eq_true]at hc;have hall:=hc.1.1.1.1;cases hF:F.toList with
      |nil=>rw[hF]at hks;cases hks
      |cons f fs=>
       rw[hF]at hks hall;simp only[List.map_cons,List.cons.injEq]at hks;simp only[List.all_cons,Bool.and_eq_true]at hall;have hf:=hall.1.1.2;have h0:=hks.1;unfold ke at hf;unfold kg at h0;cases hu2:P.underlying f.type with
       |none=>simp[hu2]at hf
       |some d=>cases d<;>simp[hu2]at hf h0
     ·exact hks
    obtain⟨_,hdf,hst,hgd⟩:=u_ hdk;have hF:P.fieldsOf t=F:=by simp[Program.fieldsOf,hu]
    have hsame:∀(a b:List D),fC a b=some true->a=b:=by
     intro a;induction a with
     |nil=>intro b hb;cases b<;>simp[fC]at hb⊢
     |cons c a ih=>
      intro b hb;cases b with
      |nil=>simp[fC]at hb
      |cons c' b=>
       simp only[fC]at hb;cases hcc:oV c c' with
       |none=>simp[hcc]at hb
       |some r=>
        cases r with
        |false=>simp only[hcc]at hb;cases hr:fC a b<;>simp[hr]at hb
        |true=>
         simp only[hcc]at hb;have h1:c=c':=by cases c<;>cases c'<;>simp[oV]at hcc⊢ <;>first|exact⟨hcc.1,hcc.2⟩|exact hcc
         rw[h1,ih b hb]
    obtain rfl:=hsame _ _ he;have hlit:∀(ks:List Nat) (l:List D),bD ks l=true->∀d∈l,(∃k n,d= .int k n)\/(∃b,d= .bool b)\/∃s,d= .str s:=by
     intro ks;induction ks with
     |nil=>intro l hl d hd;cases l with
      |nil=>cases hd
      |cons x l=>simp[bD]at hl
     |cons k ks ih=>
      intro l hl d hd;obtain⟨d',ds',rfl,h1,h2,_⟩:=r9 (P:=P) hl;rcases List.mem_cons.1 hd with rfl|hd
      ·cases d<;>simp[oV]at h2<;>simp
      ·exact ih ds' h1 d hd
    have hxy:xs=ys:=by
     refine Array.ext oM fun i h1 h2=>?_;have hi:i<da.length:=oM;have r1:=hxr i _ _ (List.getElem?_eq_getElem hi) (Array.getElem?_eq_getElem h1);have r2:=hyr i _ _ (List.getElem?_eq_getElem hi) (Array.getElem?_eq_getElem h2);rcases hlit ks da hk2 _ (List.getElem_mem hi)with⟨k,n,hd⟩|⟨b,hd⟩|⟨s,hd⟩<;>rw[hd]at r1 r2
     ·rw[r1.cy,r2.cy]
     ·rw[r1.fX,r2.fX]
     ·rw[r1.fl,r2.fl]
    subst hxy;constructor
    ·simp only[Op.equal,Op.maxDepth];rw[run_equalIn_struct w 9999 t xs xs (by rw[hF];exact hu) hst,hF];refine yx (S:=S) (ρ:=ρ) (n:=9997) F.toList 0 ks da hdf hk2 fun i d hd=>?_;have hi:i<xs.size:=by have:=(List.getElem?_eq_some_iff.1 hd).1;omega
     rw[Nat.zero_add];exact⟨_,Array.getElem?_eq_getElem hi,hxr i d _ hd (Array.getElem?_eq_getElem hi)⟩
    ·intro op p q;exact run_eqGuard_agg w op t p q xs xs hgd
   ·cases h
 ·rename_i a b hk;injection h with h;subst h;rw[hx.fX,hy.fX];refine⟨?_,fun op p q=>l_ op t p q _ _ (.inr (.inr ⟨_,rfl⟩))⟩;simp only[Op.equal,Op.maxDepth];exact run_equalIn_bool' w 9999 t _ _ (CV hk)
 ·cases h
theorem Lk{op:BinOp}{t:TypeId}{vx vy:Value}(ho:op= .eql\/op= .neq)(hv:(∃xs,vx= .agg xs)\/(∃b,vx= .bool b)){b:Bool}(h:(Op.equal t vx vy).run P w= .ok b w):
 (binOp op t vx vy).run P w= .ok (.bool (if op= .eql then b else !b)) w:=by
 rcases ho with rfl|rfl<;>rcases hv with⟨xs,rfl⟩|⟨c,rfl⟩<;>cases vy<;>simp[binOp,h]
theorem C5(ti:TI)(op:BinOp)(dx dy:D):(∃k m k' n,dx= .int k m/\dy= .int k' n)\/(∃m n,dx= .str m/\dy= .str n)\/(dy= .nilsl/\iy ti op dx dy=wT ti op dx)\/iy ti op dx dy=C6 ti op dx dy:=by cases dx<;>cases dy<;>first|exact .inr (.inr (.inl ⟨rfl,rfl⟩))|exact .inr (.inr (.inr rfl))|exact .inl ⟨_,_,_,_,rfl,rfl⟩|exact .inr (.inl ⟨_,_,rfl,rfl⟩)
theorem DQ{S:Nat->Prop}{t:TypeId}{op:BinOp}{dx d:D}{vx:Value}(hv:wT (ak P t) op dx=some d)(hx:aE w S ρ dx vx)(x y:Operand):
 ∃v,(do eqGuard op t x y vx (.slice none 0 0);binOp op t vx (.slice none 0 0)).run P w= .ok v w/\aE w S ρ d v:=by
 unfold wT at hv;split at hv
 ·rename_i e esz b ag hk;have hu:=(bY hk).1;have ho:op= .eql\/op= .neq:=by cases op<;>cases dx<;>first|exact .inl rfl|exact .inr rfl|(exact absurd hv (by simp[si]))
  have hd:∃b n c,vx= .slice b n c/\((d= .abool)\/d= .bool (if op= .eql then b.isNone else !b.isNone)):=by
   have sl:∀(sz:Nat) (es:List D) (e1 e2:Bool),dx= .sl sz es->(d=if es.isEmpty then .abool else .bool (if op= .eql then false else true))->∃b n c,vx= .slice b n c/\((d= .abool)\/d= .bool (if op= .eql then b.isNone else !b.isNone)):=by
    intro sz es e1 e2 he hd;rw[he]at hx;cases hx with
    |pure h=>
     cases h with
     |@sl _ _ A n cap b off us hn hcap hmax hA=>
      refine⟨A,n,cap,rfl,?_⟩;cases es with
      |nil=>exact .inl hd
      |cons c cs=>
       refine .inr ?_;rw[(hA sI).1];rcases ho with rfl|rfl<;>simpa using hd
   cases dx with
   |nilsl=>
    rw[hx.ei];refine⟨none,0,0,rfl,.inr ?_⟩;rcases ho with rfl|rfl<;>simp[si]at hv<;>simp[<-hv]
   |osl t' e' s' o' n'=>
    cases hx with
    |pure h=>cases h
    |osl=>
     refine⟨_,_,_,rfl,.inr ?_⟩;rcases ho with rfl|rfl<;>simp[si]at hv<;>simp[<-hv]
   |sl sz es=>
    refine sl sz es true true rfl ?_;rcases ho with rfl|rfl<;>simp only[si,Option.some.injEq]at hv<;>simp[<-hv]
   |_=>rcases ho with rfl|rfl<;>simp[si]at hv
  obtain⟨bb,n,c,rfl,hd⟩:=hd;have hg:(eqGuard op t x y (.slice bb n c) (.slice none 0 0)).run P w= .ok () w:=by cases op<;>rfl
  have he:(Op.equal t (.slice bb n c) (.slice none 0 0)).run P w= .ok bb.isNone w:=by
   have key:∀d,(Op.equalIn (d+1) t (.slice bb n c) (.slice none 0 0)).run P w= .ok bb.isNone w:=fun d=>by
    unfold Op.equalIn;simp only[Sem.run_bind,run_underlying hu,Result.andThen];cases bb<;>rfl
   exact key 9999
  refine⟨.bool (if op= .eql then bb.isNone else !bb.isNone),?_,?_⟩
  ·simp only[Sem.run_bind,hg,Result.andThen];rcases ho with rfl|rfl<;>simp[binOp,he]
  ·rcases hd with rfl|rfl
   ·exact .pure (.abool _)
   ·exact .pure (.bool _)
 ·cases hv
theorem Br(h:az X ρ σ bx a w){op:BinOp}{t t':TypeId}{x y:Operand}{d:D}(hv:iy (ak P t) op (ev σ x) (ev σ y)=some d):Yields P X ρ bx a w ⟨dst,.binOp op t x y t',ty,pos,af,g⟩ d:=by
 have hx:=h.ev x;have hy:=h.ev y;generalize ev σ x=dx at hv hx;generalize ev σ y=dy at hv hy;rcases C5 (ak P t) op dx dy with⟨k,m,k',n,rfl,rfl⟩|⟨m,n,rfl,rfl⟩|⟨rfl,he⟩|he
 ·simp only[iy]at hv;split at hv
  ·rename_i hk;subst hk;obtain⟨v,hrun,hr⟩:=Jm (P:=P) (ρ:=ρ) (w:=w) op k m n d hv t (ay X ρ bx w);refine aM v ?_ hr;simp only[execOp,Sem.run_bind,hx.cy,hy.cy,l_ op t x y _ _ (.inl ⟨_,_,rfl⟩),Result.andThen_ok,hrun,Sem.run_pure]
  ·obtain⟨v,hrun,hr⟩:=zi (P:=P) (ρ:=ρ) (w:=w) op k k' m n d hv t (ay X ρ bx w);refine aM v ?_ hr;simp only[execOp,Sem.run_bind,hx.cy,hy.cy,l_ op t x y _ _ (.inl ⟨_,_,rfl⟩),Result.andThen_ok,hrun,Sem.run_pure]
 ·simp only[iy]at hv;obtain⟨v,hrun,hr⟩:=Jo (P:=P) (ρ:=ρ) (w:=w) op m n d hv t (ay X ρ bx w);refine aM v ?_ hr;simp only[execOp,Sem.run_bind,hx.fl,hy.fl,l_ op t x y _ _ (.inr (.inl ⟨_,rfl⟩)),Result.andThen_ok,hrun,Sem.run_pure]
 ·rw[he]at hv;obtain⟨v,hrun,hr⟩:=DQ (P:=P) hv hx x y;refine aM v ?_ hr;simp only[Sem.run_bind]at hrun;simp only[execOp,Sem.run_bind,hy.ei];rw[hrun];rfl
 ·rw[he]at hv;have hop:op= .eql\/op= .neq:=by cases op<;>simp[C6]at hv<;>simp
  obtain⟨b,hb,hd⟩:∃b,xD (ak P t) dx dy=some b/\d= .bool (if op= .eql then b else !b):=by rcases hop with rfl|rfl<;>simp only[C6,Option.map_eq_some_iff]at hv<;>obtain⟨b,hb,rfl⟩:=hv<;>exact⟨b,hb,by simp⟩
  obtain⟨he,hg⟩:=JC hb hx hy;subst hd;have hvx:(∃xs,a.eval x= .agg xs)\/(∃b,a.eval x= .bool b):=by
   unfold xD at hb;split at hb
   ·obtain⟨vs,h1,_⟩:=hx.kK;exact .inl ⟨vs,h1⟩
   ·exact .inr ⟨_,hx.fX⟩
   ·cases hb
  refine aM (.bool (if op= .eql then b else !b)) ?_ (.pure (.bool _));simp only[execOp,Sem.run_bind,hg,Result.andThen_ok,Lk hop hvx he,Sem.run_pure]
theorem En(h:az X ρ σ bx a w){op:UnOp}{t:TypeId}{x:Operand}{d:D}(hv:Bg op (ev σ x)=some d):Yields P X ρ bx a w ⟨dst,.unOp op t x,ty,pos,af,g⟩ d:=by
 have hx:=h.ev x;generalize ev σ x=dx at hv hx;cases dx<;>simp only[Bg]at hv<;>try (cases hv;done)
 ·cases op<;>simp only at hv<;>try (cases hv;done)
  ·injection hv with hv;subst hv;exact aM _ (by simp[execOp,hx.cy,Op.unary,Op.intArith]) (.pure (.int _ _))
  ·injection hv with hv;subst hv;exact aM _ (by simp[execOp,hx.cy,Op.unary,Op.intBits,ca]) (.pure (.int _ _))
 ·cases op<;>simp only at hv<;>try (cases hv;done)
  injection hv with hv;subst hv;exact aM _ (by simp[execOp,hx.fX,Op.unary]) (.pure (.bool _))
theorem BQ{S:Nat->Prop}{dx d:D}{vx:Value}{o:Nat}(hv:gR dx o=some d)(hx:aE w S ρ dx vx):∃b p,vx= .pointer (some ⟨b,p,none⟩)/\aE w S ρ d (.pointer (some ⟨b,p+o,none⟩)):=by
 cases dx with
 |loc s e i j=>
  simp only[gR,Option.some.injEq]at hv;subst hv;obtain⟨p,hp,rfl⟩:=hx.iq;exact⟨_,_,rfl,.loc hp oM⟩
 |cref d0 j=>
  simp only[gR,Option.some.injEq]at hv;subst hv;have hx2:ba w S (.cref d0 j) vx:=hx.dK rfl;cases hx2 with
  |@cref _ _ b off p us hb hp hc h1 hr=>exact⟨_,_,rfl,.pure (.cref (us:=us) hb oM hc h1 hr)⟩
 |_=>simp[gR]at hv
theorem vh(h:az X ρ σ bx a w){t:TypeId}{x:Operand}{i:Nat}{d:D}(hv:jL (ak P t) (ev σ x) i=some d):Yields P X ρ bx a w ⟨dst,.fieldAddr t x i,ty,pos,af,g⟩ d:=by
 have hx:=h.ev x;generalize ev σ x=dx at hv hx;simp only[jL]at hv;cases hk:(ak P t).k with
 |struct fs eq=>
  simp only[hk]at hv;obtain⟨F,hu,hfs,_⟩:=kV hk;subst hfs;simp only[List.getElem?_map,Array.getElem?_toList]at hv;cases hf:F[i]? with
  |none=>simp[hf]at hv
  |some f=>
   simp only[hf,Option.map_some]at hv;split at hv
   ·cases hv
   ·rename_i hz;obtain⟨b,p,hax,hr⟩:=BQ hv hx;refine aM _ ?_ hr;have hsz:=bW (P:=P) (t:=f.type) oM w;simp only[execOp,Instr.fieldAt,Instr.sureAddr,Sem.run_bind,Sem.run_pure,Result.andThen_ok,run_underlying hu,hf,hax,fieldPlace,hsz,hz,if_false,Addr.cz]
 |_=>simp[hk]at hv
theorem BA(h:az X ρ σ bx a w){t:TypeId}{x:Operand}{i:Nat}{d:D}(hv:rT (ak P t) (ev σ x) i=some d):Yields P X ρ bx a w ⟨dst,.field t x i,ty,pos,af,g⟩ d:=by
 have hx:=h.ev x;generalize ev σ x=dx at hv hx;unfold rT at hv;split at hv
 ·rename_i fs eq ds hk;obtain⟨F,hu,hfs,_⟩:=kV hk;subst hfs;obtain⟨vs,hax,hl,hr⟩:=hx.kK;simp only[List.getElem?_map,Array.getElem?_toList]at hv;cases hf:F[i]? with
  |none=>simp[hf]at hv
  |some f=>
   simp only[hf,Option.map_some]at hv;split at hv
   ·cases hv
   ·rename_i hz;have hz:0<bI P f.type:=oM;have hpart:∃v,(part f.type vs f.offset).run P w= .ok v w/\aE w (ay X ρ bx w) ρ d v:=by
     have hud:∃dd,P.underlying f.type=some dd:=let ⟨_,dd,_,h2,_⟩:=iu hz;⟨dd,h2⟩
     obtain⟨dd,hud⟩:=hud;unfold fK at hv;cases hag:kl P f.type with
     |true=>
      simp only[hag,if_true]at hv;split at hv
      ·rename_i hle;injection hv with hv;subst hv;refine⟨.agg (vs.extract f.offset (f.offset+bI P f.type)),by simp only[part,Sem.run_bind,lT hud,Result.andThen_ok,hag,if_true,bW hz,Sem.run_pure],.agg ?_ ?_⟩
       ·simp[D.cells]at hle⊢;omega
       ·intro j c u hc hu';simp only[D.cells]at hc hle;have hj:j<bI P f.type:=by have:=(List.getElem?_eq_some_iff.1 hc).1;simp at this;omega
        rw[List.getElem?_take_of_lt hj,List.getElem?_drop]at hc;rw[Array.getElem?_extract]at hu';split at hu'
        ·exact hr _ _ _ hc hu'
        ·cases hu'
      ·cases hv
     |false=>
      simp only[hag,Bool.false_eq_true,if_false,D.cells]at hv;have hlt:=(List.getElem?_eq_some_iff.1 hv).1;have hvs:vs[f.offset]? =some vs[f.offset]:=Array.getElem?_eq_getElem oM;exact⟨_,by simp only[part,Sem.run_bind,lT hud,Result.andThen_ok,hag,Bool.false_eq_true,if_false,hvs,Sem.run_pure],hr _ _ _ hv hvs⟩
    obtain⟨v,hrun,hrep⟩:=hpart;refine aM v ?_ hrep;simp only[execOp,Instr.field,Sem.run_bind,Sem.run_pure,Result.andThen_ok,run_underlying hu,hf,hax,asAgg,hrun]
 ·cases hv
theorem BD(h:az X ρ σ bx a w){t:TypeId}{x y:Operand}{d:D}(hv:j9 (ev σ y) (mB (ak P t) (ev σ x))=some d):Yields P X ρ bx a w ⟨dst,.index t x y,ty,pos,af,g⟩ d:=by
 have hx:=h.ev x;have hy:=h.ev y;generalize ev σ x=dx at hv hx;generalize ev σ y=dy at hv hy;cases dy with
 |int k n=>
  have hy:=hy.cy;simp only[j9]at hv;unfold mB at hv;split at hv
  ·rename_i s hk;split at hv
   ·rename_i h0;cases hs:s[n.toNat]? with
    |none=>simp[hs]at hv
    |some b=>
     simp only[hs,Option.map_some,Option.some.injEq]at hv;subst hv;have hlt:=(List.getElem?_eq_some_iff.1 hs).1;refine aM (.int .u8 (b.toNat:Int)) ?_ (.pure (.int _ _));have hb:(⟨s.toArray⟩:ByteArray)[n.toNat]? =some b:=by
      rw[ByteArray.getElem?_lt' _ _ (by simpa[ByteArray.size]using hlt)];have:s[n.toNat]=b:=by have:=List.getElem?_eq_getElem hlt;rw[hs]at this;injection this with this;exact this.symm
      rw[<-this];rfl
     simp only[execOp,Instr.index,hy,hx.fl,asIntOf,Sem.run_bind,Sem.run_pure,Result.andThen_ok,run_underlying (lC hk),h0,if_true,hb]
   ·cases hv
  ·rename_i len esz ag ds hk;split at hv
   ·rename_i hc;obtain⟨h0,hlt,hpos⟩:=hc;obtain⟨e,hu,he,hag⟩:=pY hk;obtain⟨vs,hax,hl,hr⟩:=hx.kK;subst he;subst hag;obtain⟨_,dd,_,hud,_⟩:=iu hpos;have hc2:0<=n/\n<((len:Nat):Int):=⟨h0,hlt⟩
    have hpart:∃v,(part e vs (n.toNat * bI P e)).run P w= .ok v w/\aE w (ay X ρ bx w) ρ d v:=by
     unfold fK at hv;cases hag:kl P e with
     |true=>
      simp only[hag,if_true]at hv;split at hv
      ·rename_i hle;injection hv with hv;subst hv;refine⟨.agg (vs.extract (n.toNat * bI P e) (n.toNat * bI P e+bI P e)),by simp only[part,Sem.run_bind,lT hud,Result.andThen_ok,hag,if_true,bW hpos,Sem.run_pure],.agg ?_ ?_⟩
       ·simp[D.cells]at hle⊢;omega
       ·intro j c u hc hu';simp only[D.cells]at hc hle;have hj:j<bI P e:=by have:=(List.getElem?_eq_some_iff.1 hc).1;simp at this;omega
        rw[List.getElem?_take_of_lt hj,List.getElem?_drop]at hc;rw[Array.getElem?_extract]at hu';split at hu'
        ·exact hr _ _ _ hc hu'
        ·cases hu'
      ·cases hv
     |false=>
      simp only[hag,Bool.false_eq_true,if_false,D.cells]at hv;have hlt:=(List.getElem?_eq_some_iff.1 hv).1;have hvs:vs[n.toNat * bI P e]? =some vs[n.toNat * bI P e]:=Array.getElem?_eq_getElem oM;exact⟨_,by simp only[part,Sem.run_bind,lT hud,Result.andThen_ok,hag,Bool.false_eq_true,if_false,hvs,Sem.run_pure],hr _ _ _ hv hvs⟩
    obtain⟨v,hrun,hrep⟩:=hpart;refine aM v ?_ hrep;simp only[execOp,Instr.index,hy,hax,asIntOf,Sem.run_bind,Sem.run_pure,Result.andThen_ok,run_underlying hu,hc2,and_self,if_true,bW hpos,hrun]
   ·cases hv
  ·cases hv
 |_=>simp[j9]at hv
theorem lr(h:az X ρ σ bx a w){lo:Option Operand}{l:Option Int}(hl:dh σ lo=some l):(lo=none/\l=none)\/∃x k n,lo=some x/\l=some n/\a.eval x= .int k n:=by
 cases lo with
 |none=>simp only[dh,Option.some.injEq]at hl;exact .inl ⟨rfl,hl.symm⟩
 |some x=>
  simp only[dh]at hl;have hx:=h.ev x;generalize ev σ x=dx at hl hx;cases dx<;>simp only[rZ]at hl<;>try (cases hl;done)
  injection hl with hl;subst hl;exact .inr ⟨x,_,_,rfl,rfl,hx.cy⟩
theorem iz(h:az X ρ σ bx a w){lo hi:Option Operand}{l u:Option Int}(hl:dh σ lo=some l)(hh:dh σ hi=some u){isS:Bool}{len cap p q:Nat}(hc:cT len l u=some (p,q))(hle:len<=cap):
 (Instr.sliceBounds isS len cap (lo.map a.eval) (hi.map a.eval) none).run P w= .ok (p,q,cap) w/\p<=q/\q<=len:=by
 unfold cT at hc;simp only at hc;split at hc
 ·rename_i hb;injection hc with hc;injection hc with h1 h2;rcases lr h hl with⟨rfl,rfl⟩|⟨x,k,n,rfl,rfl,hx⟩<;>rcases lr h hh with⟨rfl,rfl⟩|⟨y,k',m,rfl,rfl,hy⟩<;>simp only[Option.getD_none,Option.getD_some]at hb h1 h2
  ·subst h1;subst h2;refine⟨by simp[Instr.sliceBounds],by omega,by omega⟩
  ·subst h1;subst h2;have c1:0<=m/\m<=(cap:Int):=⟨by omega,by omega⟩
   refine⟨by simp[Instr.sliceBounds,Instr.sliceBound,hy,asIntOf,c1],by omega,by omega⟩
  ·subst h1;subst h2;have c1:0<=n/\n<=(len:Int):=⟨by omega,by omega⟩
   refine⟨by simp[Instr.sliceBounds,Instr.sliceBound,hx,asIntOf,c1],by omega,by omega⟩
  ·subst h1;subst h2;have c1:0<=m/\m<=(cap:Int):=⟨by omega,by omega⟩
   have c2:0<=n/\n<=((m.toNat:Nat):Int):=⟨by omega,by omega⟩
   refine⟨by simp only[Instr.sliceBounds,Instr.sliceBound,hx,hy,asIntOf,Option.map_some,Sem.run_bind,Sem.run_pure,Result.andThen_ok,Sem.run_ite,c1,c2,and_self,if_true],by omega,by omega⟩
 ·cases hc
theorem BR(h:az X ρ σ bx a w){t:TypeId}{x:Operand}{lo hi:Option Operand}{d:D}(hv:sq (dh σ lo) (dh σ hi) (gf (ak P t) (ev σ x))=some d):Yields P X ρ bx a w ⟨dst,.slice t x lo hi none,ty,pos,af,g⟩ d:=by
 have hx:=h.ev x;generalize ev σ x=dx at hv hx;cases hl:dh σ lo with
 |none=>simp[hl,sq]at hv
 |some l=>
 cases hh:dh σ hi with
 |none=>simp[hl,hh,sq]at hv
 |some u=>
 simp only[hl,hh,sq]at hv;have key:∀(e esz b:Nat) (ag:Bool) (sz:Nat) (es:List D),(ak P t).k= .slice e esz b ag->ba w (ay X ρ bx w) (.sl sz es) (a.eval x)->(if sz=esz/\0<esz then(cT es.length l u).map fun p=>D.sl sz ((es.drop p.1).take (p.2 - p.1))else none)=some d->Yields P X ρ bx a w ⟨dst,.slice t x lo hi none,ty,pos,af,g⟩ d:=by
  intro e esz b ag sz es hk hx2 hv2;split at hv2
  ·rename_i he;obtain⟨he,hpos⟩:=he;subst he;obtain⟨hu,hse,_,_⟩:=bY hk;cases hc:cT es.length l u with
   |none=>simp[hc]at hv2
   |some pq=>
    obtain⟨p,q⟩:=pq;simp only[hc,Option.map_some,Option.some.injEq]at hv2;subst hv2;generalize hax:a.eval x=vx at hx2;cases hx2 with
    |@sl _ _ A m cap b' off us hn hcap hmax hA hsz hcc h1 hr=>
     subst hn;obtain⟨hrun,k1,k2⟩:=iz (P:=P) (isS:=true) (cap:=cap) h hl hh hc hcap;have hel:∀(i:Nat) c,((es.drop p).take (q - p))[i]? =some c->es[p+i]? =some c:=fun i c hi=>by
      have hlt:=(List.getElem?_eq_some_iff.1 hi).1;simp at hlt;rwa[List.getElem?_take_of_lt oM,List.getElem?_drop]at hi
     refine aM (.slice (if cap=p then A else A.map (·.add (p * sz))) (q - p) (cap - p)) ?_ (.pure (.sl (b:=b') (off:=off+p * sz) (us:=fun i j=>us (p+i) j) (by simp;omega) oM oM (fun hne=>?_)
      (fun i c hi=>hsz _ _ (hel i c hi)) (fun i c j c' hi hj=>?_) (fun i c j c' hi hj=>h1 _ _ _ _ (hel i c hi) hj) (fun i c j c' hi hj=>hr _ _ _ _ (hel i c hi) hj)))
     ·simp only[execOp,Instr.sliceAt,Instr.slice,hax,Sem.run_bind,Sem.run_pure,Result.andThen_ok,run_underlying hu,Option.map_none,hrun,bW (hse▸hpos),<-hse]
     ·have hlt:p<es.length:=by
       rcases Nat.lt_or_ge p es.length with h'|h'
       ·exact h'
       ·exfalso;apply hne;rw[List.drop_eq_nil_of_le h'];simp
      obtain⟨rfl,hb⟩:=hA (by rintro rfl;simp at hlt);rw[if_neg oM];exact⟨by simp[Addr.cz],hb⟩
     ·have:=hcc _ _ _ _ (hel i c hi) hj;rwa[Nat.add_mul,<-Nat.add_assoc]at this
  ·cases hv2
 unfold gf at hv;split at hv
 ·rename_i s hk;cases hc:cT s.length l u with
  |none=>simp[hc]at hv
  |some pq=>
   obtain⟨p,q⟩:=pq;simp only[hc,Option.map_some,Option.some.injEq]at hv;subst hv;obtain⟨hrun,h1,h2⟩:=iz (P:=P) (isS:=false) (cap:=s.length) h hl hh hc (Nat.le_refl _);refine aM (.string ⟨((s.drop p).take (q - p)).toArray⟩) ?_ (.pure (.str _));have hsz:(⟨s.toArray⟩:ByteArray).size=s.length:=by simp[ByteArray.size]
   have hex:(⟨s.toArray⟩:ByteArray).extract p q=⟨((s.drop p).take (q - p)).toArray⟩:=by
    apply ByteArray.ext;apply Array.toList_inj.1;simp[ByteArray.data_extract,List.extract]
   simp only[execOp,Instr.sliceAt,Instr.slice,hx.fl,Sem.run_bind,Sem.run_pure,Result.andThen_ok,run_underlying (lC hk),Option.map_none,Option.isSome_none,Bool.false_eq_true,if_false,hsz,hrun,hex]
 ·rename_i e esz b ag sz es hk;exact key e esz b ag sz es hk (hx.dK rfl) hv
 ·rename_i e esz b ag s e' sz o n hk;split at hv
  ·rename_i he;obtain⟨he,hpos⟩:=he;subst he;obtain⟨hu,hse,_,_⟩:=bY hk;cases hc:cT n l u with
   |none=>simp[hc]at hv
   |some pq=>
    obtain⟨p,q⟩:=pq;simp only[hc,Option.map_some,Option.some.injEq]at hv;subst hv;generalize hax:a.eval x=vx at hx;cases hx with
    |pure h=>cases h
    |@osl _ _ _ _ _ off cap pl hp hsz h0' hoff hn hcap=>
     obtain⟨hrun,k1,k2⟩:=iz (P:=P) (isS:=true) (cap:=cap) h hl hh hc hn;have hrun2:(execOp a.eval ⟨dst,.slice t x lo hi none,ty,pos,af,g⟩).run P w= .ok (.value (.slice (if cap=p then some ⟨pl.b,off,none⟩else some ⟨pl.b,off+p * sz,none⟩) (q - p) (cap - p))) w:=by simp only[execOp,Instr.sliceAt,Instr.slice,hax,Sem.run_bind,Sem.run_pure,Result.andThen_ok,run_underlying hu,Option.map_none,hrun,bW (hse▸hpos),<-hse,Option.map_some,Addr.cz]
     by_cases hcp:cap=p
     ·rw[if_pos hcp]at hrun2;refine aM _ hrun2 (.osl hp hsz (fun h0=>⟨(h0' oM).1,?_⟩) (fun hq=>by omega) oM ⟨by omega,hcap.2⟩);have:=h0' oM;omega
     ·rw[if_neg hcp]at hrun2;refine aM _ hrun2 (.osl hp hsz (fun h0=>?_) (fun hq=>?_) oM ⟨by omega,hcap.2⟩)
      ·have hp0:p=0:=oM;subst hp0;have:=h0' oM;simp only[Nat.zero_mul,Nat.add_zero,Nat.sub_zero];exact this
      ·rw[hoff oM,Nat.add_mul]
  ·cases hv
 ·rename_i e esz b ag sz es hk;exact key e esz b ag sz es hk (hx.dK rfl).mG hv
 ·rename_i e esz b ag s e' i j n hk;split at hv
  ·rename_i he1;subst he1;obtain⟨hu,hse,_,_⟩:=bY hk;cases hc:cT n l u with
   |none=>simp[hc]at hv
   |some pq=>
    obtain⟨p,q⟩:=pq;simp only[hc,Option.map_some,Option.some.injEq]at hv;subst hv;generalize hax:a.eval x=vx at hx;cases hx with
    |pure h=>cases h
    |@csl _ _ _ _ _ off cap pl hp hoff hn hcap=>
     obtain⟨hrun,k1,k2⟩:=iz (P:=P) (isS:=true) (cap:=cap) h hl hh hc hn;have hrun2:(execOp a.eval ⟨dst,.slice t x lo hi none,ty,pos,af,g⟩).run P w= .ok (.value (.slice (some ⟨pl.b,if cap=p then off else off+p,none⟩) (q - p) (cap - p))) w:=by
      simp only[execOp,Instr.sliceAt,Instr.slice,hax,Sem.run_bind,Sem.run_pure,Result.andThen_ok,run_underlying hu,Option.map_none,hrun,bW (hse▸(by decide:0<1)),<-hse,Option.map_some,Addr.cz,Nat.mul_one];split<;>rfl
     refine aM _ hrun2 (.csl hp (fun hq=>?_) oM oM);rw[if_neg oM,hoff oM];omega
  ·cases hv
 ·rename_i n esz ag s e' i j hk;split at hv
  ·rename_i hn0;obtain⟨hz1,hn0⟩:=hn0;obtain⟨el,hu,hs1,_⟩:=pY hk;rw[hz1]at hs1;have hs1:=hs1.symm;cases hc:cT n l u with
   |none=>simp[hc]at hv
   |some pq=>
    obtain⟨p,q⟩:=pq;simp only[hc,Option.map_some,Option.some.injEq]at hv;subst hv;obtain⟨pl,hp,hax⟩:=hx.iq;obtain⟨hrun,k1,k2⟩:=iz (P:=P) (isS:=false) (cap:=n) h hl hh hc (Nat.le_refl _);have hrun2:(execOp a.eval ⟨dst,.slice t x lo hi none,ty,pos,af,g⟩).run P w= .ok (.value (.slice (some ⟨pl.b,if n=p then i * pl.sz+j else i * pl.sz+j+p,none⟩) (q - p) (n - p))) w:=by
     simp only[execOp,Instr.sliceAt,Instr.sureAddr,hax,Sem.run_bind,Sem.run_pure,Result.andThen_ok,run_underlying hu,Option.map_none,hrun,bW (by rw[hs1];decide:0<bI P el),hs1,Addr.cz,Nat.mul_one];split<;>rfl
    refine aM _ hrun2 (.csl hp (fun hq=>?_) oM oM);rw[if_neg oM];omega
  ·cases hv
 ·rename_i n esz ag d0 j hk;split at hv
  ·rename_i hn0;obtain⟨hz1,hn0,hjn,hone⟩:=hn0;obtain⟨el,hu,hs1,_⟩:=pY hk;rw[hz1]at hs1;have hs1:=hs1.symm;cases hc:cT n l u with
   |none=>simp[hc]at hv
   |some pq=>
    obtain⟨p,q⟩:=pq;simp only[hc,Option.map_some,Option.some.injEq]at hv;subst hv;have hx2:ba w (ay X ρ bx w) (.cref d0 j) (a.eval x):=hx.dK rfl;generalize hax:a.eval x=vx at hx2;cases hx2 with
    |@cref _ _ b off p0 us hS hp hcc h1 hr=>
     subst hp;obtain⟨hrun,k1,k2⟩:=iz (P:=P) (isS:=false) (cap:=n) h hl hh hc (Nat.le_refl _);have hrun2:(execOp a.eval ⟨dst,.slice t x lo hi none,ty,pos,af,g⟩).run P w= .ok (.value (.slice (some ⟨b,if n=p then off+j else off+j+p,none⟩) (q - p) (n - p))) w:=by
      simp only[execOp,Instr.sliceAt,Instr.sureAddr,hax,Sem.run_bind,Sem.run_pure,Result.andThen_ok,run_underlying hu,Option.map_none,hrun,bW (by rw[hs1];decide:0<bI P el),hs1,Addr.cz,Nat.mul_one];split<;>rfl
     have hel:∀(m:Nat) c,((d0.cells.drop (j+p)).take (q - p))[m]? =some c->d0.cells[j+p+m]? =some c/\m<q - p:=fun m c hm=>by
      have hlt:=(List.getElem?_eq_some_iff.1 hm).1;simp at hlt;rw[List.getElem?_take_of_lt oM,List.getElem?_drop]at hm;exact⟨hm,by omega⟩
     have one:∀(m:Nat) c,d0.cells[m]? =some c->c.cells=[c]:=fun m c hm=>en (List.all_eq_true.1 hone c (List.mem_of_getElem? hm));refine aM _ hrun2 (.pure (.sl (b:=b) (off:=off+j+p) (us:=fun m _=>us (j+p+m)) (by simp;omega) oM (by show n - p<=maxLen;unfold maxLen;omega) (fun hne=>⟨?_,hS⟩) (fun m c hm=>?_) (fun m c k c' hm hk'=>?_) (fun m c k c' hm hk'=>?_) (fun m c k c' hm hk'=>?_)))
     ·rw[if_neg];intro e;apply hne;have:q - p=0:=oM;rw[this];rfl
     ·rw[one _ _ (hel m c hm).1];rfl
     ·obtain⟨g1,g2⟩:=hel m c hm;rw[one _ _ g1]at hk';obtain rfl:k=0:=by
       rcases k with _|k
       ·rfl
       ·simp at hk'
      have:=hcc _ _ g1;rw[show off+j+p+m * 1+0=off+(j+p+m) by omega];exact this
     ·exact h1 _ _ (hel m c hm).1
     ·obtain⟨g1,g2⟩:=hel m c hm;rw[one _ _ g1]at hk';obtain rfl:k=0:=by
       rcases k with _|k
       ·rfl
       ·simp at hk'
      simp at hk';subst hk';exact hr _ _ g1
  ·cases hv
 ·rename_i e esz b ag hk;split at hv
  ·rename_i hpos;obtain⟨hu,hse,_,_⟩:=bY hk;cases hc:cT 0 l u with
   |none=>simp[hc]at hv
   |some pq=>
    obtain⟨p,q⟩:=pq;simp only[hc,Option.map_some,Option.some.injEq]at hv;subst hv;have hax:=hx.ei;obtain⟨hrun,k1,k2⟩:=iz (P:=P) (isS:=true) (cap:=0) h hl hh hc (Nat.le_refl _);obtain rfl:p=0:=oM;obtain rfl:q=0:=oM;refine aM (.slice none 0 0) ?_ (.pure .nilsl);simp only[execOp,Instr.sliceAt,Instr.slice,hax,Sem.run_bind,Sem.run_pure,Result.andThen_ok,run_underlying hu,Option.map_none,hrun,bW (hse▸hpos),if_true,Nat.sub_self]
  ·cases hv
 ·cases hv
end Go.V
