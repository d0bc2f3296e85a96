/- Plain laws: VA. -/
import Derived.Test.YtkgloohlmogakaaGreatDoorVG
set_option linter.all false
set_option maxHeartbeats 8000000
namespace Go.V
universe u
open Go.RowKit
abbrev Env:=Nat->D
abbrev ae:=Nat->Bx
def Bx.none:Bx:=⟨0,0,0,0,[]⟩
def aj{α:Type}(σ:Nat->α)(t:Nat)(v:α):Nat->α:=fun x=>if x=t then v else σ x
def dC{α:Type}(σ:Nat->α)(t:Nat)(v:α):aj σ t v t=v:=by simp[aj]
def A5:Value->D
 | .int k n=> .int k n
 | .bool b=> .bool b
 | .string s=> .str s.data.toList
 | .slice none 0 0=> .aq
 |x=> .raw x
def x_:Value->D
 | .agg cs=> .agg (cs.toList.map A5)
 |x=>A5 x
def evG(g:Nat):Option D->D
 |some d=> .cG d 0
 |none=> .raw (.pointer (some ⟨g,0,none⟩))
def ev(σ:Env):Operand->D
 | .tmp t=>σ t
 | .const v=>x_ v
 | .global g=>evG g (Bt g)
 | .func f=> .fn (.func f) []
inductive TK where
 |none
 |bool
 |int (k:IntKind)
 |str
 |slice (e esz bytes:Nat) (aew:Bool)
 |arr (n esz:Nat) (aew:Bool)
 |struct (fs:List (Nat×Nat×Bool)) (eq:List Nat)
 |dI
 |map (kt et:TypeId)
 |other
 deriving Inhabited
structure TI where
 k:TK
 size:Nat
 agg:Bool
 zero:List D
 deriving Inhabited
def o_(P:Program)(t:TypeId):Bool:=
 match P.underlying t with
 |some (.struct _)|some (.array ..)=>true
 |_=>false
def o0(P:Program)(t:TypeId):Bool:=
 match P.underlying t with
 |some .bool|some (.int _)|some .string=>true
 |_=>false
def o7(P:Program)(t:TypeId):Nat:=
 match P.underlying t with
 |some .bool=>1
 |some (.int _)=>2
 |some .string=>3
 |_=>0
def cK(P:Program)(t:TypeId):Nat:=if(P.underlying t).isSome then((P.info? t).map (·.size)).getD 0 else 0
def R1(P:Program)(f:Field):Option (List Nat):=
 if o0 P f.type&&cK P f.type==1 then some [o7 P f.type]else match P.underlying f.type with
  |some (.array n e)=>if o0 P e&&cK P e==1 then some (List.replicate n (o7 P e))else none
  |_=>none
def yz(P:Program):Nat->List Field->Option (List Nat)
 |_,[]=>some []
 |o,f::fs=>match R1 P f with
  |some ks=>if f.name != "_"&&f.offset==o&&cK P f.type==ks.length then (yz P (o+ks.length) fs).map (ks++·) else none
  |none=>none
def Cx(P:Program)(t:TypeId)(F:Array Field):List Nat:=match yz P 0 F.toList with
 |some ks=>if !P.stoodInHeld t&& !P.eqGuardType P.depth t then 0::ks else[]
 |none=>[]
def an(P:Program)(t:TypeId):TI:={
 k:=(match P.underlying t with
  |some .bool=> .bool
  |some (.int k)=> .int k
  |some .string=> .str
  |some (.slice e)=> .slice e (cK P e) (((P.info? e).map (·.bytes)).getD 0) (o_ P e)
  |some (.array n e)=> .arr n (cK P e) (o_ P e)
  |some (.struct fs)=> .struct (fs.toList.map fun f=>(f.offset,cK P f.type,o_ P f.type)) (if fs.toList.all (fun f=>f.name != "_"&&o0 P f.type&&cK P f.type==1)&& !P.stoodInHeld t&& !P.eqGuardType P.depth t&&(fs.toList.map (·.offset))==List.range fs.size&&cK P t==fs.size then fs.toList.map fun f=>o7 P f.type else Cx P t fs)
  |some (.interface _)=> .dI
  |some (.map kt et)=> .map kt et
  |some _=> .other
  |none=> .none)
 size:=cK P t
 agg:=o_ P t
 zero:=(((P.info? t).bind (·.zero)).map fun z=>z.cells.toList.map A5).getD []}
def jA(d:D)(j:Nat)(ag:Bool)(k:Nat):Option D:=
 if ag then(if j+k<=d.cells.length then some (.agg ((d.cells.drop j).take k))else none)else d.cells[j]?
def fl(d:D)(j:Nat)(cs:List D):Option D:=
 if j+cs.length<=d.cells.length then
  match d with
  | .agg ds=>some (.agg (ds.take j++cs++ds.drop (j+cs.length)))
  |_=>match cs with
   |[c]=>some c
   |_=>none
 else none
def uM:D->D->Option Bool
 | .int k a,.int k' b=>if k=k' then some (a==b)else none
 | .bool a,.bool b=>some (a==b)
 | .str a,.str b=>some (a==b)
 |_,_=>none
def jm:List D->List D->Option Bool
 |[],[]=>some true
 |a::as,b::bs=>match uM a b with
  |some true=>jm as bs
  |some false=>match jm as bs with
   |some _=>some false
   |none=>none
  |none=>none
 |_,_=>none
def ct:List Nat->List D->Bool
 |[],[]=>true
 |1::ks,.bool _::ds=>ct ks ds
 |2::ks,.int _ _::ds=>ct ks ds
 |3::ks,.str _::ds=>ct ks ds
 |_,_=>false
def Gb(k:Nat)(ks:List Nat)(a b:List D):Option Bool:=if k=0/\ct ks a=true/\jm a b=some true then some true else none
def EP(ti:TI)(x y:D):Option Bool:=
 match ti.k,x,y with
 | .struct _ (k::ks),.agg a,.agg b=>if ct (k::ks) a then jm a b else Gb k ks a b
 | .bool,.bool a,.bool b=>some (a==b)
 |_,_,_=>none
def Lb(op:BinOp)(a b:Int):Option D:=
 match op with
 | .eql=>some (.bool (a==b))
 | .neq=>some (.bool (a != b))
 | .lss=>some (.bool (decide (a<b)))
 | .leq=>some (.bool (decide (a<=b)))
 | .gtr=>some (.bool (decide (b<a)))
 | .geq=>some (.bool (decide (b<=a)))
 |_=>none
def du(op:BinOp)(k:IntKind)(a b:Int):Int:=
 k.wrap ((match op with
  | .and=>BitVec.ofInt k.bits a&&& BitVec.ofInt k.bits b
  | .or=>BitVec.ofInt k.bits a|||BitVec.ofInt k.bits b
  | .xor=>BitVec.ofInt k.bits a ^^^ BitVec.ofInt k.bits b
  |_=>BitVec.ofInt k.bits a&&& ~~~(BitVec.ofInt k.bits b):BitVec k.bits).toNat:Int)
def zL(op:BinOp)(k:IntKind)(a b:Int):Option D:=
 if b<0 then none else match op with
 | .shl=>some (.int k (k.wrap (a * 2 ^ (min b.toNat k.bits))))
 | .shr=>some (.int k (a.fdiv (2 ^ (min b.toNat k.bits))))
 |_=>none
def km(op:BinOp)(k:IntKind)(a b:Int):Option D:=
 match op with
 | .and=>some (.int k (du .and k a b))
 | .or=>some (.int k (du .or k a b))
 | .xor=>some (.int k (du .xor k a b))
 | .andNot=>some (.int k (du .andNot k a b))
 | .shl=>zL .shl k a b
 | .shr=>zL .shr k a b
 | .add=>some (.int k (k.wrap (a+b)))
 | .sub=>some (.int k (k.wrap (a - b)))
 | .mul=>some (.int k (k.wrap (a * b)))
 | .quo=>if b=0 then none else some (.int k (k.wrap (a.tdiv b)))
 | .rem=>if b=0 then none else some (.int k (a.tmod b))
 |op=>Lb op a b
def zR(op:BinOp)(a b:List UInt8):Option D:=
 match op with
 | .add=>if a.length+b.length<=9223372036854775807 then some (.str (a++b))else none
 | .eql=>some (.bool (a==b))
 | .neq=>some (.bool (!(a==b)))
 | .lss=>some (.bool (Op.bytesLess a b))
 | .leq=>some (.bool (Op.bytesLess a b||a==b))
 | .gtr=>some (.bool (!(Op.bytesLess a b||a==b)))
 | .geq=>some (.bool (!Op.bytesLess a b))
 |_=>none
def K6(ti:TI)(op:BinOp)(a b:D):Option D:=
 match op with
 | .eql=>(EP ti a b).map .bool
 | .neq=>(EP ti a b).map fun x=> .bool (!x)
 |_=>none
def zj(op:BinOp)(x:D):Option D:=match op,x with
 | .eql,.aq=>some (.bool true)
 | .neq,.aq=>some (.bool false)
 | .eql,.bp ..=>some (.bool false)
 | .neq,.bp ..=>some (.bool true)
 | .eql,.sl _ es=>some (if es.isEmpty then .ic else .bool false)
 | .neq,.sl _ es=>some (if es.isEmpty then .ic else .bool true)
 |_,_=>none
def Ed(ti:TI)(op:BinOp)(x:D):Option D:=match ti.k with
 | .slice ..=>zj op x
 |_=>none
def lY(ti:TI)(op:BinOp):D->D->Option D
 | .int k a,.int k' b=>if k=k' then km op k a b else zL op k a b
 | .str a,.str b=>zR op a b
 |x,.aq=>Ed ti op x
 |a,b=>K6 ti op a b
def isNil:Operand->Bool
 | .const .nilIface=>true
 |_=>false
def zi:D->Option Bool
 | .dI _ _=>some false
 | .raw .nilIface=>some true
 |_=>none
def Q0(ti:TI)(op:BinOp)(x:D):Option D:=
 match ti.k,op with
 | .dI,.eql=>(zi x).map .bool
 | .dI,.neq=>(zi x).map fun b=> .bool (!b)
 |_,_=>none
def Bk(ti:TI)(op:BinOp)(x y:D)(c:Bool):Option D:=if c then Q0 ti op x else lY ti op x y
def IY(op:UnOp):D->Option D
 | .bool b=>match op with
   | .not=>some (.bool (!b))
   |_=>none
 | .int k n=>match op with
   | .neg=>some (.int k (k.wrap (0 - n)))
   | .xor=>some (.int k (du .xor k (if k.signed then -1 else k.max) n))
   |_=>none
 |_=>none
def k_:D->Nat->Option D
 | .loc t e i j,o=>some (.loc t e i (j+o))
 | .cG d j,o=>some (.cG d (j+o))
 |_,_=>none
def nX(ti:TI)(x:D)(i:Nat):Option D:=
 match ti.k with
 | .struct fs _=>match fs[i]? with
   |some (off,sz,_)=>if sz=0 then none else k_ x off
   |none=>none
 |_=>none
def yG(ti:TI)(x:D)(i:Nat):Option D:=
 match ti.k,x with
 | .struct fs _, .agg ds=>match fs[i]? with
   |some (off,sz,ag)=>if sz=0 then none else jA (.agg ds) off ag sz
   |none=>none
 |_,_=>none
def fa(ti:TI)(x:D)(n:Int):Option D:=
 match ti.k with
 | .slice _ esz _ _=>match x with
   | .sl sz es=>if 0<=n/\sz=esz/\0<esz then(es[n.toNat]?).map fun d=> .cG d 0 else none
   | .bp t e sz o len=>if 0<=n/\n<len/\sz=esz/\0<esz then some (.loc t e (o+n.toNat) 0)else none
   | .ij sz es=>if 0<=n/\sz=esz/\0<esz then(es[n.toNat]?).map fun d=> .cG d 0 else none
   | .fJ t e i j len=>if 0<=n/\n<len/\esz=1 then some (.loc t e i (j+n.toNat))else none
   |_=>none
 | .arr len esz _=>if 0<=n/\n<len/\1<len/\0<esz then k_ x (n.toNat * esz)else none
 |_=>none
def rN(ti:TI)(x:D)(n:Int):Option D:=
 match ti.k,x with
 | .str,.str s=>if 0<=n then(s[n.toNat]?).map fun b=> .int .u8 (b.toNat:Int)else none
 | .arr len esz ag,.agg ds=>if 0<=n/\n<len/\0<esz then jA (.agg ds) (n.toNat * esz) ag esz else none
 |_,_=>none
def iH(ti:TI)(bx:ae):D->Option D
 | .loc t e i j=>if(bx t).ep=e/\lv (bx t).k/\0<ti.size then((bx t).es[i]?).bind fun d=>jA d j ti.agg ti.size else none
 | .cG d j=>if 0<ti.size then jA d j ti.agg ti.size else none
 |_=>none
def lD(x:Option D)(xs:Option (List D)):Option (List D):=match x,xs with
 |some x,some xs=>some (x::xs)
 |_,_=>none
def iE(b:Bool)(x y:Prop)(_:Tok (x/\y):=⟨⟩):Prop:=if b then x else y
def Cu(d:D)(x y:Prop)(_:Tok (x/\y):=⟨⟩):Prop:=match d with
 | .bool t=>iE t x y
 | .ic=>x/\y
 |_=>False
def vQ(d:D):Option (Option Bool):=match d with
 | .bool b=>some (some b)
 | .raw (.tuple vs)=>if vs.size=0 then some none else none
 |_=>none
def pX(x:Option Oper)(σ:Env):Option (Option Bool):=match x with
 |some o=>match o.dst with
  |some d=>vQ (σ d)
  |none=>none
 |none=>none
def gK(g:Option Bool)(want:Bool)(x y:Prop)(_:Tok (x/\y):=⟨⟩):Prop:=if g=some want then x else y
def rn(d a b:D):Option D:=match d with
 | .bool t=>some (if t then a else b)
 |_=>none
def oX(d:D)(f:Int->Option D):Option D:=match d with
 | .int _ n=>f n
 |_=>none
def FX(d:D)(i:Nat):Option D:=match d with
 | .aI ds=>ds[i]?
 |_=>none
def zq(a b:Option (Option Int))(f:Option Int->Option Int->Option D):Option D:=match a,b with
 |some l,some h=>f l h
 |_,_=>none
def y7(d:D):Option (Option Int):=match d with
 | .int _ n=>some (some n)
 |_=>none
def HS(d:D):Option D:=match d with
 | .loc t e i j=>some (.loc t e i j)
 | .cG d j=>some (.cG d j)
 |_=>none
def minD:List D->Option D
 |[.int k a,.int k' b]=>if k=k' then some (.int k (if b<a then b else a))else none
 |_=>none
def xd:D->D->Option D
 | .int k a,.int k' b=>if k=k' then some (.int k (if a<b then b else a))else none
 |_,_=>none
def maxD:List D->Option D
 |[x,y]=>xd x y
 |[x,y,z]=>(xd x y).bind fun m=>xd m z
 |_=>none
def eY(σ:Env):Option Operand->Option (Option Int)
 |none=>some none
 |some x=>y7 (ev σ x)
def dV(len:Nat)(lo hi:Option Int):Option (Nat×Nat):=
 let h:Int:=hi.getD len;let l:Int:=lo.getD 0
 if 0<=l/\l<=h/\h<=len then some (l.toNat,h.toNat)else none
def jY(ti:TI)(x:D)(lo hi:Option Int):Option D:=
 match ti.k,x with
 | .str,.str s=>(dV s.length lo hi).map fun p=> .str ((s.drop p.1).take (p.2 - p.1))
 | .slice _ esz _ _,.sl sz es=>if sz=esz/\0<esz then(dV es.length lo hi).map fun p=> .sl sz ((es.drop p.1).take (p.2 - p.1))else none
 | .slice _ esz _ _,.bp t e sz o n=>if sz=esz/\0<esz then(dV n lo hi).map fun p=> .bp t e sz (o+p.1) (p.2 - p.1)else none
 | .slice _ esz _ _,.ij sz es=>if sz=esz/\0<esz then(dV es.length lo hi).map fun p=> .sl sz ((es.drop p.1).take (p.2 - p.1))else none
 | .slice _ esz _ _,.fJ t e i j n=>if esz=1 then(dV n lo hi).map fun p=> .fJ t e i (j+p.1) (p.2 - p.1)else none
 | .arr n esz _,.loc t e i j=>if esz=1/\n<=65536 then(dV n lo hi).map fun p=> .fJ t e i (j+p.1) (p.2 - p.1)else none
 | .arr n esz _,.cG d j=>if esz=1/\n<=65536/\j+n<=d.cells.length/\d.cells.all D.one=true then(dV n lo hi).map fun p=> .sl 1 ((d.cells.drop (j+p.1)).take (p.2 - p.1))else none
 | .slice _ esz _ _,.aq=>if 0<esz then(dV 0 lo hi).map fun _=> .aq else none
 |_,_=>none
def wu(ti:TI)(x:D)(lo:Option Int)(h m:Int):Option D:=
 match ti.k,x with
 | .slice _ esz _ _,.sl sz es=>if sz=esz/\0<esz/\m=h then(dV es.length lo (some h)).map fun p=> .ij sz ((es.drop p.1).take (p.2 - p.1))else none
 | .slice _ esz _ _,.aq=>if m=0/\h=0/\lo.getD 0=0/\0<esz then some .aq else none
 |_,_=>none
def H9(ti:TI)(x:D)(lo hi mx:Option (Option Int)):Option D:=match lo,hi,mx with
 |some l,some (some h),some (some m)=>wu ti x l h m
 |_,_,_=>none
def jh(fs:List (Nat×Nat×Bool)):List D->List (Nat×D)->Option (List D)
 |cs,[]=>some cs
 |cs,(i,d)::ps=>match fs[i]? with
  |some (off,sz,_)=>if d.cells.length=sz/\off+sz<=cs.length/\d.cells.all D.one then jh fs (cs.take off++d.cells++cs.drop (off+sz)) ps else none
  |none=>none
def mi(ti:TI)(ps:List (Nat×D)):Option D:=
 match ti.k with
 | .struct fs _=>if ti.zero.length=ti.size/\0<ti.size/\fs.all (fun f=>decide (0<f.2.1))=true then(jh fs ti.zero ps).map .agg else none
 | .arr n esz ag=>if ti.zero.length=ti.size/\0<ti.size/\0<esz then(jh ((List.range n).map fun i=>(i * esz,esz,ag)) ti.zero ps).map .agg else none
 |_=>none
mutual
def D.pure:D->Bool
 | .agg ds| .aI ds| .fn _ ds| .iC _ ds=>D.aF ds
 | .dI _ d=>d.pure
 | .loc ..| .bp ..| .fJ ..| .omap ..=>false
 |_=>true
def D.aF:List D->Bool
 |[]=>true
 |d::ds=>d.pure&&D.aF ds
end
def D.vl(c:D):D:=if c.pure then c else .undef
def D.Ex:D->D
 | .agg ds=> .agg (ds.map D.vl)
 |d=>D.vl d
def mB(T:TypeId->TI)(ti:TI)(len:Nat)(ps:List (Nat×D)):Option D:=
 match ti.k with
 | .slice e esz _ _=>if ps.map (·.1)=List.range len/\ps.all (fun p=>p.2.cells.length==esz&&p.2.cells.all D.one&&p.2.pure)=true/\0<esz/\len * esz<=65536/\(T e).zero.length=esz then some (.sl esz (ps.map (·.2)))else none
 |_=>none
def ua:TK->D->Option Nat
 | .str,.str s=>some s.length
 | .slice _ _ _ _,.sl _ es=>some es.length
 | .slice _ _ _ _,.aq=>some 0
 | .slice _ _ _ _,.bp _ _ _ _ n=>some n
 | .slice _ _ _ _,.ij _ es=>some es.length
 | .slice _ _ _ _,.fJ _ _ _ _ n=>some n
 | .arr n _ _,_=>some n
 |_,_=>none
def mQ(b:Builtin)(tis:List TI)(xs:List D):Option D:=
 match b,tis,xs with
 | .len,[ti],[x]=>(ua ti.k x).map fun n:Nat=>D.int .i64 (n:Int)
 | .min,_,xs=>minD xs
 | .max,_,xs=>maxD xs
 | .cap,[⟨.slice _ _ _ _,_,_,_⟩],[.aq]=>some (.int .i64 0)
 |_,_,_=>none
def ji:List D->Option (List UInt8)
 |[]=>some []
 | .int .u8 n::es=>(ji es).map (UInt8.ofNat n.toNat::·)
 |_::_=>none
def TK.qR:TK->Bool
 | .int .u8=>true
 |_=>false
def re(T:TypeId->TI)(s d:TI):D->Option D
 | .int _ n=>match s.k,d.k with
   | .int _,.int k=>some (.int k (k.wrap n))
   |_,_=>none
 | .str x=>match s.k,d.k with
   | .str,.str=>some (.str x)
   |_,_=>none
 | .sl sz es=>match s.k,d.k with
   | .slice e _ _ _,.str=>if sz=1/\(T e).k.qR=true then(ji es).map .str else none
   |_,_=>none
 | .ij sz es=>match s.k,d.k with
   | .slice e _ _ _,.str=>if sz=1/\(T e).k.qR=true then(ji es).map .str else none
   |_,_=>none
 | .aq=>match s.k,d.k with
   | .slice e _ _ _,.str=>if(T e).k.qR=true then some (.str [])else none
   |_,_=>none
 |_=>none
def A4(ag:Bool)(cs:List D):D:=if ag then .agg cs else cs.headD .undef
def jb(ti:TI):Option D:=if 0<ti.size/\ti.zero.length=ti.size/\(ti.agg=true\/ti.size=1)/\ti.zero.all D.one then some (A4 ti.agg ti.zero)else none
def Da(ti:TI)(t:TypeId)(x:D):Option D:=match ti.k with
 | .none| .dI=>none
 |_=>some (.dI t x)
def DK(ti:TI)(t:TypeId)(ok:Bool)(x:D):Option D:=match ti.k with
 | .none| .dI=>none
 |_=>match x with
  | .dI t' v=>if t'=t then some (if ok then .aI [v,.bool true]else v)else if ok&& !ti.zero.isEmpty then some (.aI [.undef,.bool false])else none
  | .raw .nilIface=>if ok&& !ti.zero.isEmpty then some (.aI [.undef,.bool false])else none
  |_=>none
def Vm(f:Fn)(ds:List D):Option D:=match f with
 | .func g=>some (.iC g ds)
 |_=>none
def zeroV(P:Program)(t:TypeId):Option D:=((P.info? t).bind (·.zero)).map x_
def sn(ti:TI)(z:Option D):Bool:=match ti.k,z with
 | .struct [] _,some (.agg [])=>ti.size==0
 |_,_=>false
def yb(x:Option D)(b:Bool):Option D:=match x with
 |some d=>some d
 |none=>if b then some (.agg [])else none
def wm(x:Option ae)(b:Bool)(bx:ae)(a v:D):Option ae:=match x with
 |some r=>some r
 |none=>match a with
  | .loc ..=>if b=true/\v.cells=[]then some bx else none
  |_=>none
def cT(P:Program)(σ:Env)(bx:ae):Op->Option D
 | .move x| .assign x=>some (ev σ x)
 | .pick c a b=>rn (ev σ c) (ev σ a) (ev σ b)
 | .binOp op t x y _=>Bk (an P t) op (ev σ x) (ev σ y) (isNil y)
 | .unOp op _ x=>IY op (ev σ x)
 | .fieldAddr t x i=>nX (an P t) (ev σ x) i
 | .field t x i=>yG (an P t) (ev σ x) i
 | .indexAddr t x ix=>oX (ev σ ix) (fa (an P t) (ev σ x))
 | .index t x ix=>oX (ev σ ix) (rN (an P t) (ev σ x))
 | .load t a=>iH (an P t) bx (ev σ a)
 | .extract x i=>FX (ev σ x) i
 | .slice t x lo hi none=>zq (eY σ lo) (eY σ hi) (jY (an P t) (ev σ x))
 | .slice t x lo hi (some mx)=>H9 (an P t) (ev σ x) (eY σ lo) (eY σ hi) (y7 (ev σ mx))
 | .build t ps=>yb (mi (an P t) (ps.toList.map fun p=>(p.1,ev σ p.2))) (ps.toList.isEmpty&&sn (an P t) (zeroV P t))
 | .buildSlice t n ps=>mB (an P) (an P t) n (ps.toList.map fun p=>(p.1,ev σ p.2))
 | .nilCheck x=>HS (ev σ x)
 | .makeInterface t x=>Da (an P t) t (ev σ x)
 | .typeAssert x _ t ok=>DK (an P t) t ok (ev σ x)
 | .makeFunc f first caps=>if first.size=0 then some (.fn f (caps.toList.map (ev σ)))else if caps.size=0 then Vm f (first.toList.map (ev σ))else none
 | .convert s d x=>re (an P) (an P s) (an P d) (ev σ x)
 | .call {callee:=.builtin b,args,argTypes}=>mQ b (argTypes.toList.map (an P)) (args.toList.map (ev σ))
 |_=>none
mutual
def D.bare:D->Bool
 | .agg ds| .aI ds| .fn _ ds| .iC _ ds=>D.FY ds
 | .dI _ d=>d.bare
 | .loc ..| .bp ..| .fJ ..| .omap ..| .sl ..| .ij ..| .cG ..| .undef| .fK=>false
 |_=>true
def D.FY:List D->Bool
 |[]=>true
 |d::ds=>d.bare&&D.FY ds
end
mutual
def bD(bx:ae):D->Option D
 | .loc t e i j=>if(bx t).ep=e/\lv (bx t).k then match(bx t).es[i]? with
  |some d=>if d.pure then some (.cG d j)else some (.cG d.Ex j)
  |none=>none
   else none
 | .bp t e sz o n=>if(bx t).ep=e/\lv (bx t).k/\(bx t).sz=sz/\o+n<=(bx t).es.length then
  (if D.aF (((bx t).es.drop o).take n)then some (.sl sz (((bx t).es.drop o).take n))else none)else none
 | .fJ t e i j n=>if(bx t).ep=e/\lv (bx t).k then match(bx t).es[i]? with
  |some d=>if j+n<=d.cells.length/\D.aF ((d.cells.drop j).take n)=true/\((d.cells.drop j).take n).all D.one=true then some (.sl 1 ((d.cells.drop j).take n))else none
  |none=>none
   else none
 | .agg ds=>(cY bx ds).map .agg
 | .aI ds=>(cY bx ds).map .aI
 | .fn f ds=>(cY bx ds).map (.fn f)
 | .iC f ds=>(cY bx ds).map (.iC f)
 | .dI t d=>(bD bx d).map (.dI t)
 | .omap ..=>none
 |d=>some d
def cY(bx:ae):List D->Option (List D)
 |[]=>some []
 |d::ds=>lD (bD bx d) (cY bx ds)
end
mutual
def ey(bx:ae):D->ae
 | .loc t _ _ _| .bp t _ _ _ _| .fJ t _ _ _ _=>aj bx t {bx t with k:=if(bx t).k=1 then 2 else(bx t).k}
 | .agg ds| .aI ds| .fn _ ds| .iC _ ds=>dX bx ds
 | .dI _ d=>ey bx d
 |_=>bx
def dX(bx:ae):List D->ae
 |[]=>bx
 |d::ds=>dX (ey bx d) ds
end
def yo(ti:TI)(v:D):Option D:=if 0<ti.size/\v.cells.length=ti.size/\v.cells.all D.one then some v else none
def put(σ:Env)(dst:Option Tmp)(v:D):Env:=
 match dst with
 |some d=>aj σ d v
 |none=>σ
def aM{α:Type}(x:Option α)(f:α->Prop)(_:Tok f:=⟨⟩):Prop:=
 match x with
 |some v=>f v
 |none=>False
def gT(bx:ae)(esz:Nat):D->Option (List D)
 | .aq=>some []
 | .sl sz es=>if sz=esz then some es else none
 | .bp t e sz o n=>if sz=esz/\(bx t).ep=e/\lv (bx t).k/\(bx t).sz=sz/\o+n<=(bx t).es.length then some (((bx t).es.drop o).take n)else none
 | .ij sz es=>if sz=esz then some es else none
 | .fJ t e i j n=>if esz=1/\(bx t).ep=e/\lv (bx t).k then match(bx t).es[i]? with
  |some d=>if j+n<=d.cells.length/\((d.cells.drop j).take n).all D.one=true then some ((d.cells.drop j).take n)else none
  |none=>none
   else none
 |_=>none
def S8(x:D)(bx:ae):Option (D×ae):=match x with
 | .ij sz es=>some (.sl sz es,bx)
 | .aq=>some (x,bx)
 | .bp ..=>some (x,bx)
 | .sl ..=>some (x,bx)
 |_=>none
def DY(lo d el esz bytes:Nat)(bx:ae)(t:Nat)(b:Bx)(e sz o n:Nat)(ys:List D):Option (D×ae):=
 if lo<=t/\sz=esz/\o=0/\b.ep=e/\b.k=1/\b.sz=sz/\b.ty=el/\n<=b.es.length/\(n+ys.length) * bytes<=140737488355328/\0<esz/\0<bytes then
  some (.bp d ((bx d).ep+1) esz 0 (n+ys.length),aj (aj bx t {b with k:=0}) d ⟨(bx d).ep+1,1,esz,el,b.es.take n++ys⟩)else none
def ph(lo d el esz bytes:Nat)(bx:ae)(x:D)(ys:List D):Option (D×ae):=match x with
 | .aq=>if ys.length * bytes<=140737488355328/\0<esz/\0<bytes then
  some (.bp d ((bx d).ep+1) esz 0 ys.length,aj bx d ⟨(bx d).ep+1,1,esz,el,ys⟩)else none
 | .bp t e sz o n=>DY lo d el esz bytes bx t (bx t) e sz o n ys
 | .ij sz es=>if sz=esz/\(es.length+ys.length) * bytes<=140737488355328/\0<esz/\0<bytes then
  some (.bp d ((bx d).ep+1) esz 0 (es.length+ys.length),aj bx d ⟨(bx d).ep+1,1,esz,el,es++ys⟩)else none
 |_=>none
def aB(s:List UInt8):List D:=s.map fun b=> .int .u8 (b.toNat:Int)
def fN(lo:Nat)(T:TypeId->TI)(ti:TI)(dst:Option Tmp)(bx:ae)(x:D)(ys:List D):Option (D×ae):=
 match ti.k,dst with
 | .slice el esz bytes _,some d=>if ys=[]then S8 x bx else if(T el).zero.length=esz then ph lo d el esz bytes bx x ys else none
 |_,_=>none
def K3(lo:Nat)(T:TypeId->TI)(ti:TI)(dst:Option Tmp)(bx:ae)(x y:D):Option (D×ae):=match ti.k with
 | .slice _ esz _ _=>if esz=0 then none else(gT bx esz y).bind fun ys=>fN lo T ti dst bx x ys
 |_=>none
def uI(lo d el esz bytes:Nat)(bx:ae)(x:D)(ys:List D):Option (D×ae):=match x with
 | .aq=>if ys=[]then some (x,bx)else ph lo d el esz bytes bx x ys
 | .bp ..=>if ys=[]then some (x,bx)else ph lo d el esz bytes bx x ys
 |_=>none
def vt(lo:Nat)(T:TypeId->TI)(ti Yr:TI)(dst:Option Tmp)(bx:ae)(x y:D):Option (D×ae):=match ti.k,Yr.k,dst,y with
 | .slice el esz bytes _,.int _,some d,.int _ n=>if 0<=n/\n<=140737488355328/\(T el).zero.length=esz/\0<esz/\0<bytes then(jb (T el)).bind fun z=>uI lo d el esz bytes bx x (List.replicate n.toNat z)else none
 | .slice el esz _ _,.str,some _,.str s=>if(T el).zero.length=esz/\esz=1/\(T el).k.qR=true then fN lo T ti dst bx x (aB s)else none
 |_,_,_,_=>none
def qJ(lo:Nat)(T:TypeId->TI)(t t':TypeId)(dst:Option Tmp)(bx:ae)(x y:D):Option (D×ae):=
 if t=t' then K3 lo T (T t) dst bx x y else vt lo T (T t) (T t') dst bx x y
def FW(lo:Nat)(T:TypeId->TI)(ts:List TypeId)(dst:Option Tmp)(bx:ae)(xs:List D):Option (D×ae):=match ts,xs with
 |[t,t'],[x,y]=>qJ lo T t t' dst bx x y
 |_,_=>none
def wI(bx:ae)(t:Nat)(b:Bx)(e i j:Nat)(cs:List D):Option ae:=if b.ep=e/\b.k=1 then
 match b.es[i]? with
 |some d0=>(fl d0 j cs).map fun d'=>aj bx t {b with es:=b.es.set i d'}
 |none=>none
 else none
def gF(lo:Nat)(ti:TI)(bx:ae)(a v:D):Option ae:=
 match a with
 | .loc t e i j=>if lo<=t/\v.cells.length=ti.size/\0<ti.size/\v.cells.all D.one then wI bx t (bx t) e i j v.cells else none
 |_=>none
inductive Cl where
 |n
 |r (t:Nat)
 |w (t:Nat)
 |ra
 |wa
 |cX (d:D)
def Cl.rd:Cl->Nat->Bool
 | .n,_=>false
 | .r t,s| .w t,s=>s==t
 |_,_=>true
def Cl.wr:Cl->Nat->Bool
 | .w t,s=>s==t
 | .wa,_| .cX _,_=>true
 |_,_=>false
def oe:D->Cl
 | .loc t _ _ _=> .r t
 |_=> .n
def lJ:D->Cl
 | .loc t _ _ _=> .w t
 |_=> .wa
def apart:Cl->Cl->Prop
 | .n,_|_,.n=>True
 | .r _,.r _| .ra,.r _| .r _,.ra| .ra,.ra=>True
 | .r s,.w t| .w s,.r t| .w s,.w t=>s≠t
 |_,_=>False
def Cf:Option Cl->Option Cl->Prop
 |some a,some b=>apart a b
 |_,_=>False
def EG:List (Nat×Nat)->List Cl->Prop
 |[],_=>True
 |(i,j)::ps,acc=>Cf acc[i]? acc[j]?/\EG ps acc
def n9:List (Nat×List (Nat×Nat))->Nat->List (Nat×Nat)
 |[],_=>[]
 |(k,ps)::r,id=>if k=id then ps else n9 r id
structure gO where
 to:FuncId->List D->D->Prop
 ux:FuncId->Nat->List D->ae->(D->ae->Prop)->(D->ae->Prop)->Prop
 it:FuncId->List D->List (List D)->Nat->Prop
 A1:FuncId->Bx->List (List D)->Option D->Nat->Prop
structure Calc where
 o:gO
 tab:List (Nat×List (Nat×Nat))
 base:Nat
 bk:Nat
 lo:Nat
 yl:Option (List (List D)×Nat×Nat)
 pn:Bool
 df:Bool
def Calc.AJ(C:Calc):Calc:=⟨⟨C.o.to,fun _ _ _ _ _ _=>False,fun _ _ _ _=>False,fun _ _ _ _ _=>False⟩,C.tab,C.base,C.bk,C.lo,none,false,false⟩
mutual
def D.simple:D->Bool
 | .int ..| .bool _| .str _| .raw _| .aq=>true
 | .agg ds| .fn _ ds=>D.pP ds
 |_=>false
def D.pP:List D->Bool
 |[]=>true
 |d::ds=>d.simple&&D.pP ds
end
def mY:TK->D->D->Option Bool
 | .int _,.int k a,.int k' b=>if k=k' then some (a==b)else none
 | .str,.str a,.str b=>some (a==b)
 | .bool,.bool a,.bool b=>some (a==b)
 |_,_,_=>none
def mV:TK->D->Bool
 | .int j,.int k _=>decide (k=j)
 | .str,.str _=>true
 | .bool,.bool _=>true
 |_,_=>false
def ff(tk:TK)(k:D):List D->Nat->Option (Option (Nat×D))
 |[],_=>some none
 | .aI [k',v,_]::es,i=>match mY tk k k' with
   |some true=>some (some (i,v))
   |some false=>ff tk k es (i+1)
   |none=>none
 |_,_=>none
def BN(k v:D):D->D
 | .aI [_,_,b]=> .aI [k,v,b]
 |d=>d
def oI(tk:TK)(k v:D)(c:Int)(es:List D):Option (List D):=match ff tk k es 0 with
 |some (some (i,_))=>some (.int .i64 c::es.modify i (BN k v))
 |some none=>some (.int .i64 (c+1)::(es++[.aI [k,v,.int .i64 c]]))
 |none=>none
def GK(tk:TK)(k:D)(c:Int)(es:List D):Option (List D):=match ff tk k es 0 with
 |some (some (i,_))=>some (.int .i64 c::es.eraseIdx i)
 |some none=>some (.int .i64 c::es)
 |none=>none
def C_(t:Nat):List D->Option (Nat×Int×List D)
 | .int .i64 c::es=>some (t,c,es)
 |_=>none
def iZ(bx:ae):D->Option (Nat×Int×List D)
 | .omap t e=>if(bx t).ep=e/\(bx t).k=3 then C_ t (bx t).es else none
 |_=>none
def y9(t:Nat):List D->Option (Nat×D×Int×Int×List D)
 | .omap m k:: .int .i64 s:: .int .i64 l::seen=>some (t,.omap m k,s,l,seen)
 |_=>none
def iterAt(bx:ae):D->Option (Nat×D×Int×Int×List D)
 | .loc t e 0 0=>if(bx t).ep=e/\(bx t).k=3 then y9 t (bx t).es else none
 |_=>none
def intOf:D->Int
 | .int _ n=>n
 |_=>0
def gQ:D->Int
 | .aI [_,_,.int .i64 n]=>n
 |_=>0
def sk(Z:Option D)(ok:Bool):Option (Option (Nat×D))->Option D
 |some (some (_,v))=>some (if ok then .aI [v,.bool true]else v)
 |some none=>Z.map fun z=>if ok then .aI [z,.bool false]else z
 |none=>none
def sV(P:Program)(T:TypeId->TI)(ti:TI)(bx:ae)(m k:D)(ok:Bool):Option D:=match ti.k with
 | .map kt et=>if mV (T kt).k k=true then(iZ bx m).bind fun r=>sk (zeroV P et) ok (ff (T kt).k k r.2.2 0)else none
 |_=>none
def xH:D->Cl
 | .omap t _=> .r t
 |_=> .n
def fR(bx:ae)(t:Nat)(es:List D):ae:=aj bx t {bx t with es:=es}
def zV(T:TypeId->TI)(ti:TI)(bx:ae)(m k v:D):Option ae:=match ti.k with
 | .map kt _=>if mV (T kt).k k=true/\v.simple=true then(iZ bx m).bind fun r=>(oI (T kt).k k v r.2.1 r.2.2).map (fR bx r.1)else none
 |_=>none
def Lh(T:TypeId->TI)(ti:TI)(bx:ae)(m k:D):Option ae:=match ti.k with
 | .map kt _=>if mV (T kt).k k=true then(iZ bx m).bind fun r=>(GK (T kt).k k r.2.1 r.2.2).map (fR bx r.1)else none
 |_=>none
def Af(T:TypeId->TI)(ts:List TypeId)(bx:ae)(xs:List D):Option ae:=match ts,xs with
 |t::_,[m,k]=>Lh T (T t) bx m k
 |_,_=>none
def Bz(bx:ae)(xs:List D):Option D:=match xs with
 |[m]=>(iZ bx m).map fun r=> .int .i64 (r.2.2.length:Int)
 |_=>none
def BT(ti:TI)(bx:ae)(x:D):Option (List D):=match ti.k with
 | .map _ _=>(iZ bx x).map fun r=>[x,.int .i64 r.2.1,.int .i64 r.2.1]
 |_=>none
def Ag(seen:List D)(es:List D):Option D:=match seen.getLast? with
 |some s=>match es.find? fun e=>gQ e==intOf s with
  |some (.aI [k,v,_])=>some (.aI [k,v])
  |_=>none
 |none=>none
def tN(bx:ae)(x:D):Option D:=(iterAt bx x).bind fun i=>(iZ bx i.2.1).bind fun r=>if r.2.1=i.2.2.2.1 then Ag i.2.2.2.2 r.2.2 else none
def iG(seen es:List D):List D:=es.filter fun e=> !(seen.map intOf).contains (gQ e)
def xe(bx:ae)(x:D)(K:D->ae->Prop)(_:Tok (K .undef bx):=⟨⟩):Prop:=aM (iterAt bx x) fun i=>aM (iZ bx i.2.1) fun r=>
 (i.2.2.2.2=[]\/r.2.2=[]\/∃e∈r.2.2,gQ e<i.2.2.2.1)/\
 (∀k v b,.aI [k,v,.int .i64 b]∈iG i.2.2.2.2 r.2.2->K (.aI [.bool true,k,v]) (fR bx i.1 (i.2.1:: .int .i64 i.2.2.1:: .int .i64 r.2.1::(i.2.2.2.2++[.int .i64 b]))))/\
 ((∀e∈iG i.2.2.2.2 r.2.2,i.2.2.1<=gQ e)->K (.aI [.bool false]) bx)
def bU(n:Nat)(bx:ae):ae:=fun s=>if s<n then bx s else .none
def qU(lo hi:Nat)(bx bx1:ae):ae:=fun s=>if lo<=s/\s<hi then bx s else bx1 s
inductive bN:D->D->Prop where
 |refl (d:D):bN d d
 |nil (sz:Nat):bN .aq (.sl sz [])
 |aI {ds ds':List D} (hl:ds.length=ds'.length) (h:∀(i:Nat) x x',ds[i]? =some x->ds'[i]? =some x'->bN x x'):bN (.aI ds) (.aI ds')
 |agg {ds ds':List D} (hl:ds.length=ds'.length) (h:∀(i:Nat) x x',ds[i]? =some x->ds'[i]? =some x'->bN x x'):bN (.agg ds) (.agg ds')
 |sl {sz:Nat} {ds ds':List D} (hl:ds.length=ds'.length) (hz:∀(i:Nat) x x',ds[i]? =some x->ds'[i]? =some x'->x.cells.length=x'.cells.length)
  (h:∀(i:Nat) x x' (j:Nat) c c',ds[i]? =some x->ds'[i]? =some x'->x.cells[j]? =some c->x'.cells[j]? =some c'->bN c c'):bN (.sl sz ds) (.sl sz ds')
def fD(C:Calc)(f:FuncId)(ds:List D)(bx:ae)(K:Cl->D->ae->Prop)(_:Tok (K .n .undef bx):=⟨⟩):Prop:=
 (∃d,D.aF ds=true/\C.o.to f ds d/\K .n d bx)\/
 (∃ds' d,cY bx ds=some ds'/\C.o.to f ds' d/\d.bare=true/\K .ra d bx)\/
 (∃ds' d,C.lo=0/\cY bx ds=some ds'/\C.o.to f ds' d/\K .wa d (dX bx ds))\/
 (∃cI Pan,C.lo=0/\C.o.ux f C.bk ds bx cI Pan/\(∀d bx',cI d bx'->K .wa d bx'\/∃r r',bD bx' d=some r/\bN r r'/\K .wa r' (dX bx' [d]))/\∀d bx',Pan d bx'->K (.cX d) .undef bx')
def qw(C:Calc)(l:Nat)(ds:List D)(bx:ae)(K:Cl->D->ae->Prop)(_:Tok (K .n .undef bx):=⟨⟩):Prop:=match C.yl with
 |some (items,gs,l')=>(l'=l/\D.aF ds=true/\items[(bx gs).sz]? =some ds)/\∀bx1:ae,
  K .wa (.bool true) (aj (qU C.lo C.bk bx bx1) gs {bx gs with sz:=(bx gs).sz+1})/\
  K .wa (.bool false) (aj (qU C.lo C.bk bx bx1) gs {bx gs with sz:=items.length+1})
 |none=>False
def l9(C:Calc)(d:D)(ds:List D)(bx:ae)(K:Cl->D->ae->Prop)(_:Tok (K .n .undef bx):=⟨⟩):Prop:=match d with
 | .fn (.func f) caps=>fD C f (ds++caps) bx K
 | .fn (.yield l) []=>qw C l ds bx K
 | .iC f fs=>fD C f (fs++ds) bx K
 |_=>False
def en:Nat:=1000000000
def Ei(d:D)(f:D->Prop)(_:Tok (f .undef):=⟨⟩):Prop:=match d with
 | .dI t v=>f (.dI t v)
 |_=>False
def Dk:D->D->List D->D
 | .any l,fo,args=> .any (.aI (fo::args)::l)
 |_,fo,args=> .any [.aI (fo::args)]
def u6(T:TypeId->TI)(ti:TI)(l c:D):Option (Nat×TypeId×List D):=match ti.k,l,c with
 | .slice el esz bytes _,.int _ n,.int _ m=>if 0<=n/\n<=m/\m * bytes<=140737488355328/\0<esz/\0<bytes/\(T el).size=esz then(jb (T el)).map fun z=>(esz,el,List.replicate n.toNat z)else none
 |_,_,_=>none
def uZ(T:TypeId->TI)(ti:TI)(len:Nat)(ps:List (Nat×D)):Option (Nat×TypeId×List D):=
 match ti.k with
 | .slice e esz _ _=>if ps.map (·.1)=List.range len/\ps.all (fun p=>p.2.cells.length==esz&&p.2.cells.all D.one)=true/\0<esz/\len * esz<=65536/\(T e).zero.length=esz then some (esz,e,ps.map (·.2))else none
 |_=>none
def rl:List (Nat×List (Nat×Nat))->Nat->Bool
 |[],_=>false
 |(k,_)::r,d=>if k=1000000+d then true else rl r d
def Xu(tab:List (Nat×List (Nat×Nat))):Option Tmp->Bool
 |some d=>rl tab d
 |none=>false
def ld(b:Nat):Option Tmp->Option Nat
 |some d=>some (b+d)
 |none=>none
def wO(lo:Nat)(bx:ae)(x:D)(ys:List D):Option (Nat×ae):=match x with
 | .aq=>some (0,bx)
 | .bp t e sz o n=>if lo<=t/\sz=1/\(bx t).ep=e/\(bx t).k=1/\(bx t).sz=1/\o+n<=(bx t).es.length then
  some (min ys.length n,aj bx t {bx t with es:=(bx t).es.take o++ys.take n++(bx t).es.drop (o+min ys.length n)})else none
 | .fJ t e i j n=>if lo<=t/\(bx t).ep=e/\(bx t).k=1 then match(bx t).es[i]? with
  |some d=>(fl d j (ys.take n)).map fun d'=>(min ys.length n,aj bx t {bx t with es:=(bx t).es.set i d'})
  |none=>none
   else none
 |_=>none
def wN(lo:Nat)(ti Yr:TI)(bx:ae)(x y:D):Option (Nat×ae):=match ti.k,Yr.k with
 | .slice _ esz _ _,.slice _ _ _ _=>if esz=1 then(gT bx 1 y).bind fun ys=>if ys.all D.one=true then wO lo bx x ys else none else none
 |_,_=>none
def yx(lo:Nat)(T:TypeId->TI)(ts:List TypeId)(bx:ae)(xs:List D):Option (Nat×ae):=match ts,xs with
 |[t,t'],[x,y]=>wN lo (T t) (T t') bx x y
 |_,_=>none
def TK.isMap:TK->Bool
 | .map ..=>true
 |_=>false
def o8(P:Program):Op->Bool
 | .makeMap ..| .mapUpdate ..| .range ..| .next ..| .entry ..=>true
 | .call {callee:= .builtin b,args:=_,argTypes}=>match b with
   | .delete=>true
   | .copy=>true
   | .len=>match argTypes.toList with
     |[T]=>(an P T).k.isMap
     |_=>false
   |_=>false
 |_=>false
def kS:Op->Bool
 | .next ..=>true
 | .call {callee:=.builtin .len,..}=>true
 |_=>false
def iB(P:Program)(C:Calc)(dst:Option Tmp)(op:Op)(σ:Env)(bx:ae)(K:Cl->Env->ae->Prop):Prop:=match op with
 | .makeMap T none=>match dst with
   |some d=>K .wa (aj σ d (.omap (C.base+d) ((bx (C.base+d)).ep+1))) (aj bx (C.base+d) ⟨(bx (C.base+d)).ep+1,3,0,T,[.int .i64 0]⟩)
   |none=>False
 | .mapUpdate T m k v=>aM (zV (an P) (an P T) bx (ev σ m) (ev σ k) (ev σ v)) fun bx'=>K .wa (put σ dst (.raw undef)) bx'
 | .range T x=>match dst with
   |some d=>aM (BT (an P T) bx (ev σ x)) fun es=>K .wa (aj σ d (.loc (C.base+d) ((bx (C.base+d)).ep+1) 0 0)) (aj bx (C.base+d) ⟨(bx (C.base+d)).ep+1,3,0,0,es⟩)
   |none=>False
 | .next it false=>xe bx (ev σ it) fun v bx'=>K .wa (put σ dst v) bx'
 | .entry it=>aM (tN bx (ev σ it)) fun v=>K .wa (put σ dst v) bx
 | .call {callee:= .builtin b,args,argTypes}=>match b with
   | .delete=>aM (Af (an P) argTypes.toList bx (args.toList.map (ev σ))) fun bx'=>K .wa (put σ dst (.raw (.tuple #[]))) bx'
   | .len=>aM (Bz bx (args.toList.map (ev σ))) fun v=>K .wa (put σ dst v) bx
   | .copy=>aM (yx C.lo (an P) argTypes.toList bx (args.toList.map (ev σ))) fun r=>K .wa (put σ dst (.int .i64 (r.1:Int))) r.2
   |_=>False
 |_=>False
def vr(lo d el esz bytes:Nat)(bx:ae)(x:D)(ys:List D):Option ((D×ae)×(D×ae)):=match x with
 | .bp t e sz o n=>if lo<=t/\sz=esz/\(bx t).ep=e/\(bx t).k=1/\(bx t).sz=sz/\(bx t).ty=el/\o+n<=(bx t).es.length/\(n+ys.length) * bytes<=140737488355328/\0<esz/\0<bytes then
  some ((.bp d ((bx d).ep+1) esz 0 (n+ys.length),aj (aj bx t {bx t with k:=0}) d ⟨(bx d).ep+1,1,esz,el,((bx t).es.drop o).take n++ys⟩),
   (.bp d ((bx d).ep+1) esz o (n+ys.length),aj (aj bx t {bx t with k:=0}) d ⟨(bx d).ep+1,1,esz,el,(bx t).es.take (o+n)++ys⟩))else none
 | .ij sz es=>if sz=esz/\(es.length+ys.length) * bytes<=140737488355328/\0<esz/\0<bytes then
  some ((.bp d ((bx d).ep+1) esz 0 (es.length+ys.length),aj bx d ⟨(bx d).ep+1,1,esz,el,es++ys⟩),(.bp d ((bx d).ep+1) esz 0 (es.length+ys.length),aj bx d ⟨(bx d).ep+1,1,esz,el,es++ys⟩))else none
 | .aq=>if ys.length * bytes<=140737488355328/\0<esz/\0<bytes then
  some ((.bp d ((bx d).ep+1) esz 0 ys.length,aj bx d ⟨(bx d).ep+1,1,esz,el,ys⟩),(.bp d ((bx d).ep+1) esz 0 ys.length,aj bx d ⟨(bx d).ep+1,1,esz,el,ys⟩))else none
 |_=>none
def IL(x:D)(bx:ae):Option ((D×ae)×(D×ae)):=match x with
 | .ij sz es=>some ((.sl sz es,bx),(.sl sz es,bx))
 | .aq| .bp ..| .sl ..=>some ((x,bx),(x,bx))
 |_=>none
def pW(T:TypeId->TI)(t t':TypeId)(esz el:Nat)(bx:ae)(y:D):Option (List D):=if t=t' then gT bx esz y else match(T t').k,y with
 | .str,.str s=>if(T el).k.qR=true/\esz=1 then some (aB s)else none
 |_,_=>none
def uH(lo:Nat)(T:TypeId->TI)(ti:TI)(t t':TypeId)(dst:Option Tmp)(bx:ae)(x y:D):Option ((D×ae)×(D×ae)):=match ti.k,dst with
 | .slice el esz bytes _,some d=>if(T el).zero.length=esz/\0<esz then(pW T t t' esz el bx y).bind fun ys=>if ys=[]then IL x bx else vr lo d el esz bytes bx x ys else none
 |_,_=>none
def K4(lo:Nat)(T:TypeId->TI)(ts:List TypeId)(dst:Option Tmp)(bx:ae)(xs:List D):Option ((D×ae)×(D×ae)):=match ts,xs with
 |[t,t'],[x,y]=>uH lo T (T t) t t' dst bx x y
 |_,_=>none
def FV(tab:List (Nat×List (Nat×Nat))):Option Tmp->Bool
 |some d=>rl tab (2000000+d)
 |none=>false
def sW(P:Program)(t:TypeId)(name:String):Option FuncId:=match P.info? t,P.underlying t with
 |some i,some d=>match d with
  | .pointer _=>none
  |_=>match i.methods.find? (·.name==name)with
   |some m=>if m.path.size=0 then(match m.func with
    |some (f,false)=>some f
    |_=>none)else none
   |none=>none
 |_,_=>none
def o6(P:Program)(C:Calc)(d:D)(name:String)(ds:List D)(bx:ae)(K:Cl->D->ae->Prop)(_:Tok (K .n .undef bx):=⟨⟩):Prop:=match d with
 | .dI t d=>aM (sW P t name) fun f=>fD C f (d::ds) bx K
 |_=>False
def fE(P:Program)(C:Calc)(dst:Option Tmp)(op:Op)(σ:Env)(bx:ae)(K:Cl->Env->ae->Prop):Prop:=match op with
 | .buildSlice T n ps=>if Xu C.tab dst=true then (match dst with
   |some d=>aM (uZ (an P) (an P T) n (ps.toList.map fun p=>(p.1,ev σ p.2))) fun r=>K (.w (C.base+d)) (aj σ d (.bp (C.base+d) ((bx (C.base+d)).ep+1) r.1 0 r.2.2.length)) (aj bx (C.base+d) ⟨(bx (C.base+d)).ep+1,1,r.1,r.2.1,r.2.2⟩)
   |none=>False)else aM (cT P σ bx (.buildSlice T n ps)) fun v=>K .n (put σ dst v) bx
 | .lookup T m k ok=>aM (sV P (an P) (an P T) bx (ev σ m) (ev σ k) ok) fun v=>aM (some (xH (ev σ m))) fun c=>K c (put σ dst v) bx
 | .call {callee:=.invoke recv name,args,argTypes:=_}=>o6 P C (ev σ recv) name (args.toList.map (ev σ)) bx fun c d bx'=>K c (put σ dst d) bx'
 |op=>if o8 P op=true then(kS op=true->C.pn=true)/\C.lo=0/\iB P C dst op σ bx K else aM (cT P σ bx op) fun v=>K .n (put σ dst v) bx
def bq(P:Program)(C:Calc)(o:Oper)(σ:Env)(bx:ae)(K:Cl->Env->ae->Prop):Prop:=
 match o.op with
 | .alloc T=>match o.dst with
   |some d=>aM (yb (jb (an P T)) (sn (an P T) (zeroV P T))) fun z=>aM (some (an P T).size) fun s=>K (.w (C.base+d)) (aj σ d (.loc (C.base+d) ((bx (C.base+d)).ep+1) 0 0)) (aj bx (C.base+d) ⟨(bx (C.base+d)).ep+1,1,s,T,[z]⟩)
   |none=>False
 | .box T x=>match o.dst with
   |some d=>aM (yo (an P T) (ev σ x)) fun v=>aM (some (an P T).size) fun s=>K (.w (C.base+d)) (aj σ d (.loc (C.base+d) ((bx (C.base+d)).ep+1) 0 0)) (aj bx (C.base+d) ⟨(bx (C.base+d)).ep+1,1,s,T,[v]⟩)
   |none=>False
 | .store T a x=>aM (wm (gF C.lo (an P T) bx (ev σ a) (ev σ x)) (sn (an P T) (zeroV P T)) bx (ev σ a) (ev σ x)) fun bx'=>aM (some (lJ (ev σ a))) fun c=>K c (put σ o.dst (.raw undef)) bx'
 | .load T a=>aM (iH (an P T) bx (ev σ a)) fun v=>aM (some (oe (ev σ a))) fun c=>K c (put σ o.dst v) bx
 | .call {callee:= .builtin .append,args,argTypes}=>if FV C.tab o.dst=true then (C.pn=true/\aM (K4 C.lo (an P) argTypes.toList (ld C.base o.dst) bx (args.toList.map (ev σ))) fun r=>K .wa (put σ o.dst r.1.1) r.1.2/\K .wa (put σ o.dst r.2.1) r.2.2) else
   aM (FW C.lo (an P) argTypes.toList (ld C.base o.dst) bx (args.toList.map (ev σ))) fun r=>K .wa (put σ o.dst r.1) r.2
 | .call {callee:=.value fo,args,argTypes:=_}=>l9 C (ev σ fo) (args.toList.map (ev σ)) bx fun c d bx'=>K c (put σ o.dst d) bx'
 | .panic x=>C.pn=true/\Ei (ev σ x) fun d=>K (.cX d) σ bx
 | .defer {callee:=.value fo,args,argTypes:=_}=>C.df=true/\(match ev σ fo with| .fn (.func f) caps=>K .n (put (aj σ en (Dk (σ en) (.fn (.func f) caps) (args.toList.map (ev σ)))) o.dst (.raw undef)) bx|_=>False)
 | .makeSlice T l c=>match o.dst with
   |some d=>aM (u6 (an P) (an P T) (ev σ l) (ev σ c)) fun r=>K (.w (C.base+d)) (aj σ d (.bp (C.base+d) ((bx (C.base+d)).ep+1) r.1 0 r.2.2.length)) (aj bx (C.base+d) ⟨(bx (C.base+d)).ep+1,1,r.1,r.2.1,r.2.2⟩)
   |none=>False
 |op=>fE P C o.dst op σ bx K
def jt(c:Cl)(x y:Prop)(_:Tok (x/\y):=⟨⟩):Prop:=match c with
 | .cX _=>x
 |_=>y
def qV(P:Program)(C:Calc)(full:List Oper):List Oper->List Cl->Env->ae->(List Cl->Env->ae->Prop)->Prop
 |[],acc,σ,bx,K=>K acc σ bx
 |o::rest,acc,σ,bx,K=>
  match o.guard with
  |none=>bq P C o σ bx fun c σ' bx'=>jt c (K (c::acc) σ' bx') (qV P C full rest (c::acc) σ' bx' K)
  |some (j,want)=>aM (pX full[j]? σ) fun g=>
   gK g want (bq P C o σ bx fun c σ' bx'=>jt c (K (c::acc) σ' bx') (qV P C full rest (c::acc) σ' bx' K))
    (qV P C full rest (.n::acc) (put σ o.dst (.raw undef)) bx K)
def po(P:Program)(C:Calc)(full l:List Oper)(acc:List Cl)(σ:Env)(bx:ae)(K:List Cl->Env->ae->Prop)(_:Tok (full,l):=⟨⟩)(_:Tok (K acc σ bx):=⟨⟩):Prop:=qV P C full l acc σ bx K
def HN(lo:Nat):D->Bool
 | .bp s ..| .fJ s ..| .loc s ..=>decide (lo<=s)
 |x=>x.pure
def eI(bx:ae)(s:Nat)(es:List D):ae:=aj (dX bx (bx s).es) s {dX bx (bx s).es s with es:=es}
def vz(lo t:Nat)(σ:Env)(bx:ae):Option (Env×ae):=if t<en/\(lo=0\/HN lo (σ t)=true)then
 (bD bx (σ t)).map fun v=>(aj σ t v,ey bx (σ t))
 else if lo=0/\2000000000<=t/\(bx (t - 2000000000)).k=1 then(cY bx (bx (t - 2000000000)).es).map fun es=>(σ,eI bx (t - 2000000000) es)else none
def rh(lo:Nat):List Nat->Env->ae->Option (Env×ae)
 |[],σ,bx=>some (σ,bx)
 |t::ts,σ,bx=>(vz lo t σ bx).bind fun s=>rh lo ts s.1 s.2
def vG(acc:List Cl)(x y:Prop)(_:Tok (x/\y):=⟨⟩):Prop:=match acc with
 | .cX _::_=>x
 |_=>y
def pV:List (Nat×Nat)->Nat->List Nat
 |[],_=>[]
 |(a,t)::ps,i=>if a=i then t::pV ps i else pV ps i
def sX(P:Program)(C:Calc)(full:List Oper)(ps:List (Nat×Nat)):Nat->List Oper->List Cl->Env->ae->(List Cl->Env->ae->Prop)->Prop
 |_,[],acc,σ,bx,K=>K acc σ bx
 |i,o::rest,acc,σ,bx,K=>aM (rh C.lo (pV ps i) σ bx) fun s=>po P C full [o] acc s.1 s.2 fun r7 σ' bx'=>vG r7 (K r7 σ' bx') (sX P C full ps (i+1) rest r7 σ' bx' K)
def L8(P:Program)(C:Calc)(full:List Oper)(ps:List (Nat×Nat))(i:Nat)(l:List Oper)(acc:List Cl)(σ:Env)(bx:ae)(K:List Cl->Env->ae->Prop)(_:Tok (full,l):=⟨⟩)(_:Tok (K acc σ bx):=⟨⟩):Prop:=sX P C full ps i l acc σ bx K
def zo(P:Program)(C:Calc)(full:List Oper)(ps:List (Nat×Nat))(l:List Oper)(acc:List Cl)(σ:Env)(bx:ae)(K:List Cl->Env->ae->Prop)(_:Tok (full,l):=⟨⟩)(_:Tok (K acc σ bx):=⟨⟩):Prop:=match ps with
 |[]=>po P C full l acc σ bx K
 |p::ps=>sX P C full (p::ps) 0 l acc σ bx K
def ordered(b:Array Nat)(i j:Nat):Bool:=(b.getD (max i j) 0).testBit (min i j)
def tmpsOf(full:List Oper)(o:Oper):List Tmp:=
 o.dst.toList++o.looksAt full.toArray
def eU:Op->Nat
 | .load ..| .lookup ..=>1
 | .alloc ..| .box ..| .store ..| .makeSlice ..| .buildSlice ..=>2
 | .call {callee:=.builtin .append,..}=>2
 | .call {callee:=.value _,..}=>2
 | .call {callee:=.invoke _ _,..}=>2
 | .call {callee:=.builtin .delete,..}=>2
 | .call {callee:=.builtin .copy,..}=>2
 | .makeMap ..| .mapUpdate ..| .range ..| .entry ..=>2
 |_=>0
def Cs(full:List Oper)(ps:List (Nat×Nat)):Bool:=
 let b:=Region.before full.toArray
 full.zipIdx.all fun(o,j)=>o.after.toList.all (fun e=> !Region.binds .any e||decide (e.on<j))&&
  full.zipIdx.all fun(o',i)=>i==j||ordered b i j||
   (
    (match o'.dst with|some d=> !(tmpsOf full o).contains d|none=>true)&&
    (match o.dst with|some d=> !(tmpsOf full o').contains d|none=>true)&&
    (!(eU o.op==2&&eU o'.op != 0)||ps.contains (full.length - 1 - j,full.length - 1 - i)||ps.contains (full.length - 1 - i,full.length - 1 - j)))
inductive ru where
 |fin
 |stop
 |aY (i:Nat) (n:ru)
 |load (i s:Nat) (n:ru)
 |both (i:Nat) (je:List Nat) (a r:ru)
def Eb(o:Oper):Bool:=match o.op with
 | .move ..| .assign ..| .pick ..| .binOp ..| .unOp ..| .fieldAddr ..| .field ..| .indexAddr ..| .index ..| .extract ..| .slice ..| .build ..| .nilCheck ..| .makeInterface ..| .typeAssert ..| .makeFunc ..| .convert ..=>true
 |_=>false
def HO(o:Oper):Bool:=match o.op with
 | .load ..=>true
 |_=>false
def sH(full:List Oper)(L:Nat->Bool)(i:Nat):Bool:= !L i&&match full[i]? with
 |some o=>o.after.toList.all fun e=> !Region.binds .any e||L e.on
 |none=>false
def mI(L:Nat->Bool)(i:Nat):Nat->Bool:=fun k=>k==i||L k
def fB(full:List Oper):(Nat->Bool)->List (Nat×Nat)->List Nat->ru->Bool
 |L,_,mj,.fin=>mj.isEmpty&&(List.range full.length).all fun j=> !sH full L j
 |L,_,mj,.stop=> !mj.isEmpty&&(List.range full.length).all fun j=> !sH full L j||mj.contains j
 |L,F,mj,.aY i n=>mj.isEmpty&&sH full L i&&(match full[i]? with|some o=>Eb o|none=>false)&&fB full (mI L i) F [] n
 |L,F,mj,.load i s n=>mj.isEmpty&&sH full L i&&(match full[i]? with|some o=>HO o|none=>false)&&fB full (mI L i) ((i,s)::F) [] n
 |L,F,mj,.both i je a r=>sH full L i&&(F.all fun p=>ordered (Region.before full.toArray) p.1 i||je.contains p.2)&&fB full (mI L i) F [] a&&fB full L F (i::mj) r
def Ay(full:List Oper):Bool:=
 let b:=Region.before full.toArray
 full.zipIdx.all fun(o,j)=>o.guard.isNone&&o.after.toList.all (fun e=> !Region.binds .any e||decide (e.on<j))&&
  full.zipIdx.all fun(o',i)=>i==j||ordered b i j||
   (
    (match o'.dst with|some d=> !(tmpsOf full o).contains d|none=>true)&&
    (match o.dst with|some d=> !(tmpsOf full o').contains d|none=>true))
def Dd(full:List Oper)(t:ru):Bool:=Ay full&&fB full (fun _=>false) [] [] t
def pj(x:Option Oper)(f:Oper->Prop)(_:Tok f:=⟨⟩):Prop:=match x with
 |some o=>f o
 |none=>False
def w7(base:Nat)(bx bx':ae):List Nat->Prop
 |[]=>True
 |s::l=>bx' (base+s)=bx (base+s)/\w7 base bx bx' l
def Eh(Pn:D->ae->Prop)(c:Cl)(bx:ae)(_:Tok (Pn .undef bx):=⟨⟩):Prop:=match c with
 | .cX d=>Pn d bx
 |_=>False
def SM(c:Cl)(t:Nat):Prop:=c= .n\/c= .r t
def An(P:Program)(base s:Nat)(o:Oper)(σ:Env)(bx:ae)(f:Env->Prop)(_:Tok (f σ):=⟨⟩):Prop:=match o.op with
 | .load T a=>SM (oe (ev σ a)) (base+s)/\aM (iH (an P T) bx (ev σ a)) fun v=>f (put σ o.dst v)
 |_=>False
def lq(P:Program)(C:Calc)(full:List Oper)(Pn:D->ae->Prop)(Q:Env->ae->Prop):ru->Env->ae->Prop
 | .fin,σ,bx=>Q σ bx
 | .stop,_,_=>True
 | .aY i n,σ,bx=>pj full[i]? fun o=>aM (cT P σ bx o.op) fun v=>lq P C full Pn Q n (put σ o.dst v) bx
 | .load i s n,σ,bx=>pj full[i]? fun o=>An P C.base s o σ bx fun σ'=>lq P C full Pn Q n σ' bx
 | .both i je a r,σ,bx=>(pj full[i]? fun o=>bq P C o σ bx fun c σ' bx'=>jt c (Eh Pn c bx') (w7 C.base bx bx' je/\lq P C full Pn Q a σ' bx'))/\lq P C full Pn Q r σ bx
def uk(P:Program)(C:Calc)(full:List Oper)(t:ru)(Pn:D->ae->Prop)(Q:Env->ae->Prop)(σ:Env)(bx:ae)(_:Tok full:=⟨⟩)(_:Tok (Q σ bx):=⟨⟩):Prop:=lq P C full Pn Q t σ bx
def wP(P:Program)(C:Calc)(full:List Oper)(Pn:D->ae->Prop)(Q:Env->ae->Prop)(σ:Env)(bx:ae)(_:Tok full:=⟨⟩)(_:Tok (Q σ bx):=⟨⟩):Prop:=∃t,Dd full t=true/\uk P ⟨C.o,C.tab,C.base,C.bk,C.lo,none,false,false⟩ full t Pn Q σ bx
def Cz(tab:List (Nat×List (Nat×Nat)))(id:Nat):Bool:=rl tab (1000000+id)
def dH(tab:List (Nat×List (Nat×Nat)))(N:Nat):Code->Bool
 | .region id ops draw=>ops.toList.all (fun o=>match o.dst with|some d=>decide (d<N)|none=>true)&&(!draw||Cz tab id||Cs ops.toList (n9 tab id))
 | .seq a b=>dH tab N a&&dH tab N b
 | .cond _ x y=>dH tab N x&&dH tab N y
 | .block _ c=>dH tab N c
 | .loop c=>dH tab N c
 | .scope c=>dH tab N c
 | .rangeFunc _ ps a b=>ps.toList.all (fun t=>decide (t<N))&&dH tab N a&&dH tab N b
 |_=>true
inductive DX where
 |normal
 |exit (id:Nat)
 |goto (l:Nat)
 |ret
 |cX (d:D)
def vH(Q:DX->Env->ae->Prop)(acc:List Cl)(σ:Env)(bx:ae):Prop:=match acc with
 | .cX d::_=>Q (.cX d) σ bx
 |_=>Q .normal σ bx
def codeOk(tab:List (Nat×List (Nat×Nat)))(N:Nat)(c:Code):Bool:=decide (N<=1000000000)&&dH tab N c
def dM(K:Env->ae->Prop)(Q:DX->Env->ae->Prop):DX->Env->ae->Prop
 | .normal,σ,bx=>K σ bx
 |e,σ,bx=>Q e σ bx
def rA(id:Nat)(Q:DX->Env->ae->Prop):DX->Env->ae->Prop
 | .exit Fh,σ,bx=>if Fh=id then Q .normal σ bx else Q (.exit Fh) σ bx
 |e,σ,bx=>Q e σ bx
def wq(Q:DX->Env->ae->Prop):DX->Env->ae->Prop
 | .goto _,_,_=>False
 |e,σ,bx=>Q e σ bx
def X8(C:Calc)(d:D)(K:List (List D)->Nat->Prop):Prop:=∃f caps items ext,d= .fn (.func f) caps/\D.aF caps=true/\C.o.it f caps items ext/\K items ext
def X7(C:Calc)(d:D)(bx:ae)(K:Nat->List (List D)->Option D->Nat->Prop):Prop:=∃f t e b items pd ext,d= .fn (.func f) [.loc t e 0 0]/\t<C.bk/\bx t=⟨e,1,b.sz,b.ty,b.es⟩/\C.o.A1 f b items pd ext/\K t items pd ext
def Eg(Q:DX->Env->ae->Prop)(σ:Env)(bx:ae):Option D->Prop
 |none=>Q .normal σ bx
 |some d=>Q (.cX d) σ bx
def kC(σ:Env):List Tmp->List D->Env
 |t::ts,d::ds=>kC (aj σ t d) ts ds
 |_,_=>σ
def qo(bk ext:Nat)(J:Nat->ae->Prop)(n:Nat)(Q:DX->Env->ae->Prop)(σ:Env)(bx1:ae):DX->Env->ae->Prop:=fun e _ bx'=>
 (∀s,bk<=s->s<bk+ext->bx' s=bx1 s)/\match e with
  | .normal=>J (n+1) (bU bk bx')
  | .ret=>∀bK,bU bk bK=bU bk bx'->Q .ret σ bK
  | .exit id=>∀bK,bU bk bK=bU bk bx'->Q (.exit id) σ bK
  |_=>False
def Fv:DX->Env->ae->Prop:=fun _ _ _=>False
def Pm(C:Calc)(bx bx':ae):Prop:=bx'=bx\/(C.lo=0/\∃s es,(bx s).k=1/\cY bx (bx s).es=some es/\bx'=eI bx s es)
set_option linter.unusedVariables false in
def cR(P:Program):Calc->Code->(DX->Env->ae->Prop)->Env->ae->Prop
 |C,.skip,Q,σ,bx=>Q .normal σ bx
 |C,.region id ops false,Q,σ,bx=>zo P C ops.toList (n9 C.tab (4000000+id)) ops.toList [] σ bx fun acc σ' bx'=>vH Q acc σ' bx'
 |C,.region id ops true,Q,σ,bx=>if Cz C.tab id=true then wP P C ops.toList (fun d bx=>∀σ,Q (.cX d) σ bx) (Q .normal) σ bx else po P C.AJ ops.toList ops.toList [] σ bx fun acc σ' bx'=>EG (n9 C.tab id) acc/\Q .normal σ' bx'
 |C,.seq a b,Q,σ,bx=>cR P C a (dM (cR P C b Q) Q) σ bx
 |C,.cond c x y,Q,σ,bx=>Cu (ev σ c) (cR P C x Q σ bx) (cR P C y Q σ bx)
 |C,.block id c,Q,σ,bx=>cR P C c (rA id Q) σ bx
 |C,.loop c,Q,σ,bx=>∃(I:Env->ae->Prop) (μ:Env->ae->Nat),I σ bx/\∀σ bx,I σ bx->∃bx0,Pm C bx bx0/\cR P C c (dM (fun σ' bx'=>I σ' bx'/\μ σ' bx'<μ σ bx) Q) σ bx0
 |C,.scope c,Q,σ,bx=>cR P C c (wq Q) σ bx
 |C,.exit id,Q,σ,bx=>Q (.exit id) σ bx
 |C,.ret,Q,σ,bx=>Q .ret σ bx
 |C,.label _,Q,σ,bx=>Q .normal σ bx
 |C,.rangeFunc g ps assign body,Q,σ,bx=>C.lo=0/\C.yl=none/\((X8 C (ev σ g) fun items ext=>∃J:Nat->ae->Prop,J 0 (bU C.bk bx)/\
  (∀n it bx1,items[n]? =some it->J n (bU C.bk bx1)->it.length=ps.size/\
   cR P ⟨C.o,C.tab,C.base,C.bk+ext,C.lo,C.yl,false,false⟩ assign (dM (cR P ⟨C.o,C.tab,C.base,C.bk+ext,C.lo,C.yl,false,false⟩ body (qo C.bk ext J n Q σ bx1)) Fv) (kC σ ps.toList it) bx1)/\
  ∀bx1,J items.length (bU C.bk bx1)->Q .normal σ bx1)\/
  (X7 C (ev σ g) bx fun t items pd ext=>∃J:Nat->ae->Prop,J 0 (bU C.bk (aj bx t {bx t with k:=0}))/\
   (∀n it bx1,items[n]? =some it->J n (bU C.bk bx1)->it.length=ps.size/\
    cR P ⟨C.o,C.tab,C.base,C.bk+ext,C.lo,C.yl,false,false⟩ assign (dM (cR P ⟨C.o,C.tab,C.base,C.bk+ext,C.lo,C.yl,false,false⟩ body (qo C.bk ext J n Q σ bx1)) Fv) (kC σ ps.toList it) bx1)/\
   ∀bx1,J items.length (bU C.bk bx1)->Eg Q σ bx1 pd))
 |_,_,_,_,_=>False
def cD(P:Program)(C:Calc)(c:Code)(Q:DX->Env->ae->Prop)(σ:Env)(bx:ae)(_:Tok c:=⟨⟩)(_:Tok (Q .normal σ bx):=⟨⟩):Prop:=cR P C c Q σ bx
def pv(P:Program)(σ:Env)(bx:ae):ResultVar->Option D
 | .tmp t=>some (σ t)
 | .cell a T=>iH (an P T) bx (σ a)
def jE(P:Program)(σ:Env)(bx:ae):List ResultVar->Option (List D)
 |[]=>some []
 |r::rs=>lD (pv P σ bx r) (jE P σ bx rs)
def mg:List D->D
 |[d]=>d
 |ds=> .aI ds
def Mu(P:Program)(rv:List ResultVar)(d:D):DX->Env->ae->Prop
 | .normal,σ,bx| .ret,σ,bx=>aM (jE P σ bx rv) fun rs=>aM (bD bx (mg rs)) fun r=>bN r d
 |_,_,_=>False
def bF:Nat->List D->Env
 |_,[]=>fun _=> .raw undef
 |n,d::ds=>aj (bF (n+1) ds) n d
def qz(P:Program)(O:gO)(tab:List (Nat×List (Nat×Nat)))(fn:Func)(ds:List D)(d:D):Prop:=
 ∃c,fn.body=some c/\codeOk tab fn.ntmps c=true/\cD P ⟨O,tab,0,fn.ntmps,0,none,false,false⟩ c (Mu P fn.results.toList d) (bF 0 ds) (fun _=> .none)
def BS(P:Program)(rv:List ResultVar)(cI Pan:D->ae->Prop):DX->Env->ae->Prop
 | .normal,σ,bx| .ret,σ,bx=>aM (jE P σ bx rv) fun rs=>cI (mg rs) bx
 | .cX d,_,bx=>Pan d bx
 |_,_,_=>False
def mn(P:Program)(O:gO)(tab:List (Nat×List (Nat×Nat)))(fn:Func)(base:Nat)(ds:List D)(bx:ae)(cI Pan:D->ae->Prop):Prop:=
 ∃c,fn.body=some c/\codeOk tab fn.ntmps c=true/\cD P ⟨O,tab,base,base+fn.ntmps,0,none,true,false⟩ c (BS P fn.results.toList cI Pan) (bF 0 ds) bx
def Ms(gs n:Nat):DX->Env->ae->Prop
 | .normal,_,bx| .ret,_,bx=>n<=(bx gs).sz
 |_,_,_=>False
def Dr(gs n:Nat)(pd:Option D):DX->Env->ae->Prop
 | .normal,_,bx| .ret,_,bx=>n<=(bx gs).sz/\(pd=none\/n<(bx gs).sz)
 | .cX d,_,bx=>pd=some d/\(bx gs).sz=n
 |_,_,_=>False
def Qb(P:Program)(O:gO)(tab:List (Nat×List (Nat×Nat)))(fn:Func)(b:Bx)(items:List (List D))(pd:Option D):Prop:=
 ∃c,fn.body=some c/\codeOk tab fn.ntmps c=true/\fn.results.toList=[]/\∀(gs l e:Nat) (bx:ae),(bx gs).k=0->(bx gs).sz=0->bx (gs+1)=⟨e,1,b.sz,b.ty,b.es⟩->
  cD P ⟨O,tab,gs+2,gs+2+fn.ntmps,gs+1,some (items,gs,l),true,false⟩ c (Dr gs items.length pd) (bF 0 [.fn (.yield l) [],.loc (gs+1) e 0 0]) bx
def R8(P:Program)(O:gO)(tab:List (Nat×List (Nat×Nat)))(fn:Func)(caps:List D)(items:List (List D)):Prop:=
 ∃c,fn.body=some c/\codeOk tab fn.ntmps c=true/\fn.results.toList=[]/\∀(gs l:Nat) (bx:ae),(bx gs).k=0->(bx gs).sz=0->
  cD P ⟨O,tab,gs+1,gs+1+fn.ntmps,gs+1,some (items,gs,l),false,false⟩ c (Ms gs items.length) (bF 0 (.fn (.yield l) []::caps)) bx
end Go.V
namespace Go.V
open Go.RowKit
def qS{α:Type}(p q:Prop)[Decidable p][Decidable q](x y:α):(if p/\q then x else y)=if p then(if q then x else y)else y:=by by_cases hp:p<;>by_cases hq:q<;>simp[hp,hq]
variable {P:Program} {C:Calc} {Q:DX->Env->ae->Prop} {σ:Env} {bx:ae}
attribute [go_sem] Nat.le_add_right Bool.false_eq_true eq_self decide_true decide_false Nat.zero_le Nat.le_refl dC List.take_succ_cons List.take_zero List.drop_succ_cons List.drop_zero List.getElem?_cons_zero List.getElem?_cons_succ List.length_cons List.length_nil Option.map_some Option.map_none Option.bind_some List.length_map gM Int.toNat_natCast mC List.map_nil List.cons_append List.nil_append List.append_nil Nat.zero_add Nat.add_zero List.set_cons_zero List.set_cons_succ Bool.not_not nT nF Int.natCast_zero
@[go_sem] def akm{α:Type}(σ:Nat->α)(t:Nat)(v:α)(x:Nat):aj σ t v x=if x=t then v else σ x:=ay
@[go_sem] def nV{α:Type}(v:α)(f:α->Prop):aM (some v) f=f v:=ay
@[go_sem] def Ld(x y:Prop):iE true x y=x:=by simp[iE]
@[go_sem] def Jc(x y:Prop):iE false x y=y:=by simp[iE]
@[go_sem] def abq(b:Bool)(x y:Prop):iE (!b) x y=iE b y x:=by cases b<;>simp[iE]
def aZ{b:Bool}{x y:Prop}(h1:b=true->x)(h2:b=false->y):iE b x y:=by
 cases b
 ·exact h2 rfl
 ·exact h1 rfl
@[go_sem ↓] def ag8:cD P C .skip Q σ bx=Q .normal σ bx:=ay
@[go_sem ↓] def YK(id:Nat)(l:List Oper):cD P C (.region id l.toArray false) Q σ bx=zo P C l (n9 C.tab (4000000+id)) l [] σ bx fun acc σ' bx'=>vH Q acc σ' bx':=by simp[cD,cR]
@[go_sem ↓] def af3{full l:List Oper}{acc:List Cl}{K:List Cl->Env->ae->Prop}:zo P C full [] l acc σ bx K=po P C full l acc σ bx K:=ay
@[go_sem ↓] def ac6{full l:List Oper}{acc:List Cl}{K:List Cl->Env->ae->Prop}(p:Nat×Nat)(ps:List (Nat×Nat)):zo P C full (p::ps) l acc σ bx K=L8 P C full (p::ps) 0 l acc σ bx K:=ay
@[go_sem ↓] def af4{full:List Oper}{acc:List Cl}{K:List Cl->Env->ae->Prop}(ps:List (Nat×Nat))(i:Nat):L8 P C full ps i [] acc σ bx K=K acc σ bx:=ay
@[go_sem ↓] def ac7{full rest:List Oper}{o:Oper}{acc:List Cl}{K:List Cl->Env->ae->Prop}(ps:List (Nat×Nat))(i:Nat):L8 P C full ps i (o::rest) acc σ bx K=aM (rh C.lo (pV ps i) σ bx) fun s=>po P C full [o] acc s.1 s.2 fun r7 σ' bx'=>vG r7 (K r7 σ' bx') (L8 P C full ps (i+1) rest r7 σ' bx' K):=ay
@[go_sem] def ZF(i:Nat):pV [] i=[]:=ay
@[go_sem] def YR(a t i:Nat)(ps:List (Nat×Nat)):pV ((a,t)::ps) i=if a=i then t::pV ps i else pV ps i:=ay
@[go_sem] def abN(lo:Nat):rh lo [] σ bx=some (σ,bx):=ay
@[go_sem] def ZP(lo t:Nat)(ts:List Nat):rh lo (t::ts) σ bx=(vz lo t σ bx).bind fun s=>rh lo ts s.1 s.2:=ay
@[go_sem] def aj_(acc:List Cl)(x y:Prop):vG (.n::acc) x y=y:=ay
@[go_sem] def aka(t:Nat)(acc:List Cl)(x y:Prop):vG (.r t::acc) x y=y:=ay
@[go_sem] def akb(t:Nat)(acc:List Cl)(x y:Prop):vG (.w t::acc) x y=y:=ay
@[go_sem] def ahG(acc:List Cl)(x y:Prop):vG (.wa::acc) x y=y:=ay
@[go_sem] def abM(t:Nat)(h:t<1000000000):vz 0 t σ bx=(bD bx (σ t)).map fun v=>(aj σ t v,ey bx (σ t)):=by simp[vz,en,h]
@[go_sem] def abL(t:Nat)(h:2000000000<=t):vz 0 t σ bx=if(bx (t - 2000000000)).k=1 then(cY bx (bx (t - 2000000000)).es).map fun es=>(σ,eI bx (t - 2000000000) es)else none:=by
 have:¬t<1000000000:=oM;simp[vz,en,h,this]
@[go_sem ↓] def YL(id:Nat)(l:List Oper):cD P C (.region id l.toArray true) Q σ bx=if Cz C.tab id=true then wP P C l (fun d bx=>∀σ,Q (.cX d) σ bx) (fun σ bx=>Q .normal σ bx) σ bx else po P C.AJ l l [] σ bx fun acc σ' bx'=>EG (n9 C.tab id) acc/\Q .normal σ' bx':=by simp[cD,cR,po]
@[go_sem] def ZG(tab:List (Nat×List (Nat×Nat)))(id:Nat):Cz tab id=rl tab (1000000+id):=ay
def gY{full:List Oper}{Pn:D->ae->Prop}{Q:Env->ae->Prop}(t:ru)(h:Dd full t=true)(hs:uk P ⟨C.o,C.tab,C.base,C.bk,C.lo,none,false,false⟩ full t Pn Q σ bx):wP P C full Pn Q σ bx:=⟨t,h,hs⟩
@[go_sem ↓] def agD{full:List Oper}{Pn:D->ae->Prop}{Q:Env->ae->Prop}:uk P C full .fin Pn Q σ bx=Q σ bx:=ay
@[go_sem ↓] def adt{full:List Oper}{Pn:D->ae->Prop}{Q:Env->ae->Prop}:uk P C full .stop Pn Q σ bx=True:=ay
@[go_sem ↓] def aau{full:List Oper}{Pn:D->ae->Prop}{Q:Env->ae->Prop}(i:Nat)(n:ru):uk P C full (.aY i n) Pn Q σ bx=pj full[i]? fun o=>aM (cT P σ bx o.op) fun v=>uk P C full n Pn Q (put σ o.dst v) bx:=ay
@[go_sem ↓] def ads{full:List Oper}{Pn:D->ae->Prop}{Q:Env->ae->Prop}(i s:Nat)(n:ru):uk P C full (.load i s n) Pn Q σ bx=pj full[i]? fun o=>An P C.base s o σ bx fun σ'=>uk P C full n Pn Q σ' bx:=ay
@[go_sem ↓] def adr{full:List Oper}{Pn:D->ae->Prop}{Q:Env->ae->Prop}(i:Nat)(je:List Nat)(a r:ru):uk P C full (.both i je a r) Pn Q σ bx=((pj full[i]? fun o=>bq P C o σ bx fun c σ' bx'=>jt c (Eh Pn c bx') (w7 C.base bx bx' je/\uk P C full a Pn Q σ' bx'))/\uk P C full r Pn Q σ bx):=ay
@[go_sem] def aba(o:Oper)(f:Oper->Prop):pj (some o) f=f o:=ay
@[go_sem] def acQ(b:Nat)(bx bx':ae):w7 b bx bx' []=True:=ay
@[go_sem] def aac(b s:Nat)(bx bx':ae)(l:List Nat):w7 b bx bx' (s::l)=(bx' (b+s)=bx (b+s)/\w7 b bx bx' l):=ay
@[go_sem] def age(Pn:D->ae->Prop)(d:D)(bx:ae):Eh Pn (.cX d) bx=Pn d bx:=ay
@[go_sem] def akI(s t:Nat):SM (.r s) t=(s=t):=by simp[SM]
@[go_sem ↓] def afD{dst:Option Tmp}{T:TypeId}{a:Operand}{ty pos af g}(base s:Nat)(f:Env->Prop):An P base s ⟨dst,.load T a,ty,pos,af,g⟩ σ bx f=(SM (oe (ev σ a)) (base+s)/\aM (iH (an P T) bx (ev σ a)) fun v=>f (put σ dst v)):=ay
@[go_sem ↓] def ah7(a b:Code):cD P C (.seq a b) Q σ bx=cD P C a (dM (fun σ bx=>cD P C b Q σ bx) Q) σ bx:=ay
@[go_sem] def ZD(t:Bool)(x y:Prop):Cu (.bool t) x y=iE t x y:=ay
@[go_sem ↓] def ag6(c:Operand)(x y:Code):cD P C (.cond c x y) Q σ bx=Cu (ev σ c) (cD P C x Q σ bx) (cD P C y Q σ bx):=ay
@[go_sem ↓] def aee(id:Nat)(c:Code):cD P C (.block id c) Q σ bx=cD P C c (rA id Q) σ bx:=ay
@[go_sem ↓] def aeg(c:Code):cD P C (.scope c) Q σ bx=cD P C c (wq Q) σ bx:=ay
@[go_sem ↓] def UP:wq Q .normal σ bx=Q .normal σ bx:=ay
@[go_sem ↓] def aaw:wq Q .ret σ bx=Q .ret σ bx:=ay
@[go_sem ↓] def Y5(id:Nat):wq Q (.exit id) σ bx=Q (.exit id) σ bx:=ay
@[go_sem ↓] def ag7(id:Nat):cD P C (.exit id) Q σ bx=Q (.exit id) σ bx:=ay
@[go_sem ↓] def ah6:cD P C .ret Q σ bx=Q .ret σ bx:=ay
@[go_sem ↓] def aef(l:Nat):cD P C (.label l) Q σ bx=Q .normal σ bx:=ay
def JL{c:Code}(I:Env->ae->Prop)(μ:Env->ae->Nat)(h0:I σ bx)(h:∀σ bx,I σ bx->cD P C c (dM (fun σ' bx'=>I σ' bx'/\μ σ' bx'<μ σ bx) Q) σ bx):
 cD P C (.loop c) Q σ bx:=⟨I,μ,h0,fun σ bx hi=>⟨bx,.inl rfl,h σ bx hi⟩⟩
@[go_sem ↓] def akd(acc:List Cl):vH Q (.n::acc) σ bx=Q .normal σ bx:=ay
@[go_sem ↓] def ake(t:Nat)(acc:List Cl):vH Q (.r t::acc) σ bx=Q .normal σ bx:=ay
@[go_sem ↓] def akf(t:Nat)(acc:List Cl):vH Q (.w t::acc) σ bx=Q .normal σ bx:=ay
@[go_sem ↓] def ahK(acc:List Cl):vH Q (.wa::acc) σ bx=Q .normal σ bx:=ay
@[go_sem ↓] def agp(d:D)(acc:List Cl):vH Q (.cX d::acc) σ bx=Q (.cX d) σ bx:=ay
@[go_sem ↓] def ahb(x y:Prop):jt .n x y=y:=ay
@[go_sem ↓] def ahc(t:Nat)(x y:Prop):jt (.r t) x y=y:=ay
@[go_sem ↓] def ahd(t:Nat)(x y:Prop):jt (.w t) x y=y:=ay
@[go_sem ↓] def aep(x y:Prop):jt .ra x y=y:=ay
@[go_sem ↓] def aeq(x y:Prop):jt .wa x y=y:=ay
@[go_sem ↓] def abr(d:D)(x y:Prop):jt (.cX d) x y=x:=ay
@[go_sem ↓] def adK(K:Env->ae->Prop)(d:D):dM K Q (.cX d) σ bx=Q (.cX d) σ bx:=ay
@[go_sem ↓] def Zt(id:Nat)(d:D):rA id Q (.cX d) σ bx=Q (.cX d) σ bx:=ay
@[go_sem ↓] def aav(d:D):wq Q (.cX d) σ bx=Q (.cX d) σ bx:=ay
@[go_sem ↓] def Yq(K:Env->ae->Prop):dM K Q .normal σ bx=K σ bx:=ay
@[go_sem ↓] def adL(K:Env->ae->Prop):dM K Q .ret σ bx=Q .ret σ bx:=ay
@[go_sem ↓] def aaT(K:Env->ae->Prop)(id:Nat):dM K Q (.exit id) σ bx=Q (.exit id) σ bx:=ay
@[go_sem ↓] def UL(id:Nat):rA id Q .normal σ bx=Q .normal σ bx:=ay
@[go_sem ↓] def Zu(id:Nat):rA id Q .ret σ bx=Q .ret σ bx:=ay
@[go_sem ↓] def YH(id Fh:Nat):rA id Q (.exit Fh) σ bx=if Fh=id then Q .normal σ bx else Q (.exit Fh) σ bx:=ay
def bh{p:Prop}[Decidable p]{x y:Prop}(h1:p->x)(h2:¬p->y):iE (decide p) x y:=by
 by_cases h:p
 ·simp only[h,decide_true,Ld];exact h1 h
 ·simp only[h,decide_false,Jc];exact h2 h
def yv{p:Prop}[Decidable p]{x y:Prop}(h:p)(h1:x):iE (decide p) x y:=bh (fun _=>h1) (fun n=>absurd h n)
def GG{p:Prop}[Decidable p]{x y:Prop}(h:¬p)(h1:y):iE (decide p) x y:=bh (fun n=>absurd n h) (fun _=>h1)
attribute [go_sem] decide_true decide_false not_true_eq_false not_false_eq_true
@[go_sem] def aa9(n:Nat):bF n []=fun _=> .raw undef:=ay
@[go_sem] def Zp(n:Nat)(d:D)(ds:List D):bF n (d::ds)=aj (bF (n+1) ds) n d:=ay
def ax{O:gO}{tab:List (Nat×List (Nat×Nat))}{fn:Func}{ds:List D}{d:D}(c:Code)(rv:List ResultVar)(n:Nat)(hc:fn.body=some c)(hr:fn.results=rv.toArray)(hn:fn.ntmps=n)(bC:codeOk tab n c=true)
 (h:cD P ⟨O,tab,0,n,0,none,false,false⟩ c (Mu P rv d) (bF 0 ds) (fun _=> .none)):qz P O tab fn ds d:=by
 subst hn;refine⟨c,hc,bC,?_⟩;rw[hr];simpa using h
def aL{O:gO}{tab:List (Nat×List (Nat×Nat))}{fn:Func}{base:Nat}{ds:List D}{bx:ae}{cI Pan:D->ae->Prop}(c:Code)(rv:List ResultVar)(n:Nat)(hc:fn.body=some c)(hr:fn.results=rv.toArray)(hn:fn.ntmps=n)(bC:codeOk tab n c=true)
 (h:cD P ⟨O,tab,base,base+n,0,none,true,false⟩ c (BS P rv cI Pan) (bF 0 ds) bx):mn P O tab fn base ds bx cI Pan:=by
 subst hn;refine⟨c,hc,bC,?_⟩;rw[hr];simpa using h
def NC{O:gO}{tab:List (Nat×List (Nat×Nat))}{fn:Func}{caps:List D}{items:List (List D)}(c:Code)(n:Nat)(hc:fn.body=some c)(hr:fn.results= #[])(hn:fn.ntmps=n)(bC:codeOk tab n c=true)
 (h:∀(gs l:Nat) (bx:ae),(bx gs).k=0->(bx gs).sz=0->cD P ⟨O,tab,gs+1,gs+1+n,gs+1,some (items,gs,l),false,false⟩ c (Ms gs items.length) (bF 0 (.fn (.yield l) []::caps)) bx):R8 P O tab fn caps items:=by
 subst hn;refine⟨c,hc,bC,by rw[hr],h⟩
@[go_sem ↓] def agt(rv:List ResultVar)(cI Pan:D->ae->Prop)(d:D):BS P rv cI Pan (.cX d) σ bx=Pan d bx:=ay
@[go_sem ↓] def agu(rv:List ResultVar)(cI Pan:D->ae->Prop):BS P rv cI Pan .ret σ bx=aM (jE P σ bx rv) fun rs=>cI (mg rs) bx:=ay
@[go_sem ↓] def Y2(rv:List ResultVar)(cI Pan:D->ae->Prop):BS P rv cI Pan .normal σ bx=aM (jE P σ bx rv) fun rs=>cI (mg rs) bx:=ay
@[go_sem ↓] def agv(gs n:Nat):Ms gs n .ret σ bx=(n<=(bx gs).sz):=ay
@[go_sem ↓] def Y3(gs n:Nat):Ms gs n .normal σ bx=(n<=(bx gs).sz):=ay
@[go_sem] def Zz(f:Nat)(caps ds:List D)(K:Cl->D->ae->Prop):l9 C (.fn (.func f) caps) ds bx K=fD C f (ds++caps) bx K:=ay
@[go_sem] def YM(l:Nat)(ds:List D)(K:Cl->D->ae->Prop):l9 C (.fn (.yield l) []) ds bx K=qw C l ds bx K:=ay
@[go_sem] def Zs:kC σ [] []=σ:=ay
@[go_sem] def YG(t:Nat)(ts:List Nat)(d:D)(ds:List D):kC σ (t::ts) (d::ds)=kC (aj σ t d) ts ds:=ay
@[go_sem] def ahf(n s:Nat):bU n bx s=if s<n then bx s else .none:=ay
@[go_sem] def ahv(lo hi s:Nat)(bx1:ae):qU lo hi bx bx1 s=if lo<=s then(if s<hi then bx s else bx1 s)else bx1 s:=by unfold qU;by_cases h1:lo<=s<;>by_cases h2:s<hi<;>simp[h1,h2]
def tp{items:List (List D)}{gs l:Nat}{ds:List D}{K:Cl->D->ae->Prop}(hy:C.yl=some (items,gs,l))(hp:D.aF ds=true)(hi:items[(bx gs).sz]? =some ds)
 (hk:∀bx1:ae,K .wa (.bool true) (aj (qU C.lo C.bk bx bx1) gs {bx gs with sz:=(bx gs).sz+1})/\K .wa (.bool false) (aj (qU C.lo C.bk bx bx1) gs {bx gs with sz:=items.length+1})):qw C l ds bx K:=by
 unfold qw;rw[hy];exact⟨⟨rfl,hp,hi⟩,hk⟩
def Pw{pn df:Bool}{o:gO}{tab:List (Nat×List (Nat×Nat))}{base bk:Nat}{g:Operand}{ps:List Tmp}{assign body:Code}(f:FuncId)(caps:List D)(items:List (List D))(ext:Nat)(J:Nat->ae->Prop)(hg:ev σ g= .fn (.func f) caps)(hp:D.aF caps=true)(hit:o.it f caps items ext)
 (h0:J 0 (bU bk bx)) (hr:∀n it bx1,items[n]? =some it->J n (bU bk bx1)->it.length=ps.length/\
  cD P ⟨o,tab,base,bk+ext,0,none,false,false⟩ assign (dM (fun σ' bx'=>cD P ⟨o,tab,base,bk+ext,0,none,false,false⟩ body (qo bk ext J n Q σ bx1) σ' bx') Fv) (kC σ ps it) bx1)
 (hq:∀bx1,J items.length (bU bk bx1)->Q .normal σ bx1):cD P ⟨o,tab,base,bk,0,none,pn,df⟩ (.rangeFunc g ps.toArray assign body) Q σ bx:=
 ⟨rfl,rfl,.inl ⟨f,caps,items,ext,hg,hp,hit,J,h0,fun n it bx1 h1 h2=>by have:=hr n it bx1 h1 h2;exact⟨by simpa using this.1,by simpa only[cD]using this.2⟩,hq⟩⟩
def EF{pn df:Bool}{o:gO}{tab:List (Nat×List (Nat×Nat))}{base bk:Nat}{g:Operand}{ps:List Tmp}{assign body:Code}(f:FuncId)(t e:Nat)(b:Bx)(items:List (List D))(pd:Option D)(ext:Nat)(J:Nat->ae->Prop)(hg:ev σ g= .fn (.func f) [.loc t e 0 0])(ht:t<bk)(hb:bx t=⟨e,1,b.sz,b.ty,b.es⟩)(hit:o.A1 f b items pd ext)
 (h0:J 0 (bU bk (aj bx t {bx t with k:=0}))) (hr:∀n it bx1,items[n]? =some it->J n (bU bk bx1)->it.length=ps.length/\
  cD P ⟨o,tab,base,bk+ext,0,none,false,false⟩ assign (dM (fun σ' bx'=>cD P ⟨o,tab,base,bk+ext,0,none,false,false⟩ body (qo bk ext J n Q σ bx1) σ' bx') Fv) (kC σ ps it) bx1)
 (hq:∀bx1,J items.length (bU bk bx1)->Eg Q σ bx1 pd):cD P ⟨o,tab,base,bk,0,none,pn,df⟩ (.rangeFunc g ps.toArray assign body) Q σ bx:=
 ⟨rfl,rfl,.inr ⟨f,t,e,b,items,pd,ext,hg,ht,hb,hit,J,h0,fun n it bx1 h1 h2=>by have:=hr n it bx1 h1 h2;exact⟨by simpa using this.1,by simpa only[cD]using this.2⟩,hq⟩⟩
def CF{O:gO}{tab:List (Nat×List (Nat×Nat))}{fn:Func}{b:Bx}{items:List (List D)}{pd:Option D}(c:Code)(n:Nat)(hc:fn.body=some c)(hr:fn.results= #[])(hn:fn.ntmps=n)(bC:codeOk tab n c=true)
 (h:∀(gs l e:Nat) (bx:ae),(bx gs).k=0->(bx gs).sz=0->bx (gs+1)=⟨e,1,b.sz,b.ty,b.es⟩->cD P ⟨O,tab,gs+2,gs+2+n,gs+1,some (items,gs,l),true,false⟩ c (Dr gs items.length pd) (bF 0 [.fn (.yield l) [],.loc (gs+1) e 0 0]) bx):Qb P O tab fn b items pd:=by
 subst hn;refine⟨c,hc,bC,by rw[hr],h⟩
@[go_sem ↓] def adp(gs n:Nat)(pd:Option D):Dr gs n pd .ret σ bx=(n<=(bx gs).sz/\(pd=none\/n<(bx gs).sz)):=ay
@[go_sem ↓] def Ya(gs n:Nat)(pd:Option D):Dr gs n pd .normal σ bx=(n<=(bx gs).sz/\(pd=none\/n<(bx gs).sz)):=ay
@[go_sem ↓] def ado(gs n:Nat)(pd:Option D)(d:D):Dr gs n pd (.cX d) σ bx=(pd=some d/\(bx gs).sz=n):=ay
@[go_sem ↓] def UO(bk ext n:Nat)(J:Nat->ae->Prop)(σ':Env)(bx1:ae):qo bk ext J n Q σ bx1 .normal σ' bx=((∀s,bk<=s->s<bk+ext->bx s=bx1 s)/\J (n+1) (bU bk bx)):=ay
@[go_sem ↓] def agy(rv:List ResultVar)(d:D):Mu P rv d .ret σ bx=aM (jE P σ bx rv) fun rs=>aM (bD bx (mg rs)) fun r=>bN r d:=ay
@[go_sem] def ZE(x:D)(xs:List D):lD (some x) (some xs)=some (x::xs):=ay
@[go_sem] def ags:jE P σ bx []=some []:=ay
@[go_sem] def adn(r:ResultVar)(rs:List ResultVar):jE P σ bx (r::rs)=lD (pv P σ bx r) (jE P σ bx rs):=ay
@[go_sem] def agr(t:Nat):pv P σ bx (.tmp t)=some (σ t):=ay
@[go_sem] def adm(t T:Nat):pv P σ bx (.cell t T)=iH (an P T) bx (σ t):=ay
@[go_sem] def agS(d:D):mg [d]=d:=ay
@[go_sem] def agT(d e:D)(ds:List D):mg (d::e::ds)= .aI (d::e::ds):=ay
@[go_sem] def agR:mg []= .aI []:=ay
@[go_sem] def pt:cY bx []=some []:=by simp[cY]
@[go_sem] def dS(d:D)(ds:List D):cY bx (d::ds)=lD (bD bx d) (cY bx ds):=by simp only[cY]
@[go_sem] def aga(k:IntKind)(n:Int):bD bx (.int k n)=some (.int k n):=by simp[bD]
@[go_sem] def ada(b:Bool):bD bx (.bool b)=some (.bool b):=by simp[bD]
@[go_sem] def agd(b:List UInt8):bD bx (.str b)=some (.str b):=by simp[bD]
@[go_sem] def agc(b:Value):bD bx (.raw b)=some (.raw b):=by simp[bD]
@[go_sem] def xi:bD bx .aq=some .aq:=by simp[bD]
@[go_sem] def ahF(sz:Nat)(es:List D):bD bx (.sl sz es)=some (.sl sz es):=by simp[bD]
@[go_sem] def uf(ds:List D):bD bx (.agg ds)=(cY bx ds).map .agg:=by simp only[bD]
@[go_sem] def Ib(ds:List D):bD bx (.aI ds)=(cY bx ds).map .aI:=by simp only[bD]
@[go_sem] def ahE(f:Fn)(ds:List D):bD bx (.fn f ds)=(cY bx ds).map (.fn f):=by simp only[bD]
def L_(b:Bx)(e i j:Nat):Option D:=if b.ep=e/\lv b.k then match b.es[i]? with
 |some d=>if d.pure then some (.cG d j)else some (.cG d.Ex j)
 |none=>none
 else none
@[go_sem] def agb(t e i j:Nat):bD bx (.loc t e i j)=L_ (bx t) e i j:=by simp only[bD,L_]<;>split<;>first|(cases(bx t).es[i]?<;>rfl)|rfl
def Ma(x:Option D)(j:Nat):Option D:=match x with
 |some d=>if d.pure then some (.cG d j)else some (.cG d.Ex j)
 |none=>none
@[go_sem] def adb(e sz ty i j:Nat)(es:List D):L_ ⟨e,1,sz,ty,es⟩ e i j=Ma es[i]? j:=by
 unfold L_ Ma;cases es[i]?<;>simp[Xw,lv2]
@[go_sem] def aan(d:D)(j:Nat):Ma (some d) j=if d.pure then some (.cG d j)else some (.cG d.Ex j):=ay
@[go_sem] def ahx:Bx.none.ep=0:=ay
def oH(b:Bx)(e sz o n:Nat):Option D:=if b.ep=e/\lv b.k/\b.sz=sz/\o+n<=b.es.length then
 (if D.aF ((b.es.drop o).take n)then some (.sl sz ((b.es.drop o).take n))else none)else none
@[go_sem] def ma(t e sz o n:Nat):bD bx (.bp t e sz o n)=oH (bx t) e sz o n:=by simp only[bD,oH]
def ej(e k sz ty n:Nat)(es:List D)(hk:lv k)(hn:n=es.length)(hp:D.aF es=true):oH ⟨e,k,sz,ty,es⟩ e sz 0 n=some (.sl sz es):=by simp[oH,hk,hn,hp]
def BG(b:Bx)(e i j n:Nat):Option D:=if b.ep=e/\lv b.k then match b.es[i]? with
 |some d=>if j+n<=d.cells.length/\D.aF ((d.cells.drop j).take n)=true/\((d.cells.drop j).take n).all D.one=true then some (.sl 1 ((d.cells.drop j).take n))else none
 |none=>none
 else none
@[go_sem] def agj(k:IntKind)(n:Int):D.pure (.int k n)=true:=by simp[D.pure]
@[go_sem] def adg(b:Bool):D.pure (.bool b)=true:=by simp[D.pure]
@[go_sem] def agk(b:List UInt8):D.pure (.str b)=true:=by simp[D.pure]
@[go_sem] def aar:D.pure .aq=true:=by simp[D.pure]
@[go_sem] def ahI(sz:Nat)(es:List D):D.pure (.sl sz es)=true:=by simp[D.pure]
@[go_sem] def adh(d:D)(j:Nat):D.pure (.cG d j)=true:=by simp[D.pure]
@[go_sem] def agi(ds:List D):D.pure (.agg ds)=D.aF ds:=by simp only[D.pure]
@[go_sem] def ahH(f:Fn)(ds:List D):D.pure (.fn f ds)=D.aF ds:=by simp only[D.pure]
@[go_sem] def adf:D.aF []=true:=by simp[D.aF]
@[go_sem] def aaq(d:D)(ds:List D):D.aF (d::ds)=(d.pure&&D.aF ds):=by simp only[D.aF]
theorem rV{α:Type}(f:α->D)(l:List α)(h:∀x,(f x).pure=true):D.aF (l.map f)=true:=by
 induction l with
 |nil=>simp[D.aF]
 |cons x l ih=>simp[D.aF,h,ih]
variable {full rest:List Oper} {acc:List Cl} {K:List Cl->Env->ae->Prop} {dst:Option Tmp} {ty:TypeId} {pos:String} {af:Array Edge} {g:Option (Nat×Bool)} {K1:Cl->Env->ae->Prop}
@[go_sem ↓] def af2:po P C full [] acc σ bx K=K acc σ bx:=ay
@[go_sem ↓] def ac4(op:Op):po P C full (⟨dst,op,ty,pos,af,none⟩::rest) acc σ bx K=
 bq P C ⟨dst,op,ty,pos,af,none⟩ σ bx fun c σ' bx'=>jt c (K (c::acc) σ' bx') (po P C full rest (c::acc) σ' bx' K):=ay
@[go_sem] def ahq(want:Bool)(x y:Prop):gK none want x y=y:=by simp[gK]
@[go_sem] def ahr(b:Bool)(x y:Prop):gK (some b) true x y=iE b x y:=by cases b<;>simp[gK,iE]
@[go_sem] def aeF(b:Bool)(x y:Prop):gK (some b) false x y=iE b y x:=by cases b<;>simp[gK,iE]
@[go_sem ↓] def ac5(op:Op)(j:Nat)(want:Bool):po P C full (⟨dst,op,ty,pos,af,some (j,want)⟩::rest) acc σ bx K=
 aM (pX full[j]? σ) fun g=>gK g want (bq P C ⟨dst,op,ty,pos,af,some (j,want)⟩ σ bx fun c σ' bx'=>jt c (K (c::acc) σ' bx') (po P C full rest (c::acc) σ' bx' K))
  (po P C full rest (.n::acc) (put σ dst (.raw undef)) bx K):=ay
@[go_sem] def YU(b:Bool):vQ (.bool b)=some (some b):=ay
@[go_sem] def VP:vQ (.raw undef)=some none:=by simp[vQ,undef]
@[go_sem] def YT(op:Op)(d:Nat):pX (some ⟨some d,op,ty,pos,af,g⟩) σ=vQ (σ d):=ay
@[go_sem] def adx(t e i j:Nat):oe (.loc t e i j)= .r t:=ay
@[go_sem] def aaI(d:D)(j:Nat):oe (.cG d j)= .n:=ay
@[go_sem] def ady(t e i j:Nat):lJ (.loc t e i j)= .w t:=ay
section
variable (o:gO) (tab:List (Nat×List (Nat×Nat))) (base bk lo:Nat) (yl:Option (List (List D)×Nat×Nat)) (pn df:Bool)
@[go_sem] def ag_:(Calc.mk o tab base bk lo yl pn df).pn=pn:=ay
@[go_sem] def aei:(Calc.mk o tab base bk lo yl pn df).tab=tab:=ay
@[go_sem] def abj:(Calc.mk o tab base bk lo yl pn df).base=base:=ay
@[go_sem] def ag9:(Calc.mk o tab base bk lo yl pn df).lo=lo:=ay
@[go_sem] def aeh:(Calc.mk o tab base bk lo yl pn df).AJ=⟨⟨o.to,fun _ _ _ _ _ _=>False,fun _ _ _ _=>False,fun _ _ _ _ _=>False⟩,tab,base,bk,lo,none,false,false⟩:=ay
end
@[go_sem] def agH(a c:Nat):(a+1<=a+2+c)=True:=by simp;omega
@[go_sem] def agI(a c:Nat):(a=a+1+c)=False:=by simp;omega
@[go_sem] def ahT(a:Nat):(a+1<=a)=False:=by simp
@[go_sem] def aaH(b d:Nat):ld b (some d)=some (b+d):=ay
@[go_sem] def acZ(id:Nat):n9 [] id=[]:=ay
@[go_sem] def aai(k id:Nat)(ps:List (Nat×Nat))(r:List (Nat×List (Nat×Nat))):n9 ((k,ps)::r) id=if k=id then ps else n9 r id:=ay
@[go_sem] def aha(acc:List Cl):EG [] acc=True:=ay
@[go_sem] def aem(i j:Nat)(ps:List (Nat×Nat))(acc:List Cl):EG ((i,j)::ps) acc=(Cf acc[i]? acc[j]?/\EG ps acc):=ay
@[go_sem] def YD(a b:Cl):Cf (some a) (some b)=apart a b:=ay
@[go_sem] def adV(b:Cl):apart .n b=True:=Eq.trans (by cases b<;>rfl) rfl
@[go_sem] def adW(b:Cl):apart b .n=True:=Eq.trans (by cases b<;>rfl) rfl
@[go_sem] def adX(s t:Nat):apart (.r s) (.r t)=True:=ay
@[go_sem] def adY(s t:Nat):apart (.r s) (.w t)=¬s=t:=ay
@[go_sem] def adZ(s t:Nat):apart (.w s) (.w t)=¬s=t:=ay
attribute [go_sem] not_false_eq_true
@[go_sem ↓] def agm(d:Nat)(v:D):put σ (some d) v=aj σ d v:=ay
@[go_sem ↓] def agl(v:D):put σ none v=σ:=ay
@[go_sem ↓] def aij(t:Nat):ev σ (.tmp t)=σ t:=ay
@[go_sem ↓] def aey(v:Value):ev σ (.const v)=x_ v:=ay
@[go_sem ↓] def ahn(f:Nat):ev σ (.func f)= .fn (.func f) []:=ay
@[go_sem] def ahy(k:IntKind)(n:Int):x_ (.int k n)= .int k n:=ay
@[go_sem] def afU(b:Bool):x_ (.bool b)= .bool b:=ay
@[go_sem] def aal(l:List UInt8):x_ (.string ⟨l.toArray⟩)= .str l:=ay
@[go_sem] def ahz:x_ (.slice none 0 0)= .aq:=ay
@[go_sem] def YP(x y:Prop):Cu .ic x y=(x/\y):=ay
@[go_sem] def ad8(ti:TI)(op:BinOp)(x:D):lY ti op x .aq=Ed ti op x:=by cases x<;>rfl
@[go_sem] def aak(e sz b size:Nat)(g ag:Bool)(z:List D)(op:BinOp)(x:D):Ed ⟨.slice e sz b g,size,ag,z⟩ op x=zj op x:=ay
@[go_sem] def ahw(sz:Nat)(es:List D):zj .eql (.sl sz es)=some (if es.isEmpty then .ic else .bool false):=ay
@[go_sem] def afY(t e:Nat):D.one (.omap t e)=true:=ay
@[go_sem] def acS(s:List UInt8):mV .str (.str s)=true:=ay
@[go_sem] def acR(k:IntKind)(n:Int):mV (.int k) (.int k n)=true:=by simp[mV]
@[go_sem] def afH(t:Nat)(c:Int)(es:List D):C_ t (.int .i64 c::es)=some (t,c,es):=ay
@[go_sem] def acP(t m k:Nat)(s l:Int)(es:List D):y9 t (.omap m k:: .int .i64 s:: .int .i64 l::es)=some (t,.omap m k,s,l,es):=ay
def LY(t e:Nat)(b:Bx):Option (Nat×Int×List D):=if b.ep=e/\b.k=3 then C_ t b.es else none
@[go_sem] def afG(t e:Nat):iZ bx (.omap t e)=LY t e (bx t):=ay
@[go_sem] def afF(t e sz ty:Nat)(es:List D):LY t e ⟨e,3,sz,ty,es⟩=C_ t es:=by simp[LY]
def HE(t e:Nat)(b:Bx):Option (Nat×D×Int×Int×List D):=if b.ep=e/\b.k=3 then y9 t b.es else none
@[go_sem] def acO(t e:Nat):iterAt bx (.loc t e 0 0)=HE t e (bx t):=ay
@[go_sem] def acN(t e sz ty:Nat)(es:List D):HE t e ⟨e,3,sz,ty,es⟩=y9 t es:=by simp[HE]
@[go_sem] def acY(T:TypeId->TI)(kt et size:Nat)(ag ok:Bool)(z:List D)(m k:D):sV P T ⟨.map kt et,size,ag,z⟩ bx m k ok=if mV (T kt).k k=true then(iZ bx m).bind fun r=>sk (zeroV P et) ok (ff (T kt).k k r.2.2 0)else none:=ay
@[go_sem] def adP(Z:Option D)(i:Nat)(v:D):sk Z true (some (some (i,v)))=some (.aI [v,.bool true]):=ay
@[go_sem] def aaW(Z:Option D)(i:Nat)(v:D):sk Z false (some (some (i,v)))=some v:=ay
@[go_sem] def adO(Z:Option D):sk Z true (some none)=Z.map fun z=> .aI [z,.bool false]:=ay
@[go_sem] def aaV(Z:Option D):sk Z false (some none)=Z:=by cases Z<;>rfl
@[go_sem] def aaG(t e:Nat):xH (.omap t e)= .r t:=ay
@[go_sem] def agV(T:TypeId->TI)(kt et size:Nat)(ag:Bool)(z:List D)(m k v:D):zV T ⟨.map kt et,size,ag,z⟩ bx m k v=if mV (T kt).k k=true then(if v.simple=true then((iZ bx m).bind fun r=>(oI (T kt).k k v r.2.1 r.2.2).map (fR bx r.1))else none)else none:=by simp only[zV,qS]
@[go_sem] def aev(T:TypeId->TI)(kt et size:Nat)(ag:Bool)(z:List D)(m k:D):Lh T ⟨.map kt et,size,ag,z⟩ bx m k=if mV (T kt).k k=true then(iZ bx m).bind fun r=>(GK (T kt).k k r.2.1 r.2.2).map (fR bx r.1)else none:=ay
@[go_sem] def aaA(k:IntKind)(n:Int):D.simple (.int k n)=true:=ay
@[go_sem] def Y8(b:Bool):D.simple (.bool b)=true:=ay
@[go_sem] def aaz(ds:List D):D.simple (.agg ds)=D.pP ds:=ay
@[go_sem] def Y7:D.pP []=true:=ay
@[go_sem] def Yi(d:D)(ds:List D):D.pP (d::ds)=(d.simple&&D.pP ds):=ay
@[go_sem] def afv(m:D):Bz bx [m]=(iZ bx m).map fun r=> .int .i64 (r.2.2.length:Int):=ay
@[go_sem] def agz(kt et size:Nat)(ag:Bool)(z:List D)(x:D):BT ⟨.map kt et,size,ag,z⟩ bx x=(iZ bx x).map fun r=>[x,.int .i64 r.2.1,.int .i64 r.2.1]:=ay
@[go_sem ↓] def Zf(T:Nat)(m k:Operand)(ok:Bool):bq P C ⟨dst,.lookup T m k ok,ty,pos,af,g⟩ σ bx K1=aM (sV P (an P) (an P T) bx (ev σ m) (ev σ k) ok) fun v=>aM (some (xH (ev σ m))) fun c=>K1 c (put σ dst v) bx:=ay
@[go_sem ↓] def Yp(T d:Nat):bq P C ⟨some d,.makeMap T none,ty,pos,af,g⟩ σ bx K1=(C.lo=0/\aM (some (C.base+d)) fun s=>K1 .wa (aj σ d (.omap s ((bx s).ep+1))) (aj bx s ⟨(bx s).ep+1,3,0,T,[.int .i64 0]⟩)):=by simp[bq,fE,o8,iB,kS,aM]
@[go_sem ↓] def Us(T:Nat)(m k v:Operand):bq P C ⟨dst,.mapUpdate T m k v,ty,pos,af,g⟩ σ bx K1=(C.lo=0/\aM (zV (an P) (an P T) bx (ev σ m) (ev σ k) (ev σ v)) fun bx'=>K1 .wa (put σ dst (.raw undef)) bx'):=by simp[bq,fE,o8,iB,kS,aM]
@[go_sem ↓] def aaP(T d:Nat)(x:Operand):bq P C ⟨some d,.range T x,ty,pos,af,g⟩ σ bx K1=(C.lo=0/\aM (BT (an P T) bx (ev σ x)) fun es=>K1 .wa (aj σ d (.loc (C.base+d) ((bx (C.base+d)).ep+1) 0 0)) (aj bx (C.base+d) ⟨(bx (C.base+d)).ep+1,3,0,0,es⟩)):=by simp[bq,fE,o8,iB,kS,aM]
@[go_sem ↓] def adE(it:Operand):bq P C ⟨dst,.next it false,ty,pos,af,g⟩ σ bx K1=(C.pn=true/\C.lo=0/\xe bx (ev σ it) fun v bx'=>K1 .wa (put σ dst v) bx'):=by simp[bq,fE,o8,iB,kS]
@[go_sem ↓] def aaM(it:Operand):bq P C ⟨dst,.entry it,ty,pos,af,g⟩ σ bx K1=(C.lo=0/\aM (tN bx (ev σ it)) fun v=>K1 .wa (put σ dst v) bx):=by simp[bq,fE,o8,iB,kS,aM]
@[go_sem ↓] def adB(T T':Nat)(x y:Operand):bq P C ⟨dst,.call {callee:=.builtin .copy,args:= #[x,y],argTypes:= #[T,T']},ty,pos,af,g⟩ σ bx K1=(C.lo=0/\aM (wN C.lo (an P T) (an P T') bx (ev σ x) (ev σ y)) fun r=>K1 .wa (put σ dst (.int .i64 (r.1:Int))) r.2):=by simp[bq,fE,o8,iB,kS,aM,yx,wN]
@[go_sem ↓] def Zd(T T':Nat)(x y:Operand):bq P C ⟨dst,.call {callee:=.builtin .delete,args:= #[x,y],argTypes:= #[T,T']},ty,pos,af,g⟩ σ bx K1=(C.lo=0/\aM (Lh (an P) (an P T) bx (ev σ x) (ev σ y)) fun bx'=>K1 .wa (put σ dst (.raw (.tuple #[]))) bx'):=by simp[bq,fE,o8,iB,kS,aM,Af]
@[go_sem ↓] def Ze(x:Operand)(name:String)(args:List Operand)(ts:Array TypeId):bq P C ⟨dst,.call {callee:=.invoke x name,args:=args.toArray,argTypes:=ts},ty,pos,af,g⟩ σ bx K1=o6 P C (ev σ x) name (args.map (ev σ)) bx fun c d bx'=>K1 c (put σ dst d) bx':=ay
@[go_sem] def acI(t:TypeId)(d:D)(name:String)(ds:List D)(K:Cl->D->ae->Prop):o6 P C (.dI t d) name ds bx K=aM (sW P t name) fun f=>fD C f (d::ds) bx K:=ay
@[go_sem ↓] def Ta(T d:Nat)(l c:Operand):bq P C ⟨some d,.makeSlice T l c,ty,pos,af,g⟩ σ bx K1=aM (u6 (an P) (an P T) (ev σ l) (ev σ c)) fun r=>K1 (.w (C.base+d)) (aj σ d (.bp (C.base+d) ((bx (C.base+d)).ep+1) r.1 0 r.2.2.length)) (aj bx (C.base+d) ⟨(bx (C.base+d)).ep+1,1,r.1,r.2.1,r.2.2⟩):=ay
@[go_sem] def afP(T:TypeId->TI)(el esz bytes size:Nat)(g ag:Bool)(z:List D)(k k':IntKind)(n m:Int)(h1:0<esz)(h2:0<bytes):u6 T ⟨.slice el esz bytes g,size,ag,z⟩ (.int k n) (.int k' m)=if 0<=n then(if n<=m then(if m * bytes<=140737488355328 then(if(T el).size=esz then(jb (T el)).map fun z=>(esz,el,List.replicate n.toNat z)else none)else none)else none)else none:=by simp only[u6,h1,h2,true_and,qS]
@[go_sem] def I_(n:Int)(es:List D):ji (.int .u8 n::es)=(ji es).map (UInt8.ofNat n.toNat::·):=ay
@[go_sem] def YQ(T:TypeId->TI)(e z0 b s s':Nat)(g0 g g':Bool)(z z':List D)(es:List D):re T ⟨.slice e z0 b g0,s,g,z⟩ ⟨.str,s',g',z'⟩ (.sl 1 es)=if(T e).k.qR=true then(ji es).map .str else none:=by simp[re]
@[go_sem] def aht:TK.qR (.int .u8)=true:=ay
@[go_sem ↓] def Y9(T d:Nat):bq P C ⟨some d,.alloc T,ty,pos,af,g⟩ σ bx K1=aM (yb (jb (an P T)) (sn (an P T) (zeroV P T))) fun z=>aM (some (an P T).size) fun s=>
 K1 (.w (C.base+d)) (aj σ d (.loc (C.base+d) ((bx (C.base+d)).ep+1) 0 0)) (aj bx (C.base+d) ⟨(bx (C.base+d)).ep+1,1,s,T,[z]⟩):=ay
@[go_sem ↓] def adz(T d:Nat)(x:Operand):bq P C ⟨some d,.box T x,ty,pos,af,g⟩ σ bx K1=aM (yo (an P T) (ev σ x)) fun v=>aM (some (an P T).size) fun s=>
 K1 (.w (C.base+d)) (aj σ d (.loc (C.base+d) ((bx (C.base+d)).ep+1) 0 0)) (aj bx (C.base+d) ⟨(bx (C.base+d)).ep+1,1,s,T,[v]⟩):=ay
@[go_sem] def af6(d:D)(b:Bool):yb (some d) b=some d:=ay
@[go_sem] def af5(b:Bool):yb none b=if b=true then some (.agg [])else none:=ay
@[go_sem] def af8(r:ae)(b:Bool)(a v:D):wm (some r) b bx a v=some r:=ay
@[go_sem] def af7(b:Bool)(t e i j:Nat)(v:D):wm none b bx (.loc t e i j) v=if b=true then(if v.cells=[]then some bx else none)else none:=by simp only[wm,qS]
@[go_sem] def aih(q:List Nat)(ag:Bool)(z:List D):sn ⟨.struct [] q,0,ag,z⟩ (some (.agg []))=true:=ay
@[go_sem] def agW(q:List Nat)(ag:Bool)(z:List D):jb ⟨.struct [] q,0,ag,z⟩=none:=by simp[jb]
@[go_sem] def abf(q:List Nat)(ag:Bool)(z:List D)(ps:List (Nat×D)):mi ⟨.struct [] q,0,ag,z⟩ ps=none:=by simp[mi]
@[go_sem] def adH(lo:Nat)(q:List Nat)(ag:Bool)(z:List D)(a v:D):gF lo ⟨.struct [] q,0,ag,z⟩ bx a v=none:=by unfold gF;cases a<;>simp
attribute [go_sem] List.isEmpty_nil Bool.true_and
@[go_sem] def agX(k:TK)(size:Nat)(ag:Bool)(z:List D)(h:0<size):jb ⟨k,size,ag,z⟩=if z.length=size then(if z.all D.one then(if ag then some (A4 ag z)else if size=1 then some (A4 ag z)else none)else none)else none:=by
 unfold jb;cases h2:z.all D.one<;>by_cases h1:z.length=size<;>by_cases h3:size=1<;>cases ag<;>simp_all
@[go_sem] def ag5(k:TK)(size:Nat)(ag:Bool)(z:List D)(v:D)(h:0<size):yo ⟨k,size,ag,z⟩ v=if v.cells.length=size then(if v.cells.all D.one then some v else none)else none:=by
 unfold yo;cases h2:v.cells.all D.one<;>by_cases h1:v.cells.length=size<;>simp_all
@[go_sem] def ahA(k:IntKind)(n:Int):D.one (.int k n)=true:=ay
@[go_sem] def afX(b:Bool):D.one (.bool b)=true:=ay
@[go_sem] def ahD(s:List UInt8):D.one (.str s)=true:=ay
@[go_sem] def ac3:D.one .aq=true:=ay
@[go_sem] def aj8(sz:Nat)(es:List D):D.one (.sl sz es)=true:=ay
@[go_sem] def ahC(t e sz o n:Nat):D.one (.bp t e sz o n)=true:=ay
@[go_sem] def ahB(t e i j:Nat):D.one (.loc t e i j)=true:=ay
@[go_sem] def aj7(f:Fn)(ds:List D):D.one (.fn f ds)=true:=ay
@[go_sem] def af1(x:Option Addr):D.one (.raw (.pointer x))=true:=ay
@[go_sem] def afZ:D.one (.raw .nilFunc)=true:=ay
@[go_sem] def af0(x:Option Nat):D.one (.raw (.map x))=true:=ay
@[go_sem] def all_nil{α:Type}(p:α->Bool):[].all p=true:=ay
@[go_sem] def all_cons{α:Type}(p:α->Bool)(x:α)(l:List α):(x::l).all p=(p x&&l.all p):=ay
attribute [go_sem] Bool.and_self Bool.and_true Bool.true_and Bool.and_false Bool.false_and true_and and_true
@[go_sem ↓] def Zb(T:Nat)(a x:Operand):bq P C ⟨dst,.store T a x,ty,pos,af,g⟩ σ bx K1=aM (wm (gF C.lo (an P T) bx (ev σ a) (ev σ x)) (sn (an P T) (zeroV P T)) bx (ev σ a) (ev σ x)) fun bx'=>aM (some (lJ (ev σ a))) fun c=>K1 c (put σ dst (.raw undef)) bx':=ay
@[go_sem ↓] def Ym(T T':Nat)(x y:Operand):bq P C ⟨dst,.call {callee:=.builtin .append,args:= #[x,y],argTypes:= #[T,T']},ty,pos,af,g⟩ σ bx K1=
 if FV C.tab dst=true then(C.pn=true/\aM (uH C.lo (an P) (an P T) T T' (ld C.base dst) bx (ev σ x) (ev σ y)) fun r=>K1 .wa (put σ dst r.1.1) r.1.2/\K1 .wa (put σ dst r.2.1) r.2.2)
 else aM (qJ C.lo (an P) T T' (ld C.base dst) bx (ev σ x) (ev σ y)) fun r=>K1 .wa (put σ dst r.1) r.2:=ay
@[go_sem] def Zm(tab:List (Nat×List (Nat×Nat)))(d:Tmp):FV tab (some d)=rl tab (2000000+d):=ay
@[go_sem] def YE(lo:Nat)(T:TypeId->TI)(e esz b size d:Nat)(ag ag':Bool)(z:List D)(x y:D)(t t':Nat)(h:0<esz):uH lo T ⟨.slice e esz b ag,size,ag',z⟩ t t' (some d) bx x y=if(T e).zero.length=esz then(pW T t t' esz e bx y).bind fun ys=>if ys=[]then IL x bx else vr lo d e esz b bx x ys else none:=by simp[uH,h]
@[go_sem] def YS(T:TypeId->TI)(t esz el:Nat)(y:D):pW T t t esz el bx y=gT bx esz y:=by simp[pW]
@[go_sem] def ZI(T:TypeId->TI)(t t' el:Nat)(s:List UInt8)(h:t≠t'):pW T t t' 1 el bx (.str s)=match(T t').k with| .str=>if(T el).k.qR=true then some (aB s)else none|_=>none:=by simp only[pW,if_neg h];cases(T t').k<;>simp
@[go_sem] def ahQ(sz:Nat)(es:List D):IL (.ij sz es) bx=some ((.sl sz es,bx),(.sl sz es,bx)):=ay
@[go_sem] def akk(sz:Nat)(es:List D):IL (.sl sz es) bx=some ((.sl sz es,bx),(.sl sz es,bx)):=ay
@[go_sem] def ahR:IL .aq bx=some ((.aq,bx),(.aq,bx)):=ay
@[go_sem] def ahS(t e sz o n:Nat):IL (.bp t e sz o n) bx=some ((.bp t e sz o n,bx),(.bp t e sz o n,bx)):=ay
@[go_sem] def ad1(lo d el esz b:Nat)(es ys:List D)(h1:0<esz)(h2:0<b)(h3:(es.length+ys.length) * b<=140737488355328):vr lo d el esz b bx (.ij esz es) ys=some ((.bp d ((bx d).ep+1) esz 0 (es.length+ys.length),aj bx d ⟨(bx d).ep+1,1,esz,el,es++ys⟩),(.bp d ((bx d).ep+1) esz 0 (es.length+ys.length),aj bx d ⟨(bx d).ep+1,1,esz,el,es++ys⟩)):=by simp[vr,h1,h2,h3]
@[go_sem] def YF{lo:Nat}{T:TypeId->TI}{e esz b size d:Nat}{ag ag':Bool}{z es:List D}{y:D}{ys:List D}(h1:0<esz)(h2:0<b)(h3:(es.length+(y::ys).length) * b<=140737488355328):
 fN lo T ⟨.slice e esz b ag,size,ag',z⟩ (some d) bx (.ij esz es) (y::ys)=if(T e).zero.length=esz then some (.bp d ((bx d).ep+1) esz 0 (es.length+(y::ys).length),aj bx d ⟨(bx d).ep+1,1,esz,e,es++(y::ys)⟩)else none:=by
 have G6:(es.length+(ys.length+1)) * b<=140737488355328:=by simpa using h3
 simp[fN,ph,h1,h2,G6]
@[go_sem] def aa7(lo:Nat)(T:TypeId->TI)(t:TypeId)(x y:D):qJ lo T t t dst bx x y=K3 lo T (T t) dst bx x y:=by simp only[qJ,if_true]
@[go_sem] def KZ(lo:Nat)(T:TypeId->TI)(t t':TypeId)(x y:D)(h:t≠t'):qJ lo T t t' dst bx x y=vt lo T (T t) (T t') dst bx x y:=by simp only[qJ,if_neg h]
@[go_sem] def Zo(lo:Nat)(T:TypeId->TI)(e esz b size d DH:Nat)(ag ag' Pq:Bool)(z z':List D)(k k2:IntKind)(x:D)(n:Int)(h0:0<=n)(h1:n<=140737488355328)(h2:0<esz)(h3:0<b):vt lo T ⟨.slice e esz b ag,size,ag',z⟩ ⟨.int k,DH,Pq,z'⟩ (some d) bx x (.int k2 n)=
 if(T e).zero.length=esz then(jb (T e)).bind fun z=>uI lo d e esz b bx x (List.replicate n.toNat z)else none:=by
 simp[vt,h0,h1,h2,h3]
@[go_sem] def ad2(lo:Nat)(T:TypeId->TI)(e b size d DH:Nat)(ag ag' Pq:Bool)(z z':List D)(x:D)(s:List UInt8):vt lo T ⟨.slice e 1 b ag,size,ag',z⟩ ⟨.str,DH,Pq,z'⟩ (some d) bx x (.str s)=
 if(T e).zero.length=1/\(T e).k.qR=true then fN lo T ⟨.slice e 1 b ag,size,ag',z⟩ (some d) bx x (aB s)else none:=by
 simp[vt]
@[go_sem] def aa8(lo d e esz b:Nat)(ys:List D):uI lo d e esz b bx .aq ys=if ys=[]then some (.aq,bx)else ph lo d e esz b bx .aq ys:=ay
@[go_sem] def Zn(lo:Nat)(T:TypeId->TI)(e esz b size:Nat)(ag ag':Bool)(z:List D)(x y:D):K3 lo T ⟨.slice e esz b ag,size,ag',z⟩ dst bx x y=if esz=0 then none else(gT bx esz y).bind fun ys=>fN lo T ⟨.slice e esz b ag,size,ag',z⟩ dst bx x ys:=ay
@[go_sem ↓] def aaJ(fo:Operand)(args:List Operand)(cA:Array TypeId):bq P C ⟨dst,.call {callee:=.value fo,args:=args.toArray,argTypes:=cA},ty,pos,af,g⟩ σ bx K1=
 l9 C (ev σ fo) (args.map (ev σ)) bx fun c d bx'=>K1 c (put σ dst d) bx':=by
 simp only[bq]
def av{f:Nat}{ds:List D}{K2:Cl->D->ae->Prop}{d:D}(h:C.o.to f ds d)(hp:D.aF ds=true)(hk:K2 .n d bx):fD C f ds bx K2:=.inl ⟨d,hp,h,hk⟩
def pA{f:Nat}{ds ds':List D}{K2:Cl->D->ae->Prop}{d:D}(h:C.o.to f ds' d)(ho:cY bx ds=some ds')(hb:d.bare=true)(hk:K2 .ra d bx):fD C f ds bx K2:=.inr (.inl ⟨ds',d,ho,h,hb,hk⟩)
def Px{f:Nat}{ds ds':List D}{K2:Cl->D->ae->Prop}{d:D}(h:C.o.to f ds' d)(ho:cY bx ds=some ds')(bH:C.lo=0)(hk:K2 .wa d (dX bx ds)):fD C f ds bx K2:=.inr (.inr (.inl ⟨ds',d,bH,ho,h,hk⟩))
def aC{f:Nat}{ds:List D}{K2:Cl->D->ae->Prop}{cI:D->ae->Prop}(h:C.o.ux f C.bk ds bx cI fun _ _=>False)(bH:C.lo=0)(hk:∀d bx',cI d bx'->K2 .wa d bx'):fD C f ds bx K2:=.inr (.inr (.inr ⟨cI,_,bH,h,fun d bx' hp=> .inl (hk d bx' hp),fun _ _ h=>h.elim⟩))
def tG{f:Nat}{ds:List D}{K2:Cl->D->ae->Prop}{cI Pan:D->ae->Prop}(h:C.o.ux f C.bk ds bx cI Pan)(bH:C.lo=0)(hk:∀d bx',cI d bx'->K2 .wa d bx')(hp:∀d bx',Pan d bx'->K2 (.cX d) .undef bx'):fD C f ds bx K2:=.inr (.inr (.inr ⟨cI,Pan,bH,h,fun d bx' hp=> .inl (hk d bx' hp),hp⟩))
def wJ{f:Nat}{ds:List D}{K2:Cl->D->ae->Prop}{cI Pan:D->ae->Prop}(h:C.o.ux f C.bk ds bx cI Pan)(bH:C.lo=0)(hk:∀d bx',cI d bx'->∃r r',bD bx' d=some r/\bN r r'/\K2 .wa r' (dX bx' [d]))(hp:∀d bx',Pan d bx'->K2 (.cX d) .undef bx'):fD C f ds bx K2:=.inr (.inr (.inr ⟨cI,Pan,bH,h,fun d bx' hp=> .inr (hk d bx' hp),hp⟩))
@[go_sem] def aap(a b:D):rn (.bool true) a b=some a:=by simp[rn]
@[go_sem] def Y0(a b:D):rn (.bool false) a b=some b:=by simp[rn]
@[go_sem] def agh(t a b:Bool):rn (.bool t) (.bool a) (.bool b)=some (.bool (if t then a else b)):=by cases t<;>simp[rn]
@[go_sem] def agf(t:TypeId)(v:D)(f:D->Prop):Ei (.dI t v) f=f (.dI t v):=ay
@[go_sem ↓] def Za(x:Operand):bq P C ⟨dst,.panic x,ty,pos,af,g⟩ σ bx K1=(C.pn=true/\Ei (ev σ x) fun d=>K1 (.cX d) σ bx):=ay
@[go_sem ↓] def adD(x:Operand):bq P C ⟨dst,.move x,ty,pos,af,g⟩ σ bx K1=aM (some (ev σ x)) fun v=>K1 .n (put σ dst v) bx:=ay
@[go_sem ↓] def Zc(x:Operand):bq P C ⟨dst,.assign x,ty,pos,af,g⟩ σ bx K1=aM (some (ev σ x)) fun v=>K1 .n (put σ dst v) bx:=ay
@[go_sem ↓] def adF(x y z:Operand):bq P C ⟨dst,.pick x y z,ty,pos,af,g⟩ σ bx K1=aM (rn (ev σ x) (ev σ y) (ev σ z)) fun v=>K1 .n (put σ dst v) bx:=ay
@[go_sem ↓] def aaK(op:BinOp)(t t':Nat)(x y:Operand):bq P C ⟨dst,.binOp op t x y t',ty,pos,af,g⟩ σ bx K1=aM (Bk (an P t) op (ev σ x) (ev σ y) (isNil y)) fun v=>K1 .n (put σ dst v) bx:=ay
@[go_sem ↓] def acM(t:Nat):isNil (.tmp t)=false:=ay
@[go_sem ↓] def acJ(k:IntKind)(n:Int):isNil (.const (.int k n))=false:=ay
@[go_sem ↓] def acL(s:ByteArray):isNil (.const (.string s))=false:=ay
@[go_sem ↓] def acK:isNil (.const .nilIface)=true:=ay
@[go_sem] def Zr(ti:TI)(op:BinOp)(x y:D):Bk ti op x y false=lY ti op x y:=ay
@[go_sem] def aeb(size:Nat)(ag:Bool)(z:List D)(x y:D):Bk ⟨.dI,size,ag,z⟩ .eql x y true=(zi x).map .bool:=ay
@[go_sem] def aec(size:Nat)(ag:Bool)(z:List D)(x y:D):Bk ⟨.dI,size,ag,z⟩ .neq x y true=(zi x).map fun b=> .bool (!b):=ay
@[go_sem] def afS(t:TypeId)(d:D):zi (.dI t d)=some false:=ay
@[go_sem] def afT:zi (.raw .nilIface)=some true:=ay
@[go_sem] def XJ:x_ .nilIface= .raw .nilIface:=ay
@[go_sem ↓] def O5(t:Nat)(x:Operand):bq P C ⟨dst,.makeInterface t x,ty,pos,af,g⟩ σ bx K1=aM (Da (an P t) t (ev σ x)) fun v=>K1 .n (put σ dst v) bx:=ay
@[go_sem ↓] def Tc(t t':Nat)(ok:Bool)(x:Operand):bq P C ⟨dst,.typeAssert x t' t ok,ty,pos,af,g⟩ σ bx K1=aM (DK (an P t) t ok (ev σ x)) fun v=>K1 .n (put σ dst v) bx:=ay
def TK.Lc:TK->Bool
 | .none| .dI=>false
 |_=>true
@[go_sem] def aen(k:IntKind):TK.Lc (.int k)=true:=ay
@[go_sem] def YO(fs:List (Nat×Nat×Bool))(eq:List Nat):TK.Lc (.struct fs eq)=true:=ay
@[go_sem] def afO(k:TK)(size:Nat)(ag:Bool)(z:List D)(t:TypeId)(x:D):Da ⟨k,size,ag,z⟩ t x=if k.Lc then some (.dI t x)else none:=by cases k<;>rfl
@[go_sem] def adJ(k:TK)(size:Nat)(ag:Bool)(z:List D)(t t':TypeId)(ok:Bool)(v:D):DK ⟨k,size,ag,z⟩ t ok (.dI t' v)=if k.Lc then(if t'=t then some (if ok then .aI [v,.bool true]else v)else if ok&& !z.isEmpty then some (.aI [.undef,.bool false])else none)else none:=by cases k<;>rfl
@[go_sem] def isEmpty_cons{α:Type}(x:α)(l:List α):(x::l).isEmpty=false:=ay
@[go_sem ↓] def adG(op:UnOp)(t:Nat)(x:Operand):bq P C ⟨dst,.unOp op t x,ty,pos,af,g⟩ σ bx K1=aM (IY op (ev σ x)) fun v=>K1 .n (put σ dst v) bx:=ay
@[go_sem ↓] def Uq(t i:Nat)(x:Operand):bq P C ⟨dst,.fieldAddr t x i,ty,pos,af,g⟩ σ bx K1=aM (nX (an P t) (ev σ x) i) fun v=>K1 .n (put σ dst v) bx:=ay
@[go_sem ↓] def aaN(t i:Nat)(x:Operand):bq P C ⟨dst,.field t x i,ty,pos,af,g⟩ σ bx K1=aM (yG (an P t) (ev σ x) i) fun v=>K1 .n (put σ dst v) bx:=ay
@[go_sem] def aa_(k:IntKind)(n:Int)(f:Int->Option D):oX (.int k n) f=f n:=ay
@[go_sem ↓] def Ur(t:Nat)(x y:Operand):bq P C ⟨dst,.indexAddr t x y,ty,pos,af,g⟩ σ bx K1=aM (oX (ev σ y) (fa (an P t) (ev σ x))) fun v=>K1 .n (put σ dst v) bx:=ay
@[go_sem ↓] def aaO(t:Nat)(x y:Operand):bq P C ⟨dst,.index t x y,ty,pos,af,g⟩ σ bx K1=aM (oX (ev σ y) (rN (an P t) (ev σ x))) fun v=>K1 .n (put σ dst v) bx:=ay
@[go_sem ↓] def adC(t:Nat)(x:Operand):bq P C ⟨dst,.load t x,ty,pos,af,g⟩ σ bx K1=aM (iH (an P t) bx (ev σ x)) fun v=>aM (some (oe (ev σ x))) fun c=>K1 c (put σ dst v) bx:=ay
@[go_sem] def abb(ds:List D)(i:Nat):FX (.aI ds) i=ds[i]?:=ay
@[go_sem ↓] def Yo(x:Operand)(i:Nat):bq P C ⟨dst,.extract x i,ty,pos,af,g⟩ σ bx K1=aM (FX (ev σ x) i) fun v=>K1 .n (put σ dst v) bx:=ay
@[go_sem] def ac9(a b:Option Int)(f:Option Int->Option Int->Option D):zq (some a) (some b) f=f a b:=ay
@[go_sem] def afm(k:IntKind)(n:Int):y7 (.int k n)=some (some n):=ay
@[go_sem] def YX:eY σ none=some none:=ay
@[go_sem] def YY(x:Operand):eY σ (some x)=y7 (ev σ x):=ay
@[go_sem ↓] def aaQ(t:Nat)(x:Operand)(lo hi:Option Operand):bq P C ⟨dst,.slice t x lo hi none,ty,pos,af,g⟩ σ bx K1=aM (zq (eY σ lo) (eY σ hi) (jY (an P t) (ev σ x))) fun v=>K1 .n (put σ dst v) bx:=ay
@[go_sem ↓] def Zg(t:Nat)(x m:Operand)(lo hi:Option Operand):bq P C ⟨dst,.slice t x lo hi (some m),ty,pos,af,g⟩ σ bx K1=aM (H9 (an P t) (ev σ x) (eY σ lo) (eY σ hi) (y7 (ev σ m))) fun v=>K1 .n (put σ dst v) bx:=ay
@[go_sem] def ac8(l:Option Int)(h m:Int)(x:D)(ti:TI):H9 ti x (some l) (some (some h)) (some (some m))=wu ti x l h m:=ay
@[go_sem] def aaB(e esz b size:Nat)(ag ag':Bool)(z:List D)(es:List D)(lo:Option Int)(h:Int)(hz:0<esz):wu ⟨.slice e esz b ag,size,ag',z⟩ (.sl esz es) lo h h=(dV es.length lo (some h)).map fun p=> .ij esz ((es.drop p.1).take (p.2 - p.1)):=by simp[wu,hz]
@[go_sem ↓] def aaL(t:Nat)(ps:List (Nat×Operand)):bq P C ⟨dst,.build t ps.toArray,ty,pos,af,g⟩ σ bx K1=aM (yb (mi (an P t) (ps.map fun p=>(p.1,ev σ p.2))) (ps.isEmpty&&sn (an P t) (zeroV P t))) fun v=>K1 .n (put σ dst v) bx:=ay
@[go_sem ↓] def Tb(t n d:Nat)(ps:List (Nat×Operand)):bq P C ⟨some d,.buildSlice t n ps.toArray,ty,pos,af,g⟩ σ bx K1=if rl C.tab d=true then(aM (uZ (an P) (an P t) n (ps.map fun p=>(p.1,ev σ p.2))) fun r=>K1 (.w (C.base+d)) (aj σ d (.bp (C.base+d) ((bx (C.base+d)).ep+1) r.1 0 r.2.2.length)) (aj bx (C.base+d) ⟨(bx (C.base+d)).ep+1,1,r.1,r.2.1,r.2.2⟩))else aM (mB (an P) (an P t) n (ps.map fun p=>(p.1,ev σ p.2))) fun v=>K1 .n (put σ (some d) v) bx:=ay
@[go_sem] def acW(d:Nat):rl [] d=false:=ay
@[go_sem] def aag(k d:Nat)(l:List (Nat×Nat))(r:List (Nat×List (Nat×Nat))):rl ((k,l)::r) d=if k=1000000+d then true else rl r d:=ay
attribute [go_sem] Bool.false_eq_true
@[go_sem] def afR(t e i j:Nat):HS (.loc t e i j)=some (.loc t e i j):=ay
@[go_sem ↓] def UR(x:Operand):bq P C ⟨dst,.nilCheck x,ty,pos,af,g⟩ σ bx K1=aM (HS (ev σ x)) fun v=>K1 .n (put σ dst v) bx:=ay
@[go_sem ↓] def UQ(f:Fn)(caps:List Operand):bq P C ⟨dst,.makeFunc f #[] caps.toArray,ty,pos,af,g⟩ σ bx K1=aM (some (.fn f (caps.map (ev σ)))) fun v=>K1 .n (put σ dst v) bx:=ay
@[go_sem ↓] def Yn(s d:Nat)(x:Operand):bq P C ⟨dst,.convert s d x,ty,pos,af,g⟩ σ bx K1=aM (re (an P) (an P s) (an P d) (ev σ x)) fun v=>K1 .n (put σ dst v) bx:=ay
def HK(C:Calc)(ti:TI)(x:D)(bx:ae)(K:Cl->D->Prop)(_:Tok (K .n .undef):=⟨⟩):Prop:=match ti.k with
 | .map _ _=>C.pn=true/\C.lo=0/\aM (Bz bx [x]) (K .wa)
 |_=>aM (mQ .len [ti] [x]) (K .n)
@[go_sem ↓] def agJ(T:Nat)(x:Operand):bq P C ⟨dst,.call {callee:=.builtin .len,args:= #[x],argTypes:= #[T]},ty,pos,af,g⟩ σ bx K1=HK C (an P T) (ev σ x) bx fun c v=>K1 c (put σ dst v) bx:=by
 simp only[bq,fE,o8,HK,iB,cT,mC,List.map_nil];cases(an P T).k<;>simp[TK.isMap,kS]
section
variable (size:Nat) (ag:Bool) (z:List D) (x:D) (K:Cl->D->Prop)
@[go_sem] def afx:HK C ⟨.str,size,ag,z⟩ x bx K=aM (mQ .len [⟨.str,size,ag,z⟩] [x]) fun v=>K .n v:=ay
@[go_sem] def aaf(e sz b:Nat)(g:Bool):HK C ⟨.slice e sz b g,size,ag,z⟩ x bx K=aM (mQ .len [⟨.slice e sz b g,size,ag,z⟩] [x]) fun v=>K .n v:=ay
@[go_sem] def afw(kt et:Nat):HK C ⟨.map kt et,size,ag,z⟩ x bx K=(C.pn=true/\C.lo=0/\aM (Bz bx [x]) fun v=>K .wa v):=ay
end
@[go_sem ↓] def agL(ts:Array TypeId)(x:List Operand):bq P C ⟨dst,.call {callee:=.builtin .min,args:=x.toArray,argTypes:=ts},ty,pos,af,g⟩ σ bx K1=aM (minD (x.map (ev σ))) fun v=>K1 .n (put σ dst v) bx:=ay
@[go_sem ↓] def agK(ts:Array TypeId)(x:List Operand):bq P C ⟨dst,.call {callee:=.builtin .max,args:=x.toArray,argTypes:=ts},ty,pos,af,g⟩ σ bx K1=aM (maxD (x.map (ev σ))) fun v=>K1 .n (put σ dst v) bx:=ay
@[go_sem ↓] def aaX(x:Operand):cT P σ bx (.assign x)=some (ev σ x):=ay
@[go_sem ↓] def adQ(op:BinOp)(t t':Nat)(x y:Operand):cT P σ bx (.binOp op t x y t')=Bk (an P t) op (ev σ x) (ev σ y) (isNil y):=ay
@[go_sem ↓] def UT(t i:Nat)(x:Operand):cT P σ bx (.fieldAddr t x i)=nX (an P t) (ev σ x) i:=ay
@[go_sem ↓] def UU(t:Nat)(x y:Operand):cT P σ bx (.indexAddr t x y)=oX (ev σ y) (fa (an P t) (ev σ x)):=ay
@[go_sem ↓] def adS(t:Nat)(x:Operand)(lo hi:Option Operand):cT P σ bx (.slice t x lo hi none)=zq (eY σ lo) (eY σ hi) (jY (an P t) (ev σ x)):=ay
@[go_sem ↓] def adR(t:Nat)(ps:List (Nat×Operand)):cT P σ bx (.build t ps.toArray)=yb (mi (an P t) (ps.map fun p=>(p.1,ev σ p.2))) (ps.isEmpty&&sn (an P t) (zeroV P t)):=ay
@[go_sem ↓] def Ys(x:Operand):cT P σ bx (.nilCheck x)=HS (ev σ x):=ay
@[go_sem ↓] def Zi(s d:Nat)(x:Operand):cT P σ bx (.convert s d x)=re (an P) (an P s) (an P d) (ev σ x):=ay
variable {ti:TI}
@[go_sem] def ad7(op:BinOp)(k:IntKind)(a b:Int):lY ti op (.int k a) (.int k b)=km op k a b:=by simp[lY]
@[go_sem] def aea(op:BinOp)(a b:List UInt8):lY ti op (.str a) (.str b)=zR op a b:=by simp[lY]
@[go_sem] def ae_(k:IntKind)(a b:Int):km .add k a b=some (.int k (k.wrap (a+b))):=ay
@[go_sem] def afk(k:IntKind)(a b:Int):km .sub k a b=some (.int k (k.wrap (a - b))):=ay
@[go_sem] def afg(k:IntKind)(a b:Int):km .mul k a b=some (.int k (k.wrap (a * b))):=ay
@[go_sem] def afi(k:IntKind)(a b:Int)(h:b≠0):km .quo k a b=some (.int k (k.wrap (a.tdiv b))):=by simp[km,h]
@[go_sem] def afj(k:IntKind)(a b:Int)(h:b≠0):km .rem k a b=some (.int k (a.tmod b)):=by simp[km,h]
@[go_sem] def afb(k:IntKind)(a b:Int):km .eql k a b=some (.bool (decide (a=b))):=by simp[km,Lb];rfl
@[go_sem] def afh(k:IntKind)(a b:Int):km .neq k a b=some (.bool (!decide (a=b))):=by simp[km,Lb,bne];rfl
@[go_sem] def aff(k:IntKind)(a b:Int):km .lss k a b=some (.bool (decide (a<b))):=ay
@[go_sem] def afe(k:IntKind)(a b:Int):km .leq k a b=some (.bool (decide (a<=b))):=ay
@[go_sem] def afd(k:IntKind)(a b:Int):km .gtr k a b=some (.bool (decide (b<a))):=ay
@[go_sem] def afc(k:IntKind)(a b:Int):km .geq k a b=some (.bool (decide (b<=a))):=ay
@[go_sem] def agM(a b:List UInt8):zR .eql a b=some (.bool (decide (a=b))):=by by_cases h:a=b<;>simp[zR,h]
@[go_sem] def agN(a b:List UInt8):zR .neq a b=some (.bool (!decide (a=b))):=by by_cases h:a=b<;>simp[zR,h]
@[go_sem] def Vn(a b:List D):lY ti .neq (.agg a) (.agg b)=(EP ti (.agg a) (.agg b)).map fun x=> .bool (!x):=ay
@[go_sem] def UJ(size:Nat)(ag:Bool)(z:List D)(a b:Bool):lY ⟨.bool,size,ag,z⟩ .eql (.bool a) (.bool b)=some (.bool (a==b)):=ay
@[go_sem] def UK(size:Nat)(ag:Bool)(z:List D)(a b:Bool):lY ⟨.bool,size,ag,z⟩ .neq (.bool a) (.bool b)=some (.bool (!(a==b))):=ay
@[go_sem] def ahj(fs:List (Nat×Nat×Bool))(k:Nat)(ks:List Nat)(size:Nat)(ag:Bool)(z a b:List D):EP ⟨.struct fs (k::ks),size,ag,z⟩ (.agg a) (.agg b)=if ct (k::ks) a then jm a b else Gb k ks a b:=ay
@[go_sem] def acT(ks:List Nat)(ds:List D):ct (0::ks) ds=false:=by cases ds<;>simp[ct]
@[go_sem] def YW:ct [] []=true:=by simp[ct]
@[go_sem] def acU(ks:List Nat)(k:IntKind)(n:Int)(ds:List D):ct (2::ks) (.int k n::ds)=ct ks ds:=by simp[ct]
@[go_sem] def acV(ks:List Nat)(s:List UInt8)(ds:List D):ct (3::ks) (.str s::ds)=ct ks ds:=by simp[ct]
def Gl(a:Bool)(x:Option Bool):Option Bool:=x.map fun b=>a&&b
@[go_sem] def aa6(a b:Bool):Gl a (some b)=some (a&&b):=ay
@[go_sem] def ahl:jm [] []=some true:=by simp[jm]
@[go_sem] def ahk(k:IntKind)(m n:Int)(xs ys:List D):jm (.int k m::xs) (.int k n::ys)=Gl (decide (m=n)) (jm xs ys):=by
 simp only[jm,uM,if_true,Gl];by_cases h:m=n
 ·subst h;cases jm xs ys<;>simp
 ·have:(m==n)=false:=by simp[h]
  simp only[this,h,decide_false];cases jm xs ys<;>simp
@[go_sem] def ahm(m n:List UInt8)(xs ys:List D):jm (.str m::xs) (.str n::ys)=Gl (decide (m=n)) (jm xs ys):=by
 simp only[jm,uM,Gl];by_cases h:m=n
 ·subst h;cases jm xs ys<;>simp
 ·have:(m==n)=false:=by simp[h]
  simp only[this,h,decide_false];cases jm xs ys<;>simp
@[go_sem] def afa(k:IntKind)(a b:Int):km .and k a b=some (.int k (du .and k a b)):=ay
@[go_sem] def ahs(k:IntKind)(a b:Int):km .or k a b=some (.int k (du .or k a b)):=ay
@[go_sem] def afl(k:IntKind)(a b:Int):km .xor k a b=some (.int k (du .xor k a b)):=ay
@[go_sem ↓] def ad9(k k':IntKind)(a b:Int):lY ti .shl (.int k a) (.int k' b)=zL .shl k a b:=by simp only[lY];split<;>rfl
@[go_sem ↓] def ad_(k k':IntKind)(a b:Int):lY ti .shr (.int k a) (.int k' b)=zL .shr k a b:=by simp only[lY];split<;>rfl
@[go_sem] def ahO(k:IntKind)(a b:Int)(h:0<=b):zL .shl k a b=some (.int k (k.wrap (a * 2 ^ (min b.toNat k.bits)))):=by unfold zL;rw[if_neg oM]
@[go_sem] def ahP(k:IntKind)(a b:Int)(h:0<=b):zL .shr k a b=some (.int k (a.fdiv (2 ^ (min b.toNat k.bits)))):=by unfold zL;rw[if_neg oM]
@[go_sem] def ahW(k:IntKind)(n:Int):IY .xor (.int k n)=some (.int k (du .xor k (if k.signed then -1 else k.max) n)):=ay
@[go_sem] def ahV(b:Bool):IY .not (.bool b)=some (.bool (!b)):=ay
@[go_sem] def ahU(k:IntKind)(n:Int):IY .neg (.int k n)=some (.int k (k.wrap (0 - n))):=ay
def wrap_i64{n:Int}(h1: -9223372036854775808<=n)(h2:n<=9223372036854775807):IntKind.i64.wrap n=n:=IntWalk.i64_in n ⟨by omega,by omega⟩
@[go_sem] def aay(t e i j o:Nat):k_ (.loc t e i j) o=some (.loc t e i (j+o)):=ay
@[go_sem] def Y6(d:D)(j o:Nat):k_ (.cG d j) o=some (.cG d (j+o)):=ay
def VI(x:D):Option (Nat×Nat×Bool)->Option D
 |some (off,sz,_)=>if sz=0 then none else k_ x off
 |none=>none
@[go_sem] def abI(x:D)(off sz:Nat)(b:Bool):VI x (some (off,sz,b))=if sz=0 then none else k_ x off:=ay
@[go_sem] def Pj(fs:List (Nat×Nat×Bool))(eq:List Nat)(size:Nat)(ag:Bool)(z:List D)(x:D)(i:Nat):nX ⟨.struct fs eq,size,ag,z⟩ x i=VI x fs[i]?:=ay
def VJ(ds:List D):Option (Nat×Nat×Bool)->Option D
 |some (off,sz,ag)=>if sz=0 then none else jA (.agg ds) off ag sz
 |none=>none
@[go_sem] def abJ(x:List D)(off sz:Nat)(b:Bool):VJ x (some (off,sz,b))=if sz=0 then none else jA (.agg x) off b sz:=ay
@[go_sem] def UM(fs:List (Nat×Nat×Bool))(eq:List Nat)(size:Nat)(ag:Bool)(z:List D)(ds:List D)(i:Nat):yG ⟨.struct fs eq,size,ag,z⟩ (.agg ds) i=VJ ds fs[i]?:=ay
@[go_sem] def YZ(d:D)(j k:Nat):jA d j false k=d.cells[j]?:=by simp[jA]
@[go_sem] def aao(d:D)(j k:Nat):jA d j true k=if j+k<=d.cells.length then some (.agg ((d.cells.drop j).take k))else none:=by simp[jA]
@[go_sem] def abk(ds:List D):(D.agg ds).cells=ds:=ay
@[go_sem] def abl(k:IntKind)(n:Int):(D.int k n).cells=[.int k n]:=ay
@[go_sem] def ZB(b:Bool):(D.bool b).cells=[.bool b]:=ay
@[go_sem] def abo(s:List UInt8):(D.str s).cells=[.str s]:=ay
@[go_sem] def YN:D.aq.cells=[.aq]:=ay
@[go_sem] def ael(sz:Nat)(es:List D):(D.sl sz es).cells=[.sl sz es]:=ay
@[go_sem] def abn(t e sz o n:Nat):(D.bp t e sz o n).cells=[.bp t e sz o n]:=ay
@[go_sem] def abm(t e i j:Nat):(D.loc t e i j).cells=[.loc t e i j]:=ay
@[go_sem] def aek(f:Fn)(ds:List D):(D.fn f ds).cells=[.fn f ds]:=ay
@[go_sem] def UN(e esz b size:Nat)(ag ag':Bool)(z:List D)(es:List D)(n:Int)(h:0<=n)(h2:0<esz):fa ⟨.slice e esz b ag,size,ag',z⟩ (.sl esz es) n=(es[n.toNat]?).map fun d=> .cG d 0:=by simp[fa,h,h2]
@[go_sem] def TW(e esz b size:Nat)(ag ag':Bool)(z:List D)(t e' o len:Nat)(n:Int)(h:0<=n)(h':n<len)(h2:0<esz):fa ⟨.slice e esz b ag,size,ag',z⟩ (.bp t e' esz o len) n=some (.loc t e' (o+n.toNat) 0):=by simp[fa,h,h',h2]
@[go_sem] def aab(size:Nat)(ag:Bool)(z:List D)(s:List UInt8)(n:Int)(h:0<=n):rN ⟨.str,size,ag,z⟩ (.str s) n=(s[n.toNat]?).map fun b=> .int .u8 (b.toNat:Int):=by simp[rN,h]
@[go_sem] def aah(k:TK)(size:Nat)(ag:Bool)(z:List D)(d:D)(j:Nat)(h:0<size):iH ⟨k,size,ag,z⟩ bx (.cG d j)=jA d j ag size:=by simp[iH,h]
def K7(b:Bx)(e i:Nat)(f:D->Option D):Option D:=if b.ep=e/\lv b.k then(b.es[i]?).bind f else none
@[go_sem] def acX(k:TK)(size:Nat)(ag:Bool)(z:List D)(t e i j:Nat)(h:0<size):iH ⟨k,size,ag,z⟩ bx (.loc t e i j)=K7 (bx t) e i fun d=>jA d j ag size:=by simp[iH,K7,h]
@[go_sem] def abi(e sz ty i:Nat)(es:List D)(f:D->Option D):K7 ⟨e,1,sz,ty,es⟩ e i f=(es[i]?).bind f:=by simp[K7,Xw,lv2]
@[go_sem] def aaR(lo:Nat)(k:TK)(size:Nat)(ag:Bool)(z:List D)(t e i j:Nat)(v:D)(h:0<size):gF lo ⟨k,size,ag,z⟩ bx (.loc t e i j) v=if lo<=t then(if v.cells.length=size then(if v.cells.all D.one then wI bx t (bx t) e i j v.cells else none)else none)else none:=by
 unfold gF;cases h2:v.cells.all D.one<;>by_cases h1:v.cells.length=size<;>by_cases h3:lo<=t<;>simp_all
def Ck(bx:ae)(t e sz ty i:Nat)(es:List D)(x:Option D):Option ae:=x.map fun d'=>aj bx t ⟨e,1,sz,ty,es.set i d'⟩
@[go_sem] def Zy(t e sz ty i j:Nat)(es cs:List D):wI bx t ⟨e,1,sz,ty,es⟩ e i j cs=Ck bx t e sz ty i es ((es[i]?).bind fun d0=>fl d0 j cs):=by
 simp only[wI,Ck];cases es[i]?<;>simp
@[go_sem] def YJ(t e sz ty i:Nat)(es:List D)(d':D):Ck bx t e sz ty i es (some d')=some (aj bx t ⟨e,1,sz,ty,es.set i d'⟩):=by simp[Ck]
@[go_sem] def agE(ds cs:List D)(j:Nat):fl (.agg ds) j cs=if j+cs.length<=ds.length then some (.agg (ds.take j++cs++ds.drop (j+cs.length)))else none:=by simp[fl,D.cells]
@[go_sem] def agF(k:IntKind)(n:Int)(c:D):fl (.int k n) 0 [c]=some c:=by simp[fl,D.cells]
@[go_sem] def adu(b:Bool)(c:D):fl (.bool b) 0 [c]=some c:=by simp[fl,D.cells]
@[go_sem] def IJ(s:List UInt8)(c:D):fl (.str s) 0 [c]=some c:=by simp[fl,D.cells]
@[go_sem] def agG(x:Value)(c:D):fl (.raw x) 0 [c]=some c:=by simp[fl,D.cells]
@[go_sem] def aax(c:D):fl .aq 0 [c]=some c:=by simp[fl,D.cells]
@[go_sem] def ahM(sz:Nat)(es:List D)(c:D):fl (.sl sz es) 0 [c]=some c:=by simp[fl,D.cells]
@[go_sem] def afN(cs:List D):A4 true cs= .agg cs:=by simp[A4]
@[go_sem] def ac2(c:D)(cs:List D):A4 false (c::cs)=c:=by simp[A4]
@[go_sem] def ag3(e sz b size:Nat)(g ag:Bool)(z:List D):mQ .cap [⟨.slice e sz b g,size,ag,z⟩] [.aq]=some (.int .i64 0):=ay
@[go_sem] def aaD(e esz b size:Nat)(ag ag':Bool)(z:List D)(lo hi:Option Int)(hz:0<esz):jY ⟨.slice e esz b ag,size,ag',z⟩ .aq lo hi=(dV 0 lo hi).map fun _=> .aq:=by simp[jY,hz]
@[go_sem] def ag4(ti:TI)(x:D):mQ .len [ti] [x]=(ua ti.k x).map fun n:Nat=>D.int .i64 (n:Int):=ay
@[go_sem] def afu(s:List UInt8):ua .str (.str s)=some s.length:=ay
@[go_sem] def ahu(e z b:Nat)(ag:Bool)(sz:Nat)(es:List D):ua (.slice e z b ag) (.sl sz es)=some es.length:=ay
@[go_sem] def afs(e z b:Nat)(ag:Bool):ua (.slice e z b ag) .aq=some 0:=ay
@[go_sem] def aft(e z b:Nat)(ag:Bool)(t e' sz o n:Nat):ua (.slice e z b ag) (.bp t e' sz o n)=some n:=ay
@[go_sem] def afJ(k:IntKind)(a b:Int):minD [.int k a,.int k b]=some (.int k (min a b)):=by
 simp only[minD,if_true]
 congr 2
 split<;>omega
def HP(k:IntKind)(a b:Int):xd (.int k a) (.int k b)=some (.int k (max a b)):=by
 simp only[xd,if_true]
 congr 2
 split<;>omega
@[go_sem] def afI(k:IntKind)(a b:Int):maxD [.int k a,.int k b]=some (.int k (max a b)):=HP k a b
@[go_sem] def ac1(k:IntKind)(a b c:Int):maxD [.int k a,.int k b,.int k c]=some (.int k (max (max a b) c)):=by simp only[maxD,HP,Option.bind_some]
@[go_sem] def abu(T:TypeId->TI)(k k':IntKind)(s s':Nat)(g g':Bool)(z z':List D)(k0:IntKind)(n:Int):re T ⟨.int k0,s,g,z⟩ ⟨.int k,s',g',z'⟩ (.int k' n)=some (.int k (k.wrap n)):=ay
@[go_sem] def adw(e esz b size:Nat)(ag ag':Bool)(z:List D)(es:List D)(lo hi:Option Int)(hz:0<esz):jY ⟨.slice e esz b ag,size,ag',z⟩ (.sl esz es) lo hi=(dV es.length lo hi).map fun p=> .sl esz ((es.drop p.1).take (p.2 - p.1)):=by simp[jY,hz]
@[go_sem] def aaE(e esz b size:Nat)(ag ag':Bool)(z:List D)(t e' o n:Nat)(lo hi:Option Int)(hz:0<esz):jY ⟨.slice e esz b ag,size,ag',z⟩ (.bp t e' esz o n) lo hi=(dV n lo hi).map fun p=> .bp t e' esz (o+p.1) (p.2 - p.1):=by simp[jY,hz]
@[go_sem] def aaa(len esz size:Nat)(ag ag':Bool)(z ds:List D)(n:Int)(h0:0<=n)(h1:n<(len:Int))(hz:0<esz):rN ⟨.arr len esz ag,size,ag',z⟩ (.agg ds) n=jA (.agg ds) (n.toNat * esz) ag esz:=by simp[rN,h0,h1,hz]
@[go_sem] def aaC(m size:Nat)(ag ag':Bool)(z:List D)(t e i j:Nat)(lo hi:Option Int)(h:m<=65536):jY ⟨.arr m 1 ag,size,ag',z⟩ (.loc t e i j) lo hi=(dV m lo hi).map fun p=> .fJ t e i (j+p.1) (p.2 - p.1):=by simp[jY,h]
@[go_sem] def afr(e z b:Nat)(ag:Bool)(t e' i j n:Nat):ua (.slice e z b ag) (.fJ t e' i j n)=some n:=ay
@[go_sem] def afq(e z b:Nat)(ag:Bool)(sz:Nat)(es:List D):ua (.slice e z b ag) (.ij sz es)=some es.length:=ay
@[go_sem] def TV(e b size:Nat)(ag ag':Bool)(z:List D)(t e' i j len:Nat)(n:Int)(h:0<=n)(h':n<len):fa ⟨.slice e 1 b ag,size,ag',z⟩ (.fJ t e' i j len) n=some (.loc t e' i (j+n.toNat)):=by simp[fa,h,h']
@[go_sem] def af_(t e i j n:Nat):bD bx (.fJ t e i j n)=BG (bx t) e i j n:=by simp only[bD,BG]
@[go_sem] def aaF(size:Nat)(ag:Bool)(z:List D)(s:List UInt8)(lo hi:Option Int):jY ⟨.str,size,ag,z⟩ (.str s) lo hi=(dV s.length lo hi).map fun p=> .str ((s.drop p.1).take (p.2 - p.1)):=by simp[jY]
@[go_sem] def ahg(len:Nat)(h:Int)(h0:0<=h)(h1:h<=len):dV len none (some h)=some (0,h.toNat):=by simp[dV,h0,h1]
@[go_sem] def ahh(len:Nat)(l:Int)(h0:0<=l)(h1:l<=len):dV len (some l) none=some (l.toNat,len):=by simp[dV,h0,h1]
@[go_sem] def abz(len:Nat)(l h:Int)(h0:0<=l)(h1:l<=h)(h2:h<=len):dV len (some l) (some h)=some (l.toNat,h.toNat):=by simp[dV,h0,h1,h2]
def Lp(b:Bx):Bx:={b with k:=if b.k=1 then 2 else b.k}
@[go_sem] def aez(e sz ty:Nat)(es:List D):Lp ⟨e,1,sz,ty,es⟩=⟨e,2,sz,ty,es⟩:=by simp[Lp]
@[go_sem] def aeE:dX bx []=bx:=by simp[dX]
@[go_sem] def abK(d:D)(ds:List D):dX bx (d::ds)=dX (ey bx d) ds:=by simp[dX]
@[go_sem] def aeC(t e sz o n:Nat):ey bx (.bp t e sz o n)=aj bx t (Lp (bx t)):=by simp[ey,Lp]
@[go_sem] def aeA(ds:List D):ey bx (.agg ds)=dX bx ds:=by simp[ey]
@[go_sem] def aeB(k:IntKind)(n:Int):ey bx (.int k n)=bx:=by simp[ey]
@[go_sem] def aeD(x:List UInt8):ey bx (.str x)=bx:=by simp[ey]
@[go_sem] def ZO:ey bx .aq=bx:=by simp[ey]
@[go_sem] def aer(lo e e' aex b b' size DH:Nat)(ag ag2 ag' adU:Bool)(z z':List D)(x y:D):wN lo ⟨.slice e 1 b ag,size,ag2,z⟩ ⟨.slice e' aex b' ag',DH,adU,z'⟩ bx x y=(gT bx 1 y).bind fun ys=>if ys.all D.one=true then wO lo bx x ys else none:=by simp[wN]
def F1(bx:ae)(t e o n:Nat)(ys:List D)(b:Bx):Option (Nat×ae):=if b.ep=e/\b.k=1/\b.sz=1/\o+n<=b.es.length then
 some (min ys.length n,aj bx t {b with es:=b.es.take o++ys.take n++b.es.drop (o+min ys.length n)})else none
@[go_sem] def aby(t e o n:Nat)(ys:List D):wO 0 bx (.bp t e 1 o n) ys=F1 bx t e o n ys (bx t):=by simp[wO,F1]
@[go_sem] def abv(t e o n ty:Nat)(ys es:List D)(h:o+n<=es.length):F1 bx t e o n ys ⟨e,1,1,ty,es⟩=some (min ys.length n,aj bx t ⟨e,1,1,ty,es.take o++ys.take n++es.drop (o+min ys.length n)⟩):=by simp[F1,h]
def F3(bx:ae)(t e i j n:Nat)(ys:List D)(b:Bx):Option (Nat×ae):=if b.ep=e/\b.k=1 then match b.es[i]? with
 |some d=>(fl d j (ys.take n)).map fun d'=>(min ys.length n,aj bx t {b with es:=b.es.set i d'})
 |none=>none
 else none
@[go_sem] def abx(t e i j n:Nat)(ys:List D):wO 0 bx (.fJ t e i j n) ys=F3 bx t e i j n ys (bx t):=by simp[wO,F3]
@[go_sem] def abw(t e i j n sz ty:Nat)(ys es:List D):F3 bx t e i j n ys ⟨e,1,sz,ty,es⟩=(es[i]?).bind fun d=>(fl d j (ys.take n)).map fun d'=>(min ys.length n,aj bx t ⟨e,1,sz,ty,es.set i d'⟩):=by simp only[F3];cases es[i]?<;>simp
@[go_sem] def abF(esz:Nat)(es:List D):gT bx esz (.sl esz es)=some es:=by simp[gT]
@[go_sem] def abg(fs:List (Nat×Nat×Bool))(eq:List Nat)(size:Nat)(ag:Bool)(z:List D)(ps:List (Nat×D))(h:0<size):mi ⟨.struct fs eq,size,ag,z⟩ ps=if z.length=size then(if fs.all (fun f=>decide (0<f.2.1))=true then(jh fs z ps).map .agg else none)else none:=by simp only[mi,h,true_and,qS]
@[go_sem] def Zv(n esz:Nat)(eag:Bool)(size:Nat)(ag:Bool)(z:List D)(ps:List (Nat×D))(h:0<size)(h2:0<esz):mi ⟨.arr n esz eag,size,ag,z⟩ ps=if z.length=size then(jh ((List.range n).map fun i=>(i * esz,esz,eag)) z ps).map .agg else none:=by simp only[mi,h,h2,and_true]
def Pu(fs:List (Nat×Nat×Bool))(cs:List D)(d:D)(ps:List (Nat×D)):Option (Nat×Nat×Bool)->Option (List D)
 |some (off,sz,_)=>if d.cells.length=sz then(if off+sz<=cs.length then(if d.cells.all D.one then jh fs (cs.take off++d.cells++cs.drop (off+sz)) ps else none)else none)else none
 |none=>none
@[go_sem] def Zw(fs:List (Nat×Nat×Bool))(cs:List D):jh fs cs []=some cs:=ay
@[go_sem] theorem YI(fs:List (Nat×Nat×Bool))(cs:List D)(i:Nat)(d:D)(ps:List (Nat×D)):jh fs cs ((i,d)::ps)=Pu fs cs d ps fs[i]?:=by
 simp only[jh,Pu];cases fs[i]? with
 |none=>rfl
 |some x=>
  obtain⟨off,sz,g⟩:=x;simp only;cases h2:d.cells.all D.one<;>by_cases h1:d.cells.length=sz<;>by_cases h3:off+sz<=cs.length<;>simp_all
@[go_sem] def abe(fs:List (Nat×Nat×Bool))(cs:List D)(d:D)(ps:List (Nat×D))(off sz:Nat)(g:Bool):Pu fs cs d ps (some (off,sz,g))=if d.cells.length=sz then(if off+sz<=cs.length then(if d.cells.all D.one then jh fs (cs.take off++d.cells++cs.drop (off+sz)) ps else none)else none)else none:=ay
@[go_sem] def To(T:TypeId->TI)(e esz b size:Nat)(ag ag':Bool)(z:List D)(len:Nat)(ps:List (Nat×D))(h3:0<esz)(h4:len * esz<=65536):mB T ⟨.slice e esz b ag,size,ag',z⟩ len ps=if ps.map (·.1)=List.range len then(if ps.all (fun p=>p.2.cells.length==esz&&p.2.cells.all D.one&&p.2.pure)=true then(if(T e).zero.length=esz then some (.sl esz (ps.map (·.2)))else none)else none)else none:=by simp only[mB,h3,h4,true_and,qS]
@[go_sem] def afA(T:TypeId->TI)(e esz b size:Nat)(ag ag':Bool)(z:List D)(len:Nat)(ps:List (Nat×D))(h3:0<esz)(h4:len * esz<=65536):uZ T ⟨.slice e esz b ag,size,ag',z⟩ len ps=if ps.map (·.1)=List.range len then(if ps.all (fun p=>p.2.cells.length==esz&&p.2.cells.all D.one)=true then(if(T e).zero.length=esz then some (esz,e,ps.map (·.2))else none)else none)else none:=by simp only[uZ,h3,h4,true_and,qS]
@[go_sem] def ahJ:List.range 0=[]:=ay
attribute [go_sem] beq_self_eq_true
def aS(bx:ae)(ts:List Nat)(el esz:Nat)(x:D)(xs:List D):Prop:=
 (x= .aq/\xs=[])\/∃t e,t∈ts/\x= .bp t e esz 0 xs.length/\bx t=⟨e,1,esz,el,xs⟩
theorem aS.nil(bx:ae)(ts:List Nat)(el esz:Nat):aS bx ts el esz .aq []:=.inl ⟨rfl,rfl⟩
theorem aS.mk{bx:ae}{ts:List Nat}{el esz t e:Nat}{xs:List D}(ht:t∈ts)(h:bx t=⟨e,1,esz,el,xs⟩):aS bx ts el esz (.bp t e esz 0 xs.length) xs:=.inr ⟨t,e,ht,rfl,h⟩
theorem aS.of{bx bx':ae}{ts:List Nat}{el esz:Nat}{x:D}{xs:List D}(h:aS bx ts el esz x xs)(hb:∀t,t∈ts->bx' t=bx t):aS bx' ts el esz x xs:=by
 rcases h with h|⟨t,e,ht,hx,h⟩
 ·exact .inl h
 ·exact .inr ⟨t,e,ht,hx,by rw[hb t ht];exact h⟩
theorem aS.len{bx:ae}{ts:List Nat}{el esz:Nat}{x:D}{xs:List D}(h:aS bx ts el esz x xs)(e b:Nat)(ag:Bool):ua (.slice e esz b ag) x=some xs.length:=by rcases h with⟨rfl,rfl⟩|⟨t,e',_,rfl,_⟩<;>rfl
def eJ{lo:Nat}{T:TypeId->TI}{e esz b size d:Nat}{ag ag':Bool}{z:List D}{x:D}{xs ys:List D}{ts:List Nat}{K2:D×ae->Prop}(hx:aS bx ts e esz x xs)(bw:ys≠[])(hz:(T e).zero.length=esz)
 (h1:(xs.length+ys.length) * b<=140737488355328) (h2:0<esz) (h3:0<b) (bH:∀t,t∈ts->lo<=t)
 (hk:∀(e':Nat) (bx':ae),bx' d=⟨e',1,esz,e,xs++ys⟩->(∀s,s≠d->s∉ts->bx' s=bx s)->K2 (.bp d e' esz 0 (xs++ys).length,bx')):
 aM (fN lo T ⟨.slice e esz b ag,size,ag',z⟩ (some d) bx x ys) K2:=by
 rcases hx with⟨rfl,rfl⟩|⟨t,e',ht,rfl,hb⟩
 ·simp only[fN,bw,if_false,hz,if_true,ph];rw[if_pos ⟨by simpa using h1,h2,h3⟩,nV];have:=hk ((bx d).ep+1) (aj bx d ⟨(bx d).ep+1,1,esz,e,ys⟩) (by simp[aj]) (fun s hs _=>by simp[aj,hs]);simpa using this
 ·simp only[fN,bw,if_false,hz,if_true,ph,DY,hb];rw[if_pos ⟨bH t ht,trivial,trivial,trivial,trivial,trivial,trivial,Nat.le_refl _,h1,h2,h3⟩,nV];have:=hk ((bx d).ep+1) (aj (aj bx t ⟨e',0,esz,e,xs⟩) d ⟨(bx d).ep+1,1,esz,e,xs++ys⟩) (by simp[aj]) (fun s hs bz=>by
   have:s≠t:=by rintro rfl;exact bz ht
   simp[aj,hs,this])
  simpa using this
def iD{lo:Nat}{T:TypeId->TI}{e esz b size d:Nat}{ag ag':Bool}{z:List D}{x:D}{xs:List D}{ts:List Nat}{K2:D×ae->Prop}(hx:aS bx ts e esz x xs)(hk:K2 (x,bx)):
 aM (fN lo T ⟨.slice e esz b ag,size,ag',z⟩ (some d) bx x []) K2:=by
 rcases hx with⟨rfl,rfl⟩|⟨t,e',ht,rfl,hb⟩<;>simpa[fN,S8,nV]using hk
end Go.V
namespace Go.V
open Go.RowKit
structure Place where
 b:Nat
 cap:Nat
 sz:Nat
 ty:TypeId
structure cQ where
 at_:Nat->Nat->Option Place
 hold:Nat->Option Obj
instance:CoeFun cQ (fun _=>Nat->Nat->Option Place):=⟨cQ.at_⟩
def Obj.nv:Obj->Bool
 | .cells ..=>true
 |_=>false
def mO(w w':World)(b:Nat):Prop:=∀o,w.heap[b]? =some o->Obj.nv o=true->w'.heap[b]? =some o
theorem mO.of_eq{w w':World}{b:Nat}(h:w'.heap[b]? =w.heap[b]?):mO w w' b:=fun _ ho _=>h.trans ho
theorem mO.cell{w w':World}{b o:Nat}{v:Value}(h:mO w w' b)(hc:w.cell? ⟨b,o,none⟩=some v):w'.cell? ⟨b,o,none⟩=some v:=by
 unfold World.cell? at hc⊢;split at hc
 ·rename_i hb;have:=h _ hb rfl;simp only at this hb⊢;rw[this];exact hc
 ·cases hc
inductive bB(w:World)(S:Nat->Prop):D->Value->Prop where
 |undef (v:Value):bB w S .undef v
 |any (ds:List D) (v:Value):bB w S (.any ds) v
 |fK (v:Value) (h:∀b d,Bt b=some d->bB w S (.cG d 0) (.pointer (some ⟨b,0,none⟩))) (hc:∀b cs,Ls b=some cs->S b/\∃ty sp,w.heap[b]? =some (.cells cs ty sp)):bB w S .fK v
 |int (k:IntKind) (n:Int):bB w S (.int k n) (.int k n)
 |bool (b:Bool):bB w S (.bool b) (.bool b)
 |str (l:List UInt8):bB w S (.str l) (.string ⟨l.toArray⟩)
 |raw (x:Value):bB w S (.raw x) x
 |aq:bB w S .aq (.slice none 0 0)
 |agg {ds:List D} {vs:Array Value} (hl:vs.size=ds.length) (h:∀(i:Nat) d v,ds[i]? =some d->vs[i]? =some v->bB w S d v):bB w S (.agg ds) (.agg vs)
 |aI {ds:List D} {vs:Array Value} (hl:vs.size=ds.length) (h:∀(i:Nat) d v,ds[i]? =some d->vs[i]? =some v->bB w S d v):bB w S (.aI ds) (.tuple vs)
 |sl {sz:Nat} {es:List D} {A:Option Addr} {n cap b off:Nat} {us:Nat->Nat->Value} (hn:n=es.length) (dK:n<=cap) (jd:cap<=maxLen) (hA:es≠[]->A=some ⟨b,off,none⟩/\S b)
  (bP:∀(i:Nat) d,es[i]? =some d->d.cells.length=sz)
  (hc:∀(i:Nat) d (j:Nat) c,es[i]? =some d->d.cells[j]? =some c->w.cell? ⟨b,off+i * sz+j,none⟩=some (us i j))
  (h1:∀(i:Nat) d (j:Nat) c,es[i]? =some d->d.cells[j]? =some c->(us i j).oneCell'=true)
  (hr:∀(i:Nat) d (j:Nat) c,es[i]? =some d->d.cells[j]? =some c->bB w S c (us i j)):bB w S (.sl sz es) (.slice A n cap)
 |ij {sz:Nat} {es:List D} {A:Option Addr} {n:Nat} (h:bB w S (.sl sz es) (.slice A n n)):bB w S (.ij sz es) (.slice A n n)
 |cG {d:D} {j b off p:Nat} {us:Nat->Value} (hS:S b) (hp:p=off+j)
  (hc:∀(m:Nat) c,d.cells[m]? =some c->w.cell? ⟨b,off+m,none⟩=some (us m))
  (h1:∀(m:Nat) c,d.cells[m]? =some c->(us m).oneCell'=true)
  (hr:∀(m:Nat) c,d.cells[m]? =some c->bB w S c (us m)):bB w S (.cG d j) (.pointer (some ⟨b,p,none⟩))
 |fn {f:Fn} {caps:List D} {vs:Array Value} (hl:vs.size=caps.length) (h:∀(i:Nat) d v,caps[i]? =some d->vs[i]? =some v->bB w S d v):bB w S (.fn f caps) (.func f #[] vs)
 |iC {f:FuncId} {caps:List D} {vs:Array Value} (hl:vs.size=caps.length) (h:∀(i:Nat) d v,caps[i]? =some d->vs[i]? =some v->bB w S d v):bB w S (.iC f caps) (.func (.func f) vs #[])
 |dI {t:TypeId} {d:D} {v:Value} (h:bB w S d v):bB w S (.dI t d) (.iface t v)
 |ic (b:Bool):bB w S .ic (.bool b)
theorem bB.fg{w w':World}{S S':Nat->Prop}{d:D}{v:Value}(h:bB w S d v)(hw:∀b,S b->mO w w' b)(hS:∀b,S b->S' b):bB w' S' d v:=by
 induction h with
 |undef v=>exact .undef v
 |any ds v=>exact .any ds v
 |fK v _ hc ih=>exact .fK v ih fun b cs h=>let ⟨h1,ty,sp,h2⟩:=hc b cs h;⟨hS b h1,ty,sp,hw b h1 _ h2 rfl⟩
 |int k n=>exact .int k n
 |bool b=>exact .bool b
 |ic b=>exact .ic b
 |str l=>exact .str l
 |raw x=>exact .raw x
 |aq=>exact .aq
 |agg hl _ ih=>exact .agg hl ih
 |aI hl _ ih=>exact .aI hl ih
 |@sl sz es A n cap b off us hn dK jd hA bP hc h1 _ ih=>
  refine .sl (b:=b) (off:=off) (us:=us) hn dK jd (fun bw=>⟨(hA bw).1,hS _ (hA bw).2⟩) bP (fun i d j c hi hj=>?_) h1 ih;have bw:es≠[]:=by rintro rfl;simp at hi
  exact(hw b (hA bw).2).cell (hc i d j c hi hj)
 |ij _ ih=>exact .ij ih
 |@cG d j b off p us hb hp hc h1 _ ih=>
  refine .cG (us:=us) (hS _ hb) hp (fun m c hm=>?_) h1 ih;exact(hw b hb).cell (hc m c hm)
 |fn hl _ ih=>exact .fn hl ih
 |iC hl _ ih=>exact .iC hl ih
 |dI _ ih=>exact .dI ih
theorem bB.rT{w:World}{S:Nat->Prop}{sz:Nat}{es:List D}{v:Value}(h:bB w S (.ij sz es) v):bB w S (.sl sz es) v:=by cases h;assumption
theorem bB.vM{w:World}{S:Nat->Prop}{sz:Nat}{es:List D}{v:Value}(h:bB w S (.ij sz es) v):∃A,v= .slice A es.length es.length:=by
 cases h with
 |ij h=>cases h with|sl hn=>subst hn;exact⟨_,rfl⟩
theorem bB.mono{w w':World}{S S':Nat->Prop}{d:D}{v:Value}(h:bB w S d v)(hw:∀b,S b->w'.heap[b]? =w.heap[b]?)(hS:∀b,S b->S' b):bB w' S' d v:=
 h.fg (fun b hb=> .of_eq (hw b hb)) hS
inductive aJ(w:World)(S:Nat->Prop)(ρ:cQ):D->Value->Prop where
 |pure {d:D} {v:Value} (h:bB w S d v):aJ w S ρ d v
 |loc {t e i j q:Nat} {p:Place} (hp:ρ t e=some p) (hq:q=i * p.sz+j):aJ w S ρ (.loc t e i j) (.pointer (some ⟨p.b,q,none⟩))
 |bp {t e sz o n off cap:Nat} {p:Place} (hp:ρ t e=some p) (bP:p.sz=sz) (h0:o=0->off=0/\cap=p.cap) (dY:0<cap->off=o * sz) (hn:n<=cap) (dK:o+cap<=p.cap/\p.cap<=maxLen):
  aJ w S ρ (.bp t e sz o n) (.slice (some ⟨p.b,off,none⟩) n cap)
 |fJ {t e i j n off cap:Nat} {p:Place} (hp:ρ t e=some p) (dY:0<cap->off=i * p.sz+j) (hn:n<=cap) (dK:cap<=65536):aJ w S ρ (.fJ t e i j n) (.slice (some ⟨p.b,off,none⟩) n cap)
 |omap {t e:Nat} {p:Place} (hp:ρ t e=some p):aJ w S ρ (.omap t e) (.map (some p.b))
 |agg {ds:List D} {vs:Array Value} (hl:vs.size=ds.length) (h:∀(i:Nat) d v,ds[i]? =some d->vs[i]? =some v->aJ w S ρ d v):aJ w S ρ (.agg ds) (.agg vs)
 |aI {ds:List D} {vs:Array Value} (hl:vs.size=ds.length) (h:∀(i:Nat) d v,ds[i]? =some d->vs[i]? =some v->aJ w S ρ d v):aJ w S ρ (.aI ds) (.tuple vs)
 |fn {f:Fn} {caps:List D} {vs:Array Value} (hl:vs.size=caps.length) (h:∀(i:Nat) d v,caps[i]? =some d->vs[i]? =some v->aJ w S ρ d v):aJ w S ρ (.fn f caps) (.func f #[] vs)
 |iC {f:FuncId} {caps:List D} {vs:Array Value} (hl:vs.size=caps.length) (h:∀(i:Nat) d v,caps[i]? =some d->vs[i]? =some v->aJ w S ρ d v):aJ w S ρ (.iC f caps) (.func (.func f) vs #[])
 |dI {t:TypeId} {d:D} {v:Value} (h:aJ w S ρ d v):aJ w S ρ (.dI t d) (.iface t v)
theorem aJ.fg{w w':World}{S S':Nat->Prop}{ρ ρ':cQ}{d:D}{v:Value}(h:aJ w S ρ d v)(hw:∀b,S b->mO w w' b)(hS:∀b,S b->S' b)(hρ:∀t e p,ρ t e=some p->ρ' t e=some p):aJ w' S' ρ' d v:=by
 induction h with
 |pure h=>exact .pure (h.fg hw hS)
 |loc hp hq=>exact .loc (hρ _ _ _ hp) hq
 |bp hp bP h0 dY hn dK=>exact .bp (hρ _ _ _ hp) bP h0 dY hn dK
 |fJ hp dY hn dK=>exact .fJ (hρ _ _ _ hp) dY hn dK
 |omap hp=>exact .omap (hρ _ _ _ hp)
 |agg hl _ ih=>exact .agg hl ih
 |aI hl _ ih=>exact .aI hl ih
 |fn hl _ ih=>exact .fn hl ih
 |iC hl _ ih=>exact .iC hl ih
 |dI _ ih=>exact .dI ih
theorem aJ.mono{w w':World}{S S':Nat->Prop}{ρ ρ':cQ}{d:D}{v:Value}(h:aJ w S ρ d v)(hw:∀b,S b->w'.heap[b]? =w.heap[b]?)(hS:∀b,S b->S' b)(hρ:∀t e p,ρ t e=some p->ρ' t e=some p):aJ w' S' ρ' d v:=
 h.fg (fun b hb=> .of_eq (hw b hb)) hS hρ
section
variable {w:World} {S:Nat->Prop} {ρ:cQ} {d:D} {v:Value}
theorem aJ.one(h:aJ w S ρ d v)(ho:d.one=true):v.oneCell'=true:=by
 cases h with
 |pure h=>cases h<;>first|rfl|(simp[D.one]at ho;done)|exact ho
 |agg=>simp[D.one]at ho
 |aI=>simp[D.one]at ho
 |_=>rfl
def Nf{v:Value}(h:v.oneCell'=true):v.cells= #[v]:=by cases v<;>first|rfl|(simp[Value.oneCell']at h)
def gk{d:D}(h:d.one=true):d.cells=[d]:=by cases d<;>first|rfl|(simp[D.one]at h)
theorem aJ.cells(h:aJ w S ρ d v)(ho:d.cells.all D.one=true):v.cells.size=d.cells.length/\∀(j:Nat) c,d.cells[j]? =some c->∃u,v.cells[j]? =some u/\aJ w S ρ c u/\u.oneCell'=true:=by
 have agg:∀(ds:List D) (vs:Array Value),vs.size=ds.length->(∀(i:Nat) d v,ds[i]? =some d->vs[i]? =some v->aJ w S ρ d v)->ds.all D.one=true->
  (Value.agg vs).cells.size=(D.agg ds).cells.length/\∀(j:Nat) c,(D.agg ds).cells[j]? =some c->∃u,(Value.agg vs).cells[j]? =some u/\aJ w S ρ c u/\u.oneCell'=true:=by
  intro ds vs hl h ho;refine⟨hl,fun j c hj=>?_⟩;have pE:j<ds.length:=(gS.1 hj).1;have hv:vs[j]? =some vs[j]:=Array.getElem?_eq_getElem oM;have hr:=h j c _ hj hv;exact⟨_,hv,hr,hr.one (List.all_eq_true.1 ho _ (mG hj))⟩
 have single:d.one=true->d.cells=[d]->v.cells.size=d.cells.length/\∀(j:Nat) c,d.cells[j]? =some c->∃u,v.cells[j]? =some u/\aJ w S ρ c u/\u.oneCell'=true:=by
  intro h1 hd;have hv:=Nf (h.one h1);rw[hd,hv];refine⟨rfl,fun j c hj=>?_⟩;cases j with
  |zero=>simp at hj;subst hj;exact⟨v,rfl,h,h.one h1⟩
  |succ j=>simp at hj
 cases d with
 |agg ds=>
  cases h with
  |pure h=>cases h with|agg hl h=>exact agg ds _ hl (fun i d v hd hv=> .pure (h i d v hd hv)) ho
  |agg hl h=>exact agg ds _ hl h ho
 |_=>exact single (by simpa[D.cells]using ho) rfl
theorem aJ.fC(h:aJ w S ρ d v)(hp:d.pure=true):bB w S d v:=by
 have inL:∀(ds:List D),D.aF ds=true->∀(i:Nat) d,ds[i]? =some d->d.pure=true:=by
  intro ds;induction ds with
  |nil=>intro _ i d hd;simp at hd
  |cons x xs ih=>
   intro hp i d hd;simp only[D.aF,bA]at hp;cases i with
   |zero=>simp at hd;subst hd;exact hp.1
   |succ i=>exact ih hp.2 i d (by simpa using hd)
 induction h with
 |pure h=>exact h
 |loc=>simp[D.pure]at hp
 |bp=>simp[D.pure]at hp
 |fJ=>simp[D.pure]at hp
 |omap=>simp[D.pure]at hp
 |agg hl _ ih=>exact .agg hl fun i d v hd hv=>ih i d v hd hv (inL _ (by simpa only[D.pure]using hp) i d hd)
 |aI hl _ ih=>exact .aI hl fun i d v hd hv=>ih i d v hd hv (inL _ (by simpa only[D.pure]using hp) i d hd)
 |fn hl _ ih=>exact .fn hl fun i d v hd hv=>ih i d v hd hv (inL _ (by simpa only[D.pure]using hp) i d hd)
 |iC hl _ ih=>exact .iC hl fun i d v hd hv=>ih i d v hd hv (inL _ (by simpa only[D.pure]using hp) i d hd)
 |dI _ ih=>exact .dI (ih (by simpa only[D.pure]using hp))
theorem uh:∀(ds:List D),D.aF ds=true->∀d∈ds,d.pure=true
 |[],_,d,hd=>by simp at hd
 |x::xs,hp,d,hd=>by
  simp only[D.aF,bA]at hp;rcases List.mem_cons.1 hd with rfl|hd
  ·exact hp.1
  ·exact uh xs hp.2 d hd
theorem sY{d:D}(h:d.pure=true):∀c∈d.cells,c.pure=true:=by
 intro c hc;cases d with
 |agg ds=>exact uh ds (by simpa only[D.pure]using h) c hc
 |_=>simp only[D.cells,List.mem_singleton]at hc;subst hc;exact h
def mH(v:Value):bB w S (A5 v) v:=by
 unfold A5;split
 ·exact .int _ _
 ·exact .bool _
 ·rename_i s;exact .str s.data.toList
 ·exact .aq
 ·exact .raw _
def En(v:Value):bB w S (x_ v) v:=by
 unfold x_;split
 ·rename_i cs;refine .agg sI fun i d u hd hu=>?_;simp only[gM,aG,hu,Option.map_some,sJ]at hd;subst hd;exact mH u
 ·exact mH _
theorem aJ.uy{d d':D}{v:Value}(hw:bN d d'):bB w S d v->bB w S d' v:=by
 induction hw generalizing v with
 |refl=>exact id
 |nil sz=>intro h;cases h;exact .sl (b:=0) (off:=0) (us:=fun _ _=>undef) rfl sI (by simp[maxLen]) (fun h=>absurd rfl h) sI sI sI sI
 |aI hl _ ih=>
  intro h;cases h with
  |aI xX h=>
   refine .aI (xX.trans hl) fun i x' v hx hv=>?_;have hi:i<_:=(gS.1 hx).1;exact ih i _ x' (gE (hl▸hi)) hx (h i _ v (gE (hl▸hi)) hv)
 |agg hl _ ih=>
  intro h;cases h with
  |agg xX h=>
   refine .agg (xX.trans hl) fun i x' v hx hv=>?_;have hi:i<_:=(gS.1 hx).1;exact ih i _ x' (gE (hl▸hi)) hx (h i _ v (gE (hl▸hi)) hv)
 |@sl sz ds ds' hl hz _ ih=>
  intro h;cases h with
  |@sl _ _ A n cap b off us hn dK jd hA bP hc h1 hr=>
   have at_:∀(i:Nat) d',ds'[i]? =some d'->∃d,ds[i]? =some d:=fun i d' ox=>by
    have hi:=(gS.1 ox).1;exact⟨_,gE (hl▸hi)⟩
   have cell:∀(i:Nat) d d' (j:Nat) c',ds[i]? =some d->ds'[i]? =some d'->d'.cells[j]? =some c'->∃c,d.cells[j]? =some c:=fun i d d' j c' hd ox fT=>by
    have hj:=(gS.1 fT).1;exact⟨_,gE (by rw[hz i d d' hd ox];exact hj)⟩
   refine .sl (A:=A) (b:=b) (off:=off) (us:=us) (hn.trans hl) dK jd (fun bw=>hA fun e=>bw (List.eq_nil_of_length_eq_zero (by rw[<-hl,e];rfl))) (fun i d' ox=>?_) (fun i d' j c' ox fT=>?_) (fun i d' j c' ox fT=>?_) (fun i d' j c' ox fT=>?_)
   ·obtain⟨d,hd⟩:=at_ i d' ox;rw[<-hz i d d' hd ox];exact bP i d hd
   ·obtain⟨d,hd⟩:=at_ i d' ox;obtain⟨c,jn⟩:=cell i d d' j c' hd ox fT;exact hc i d j c hd jn
   ·obtain⟨d,hd⟩:=at_ i d' ox;obtain⟨c,jn⟩:=cell i d d' j c' hd ox fT;exact h1 i d j c hd jn
   ·obtain⟨d,hd⟩:=at_ i d' ox;obtain⟨c,jn⟩:=cell i d d' j c' hd ox fT;exact ih i d d' j c c' hd ox jn fT (hr i d j c hd jn)
end
inductive fY:D->Value->Prop where
 |int (k:IntKind) (n:Int):fY (.int k n) (.int k n)
 |bool (b:Bool):fY (.bool b) (.bool b)
 |str (l:List UInt8):fY (.str l) (.string ⟨l.toArray⟩)
 |raw (x:Value):fY (.raw x) x
 |aq:fY .aq (.slice none 0 0)
 |agg {ds:List D} {vs:Array Value} (hl:vs.size=ds.length) (h:∀(i:Nat) d v,ds[i]? =some d->vs[i]? =some v->fY d v):fY (.agg ds) (.agg vs)
 |fn {f:Fn} {caps:List D} {vs:Array Value} (hl:vs.size=caps.length) (h:∀(i:Nat) d v,caps[i]? =some d->vs[i]? =some v->fY d v):fY (.fn f caps) (.func f #[] vs)
theorem fY.rep{w:World}{S:Nat->Prop}{d:D}{v:Value}(h:fY d v):bB w S d v:=by
 induction h with
 |int k n=>exact .int k n
 |bool b=>exact .bool b
 |str l=>exact .str l
 |raw x=>exact .raw x
 |aq=>exact .aq
 |agg hl _ ih=>exact .agg hl ih
 |fn hl _ ih=>exact .fn hl ih
theorem qq:∀(ds:List D),D.pP ds=true->∀(i:Nat) d,ds[i]? =some d->d.simple=true
 |[],_,i,d,hd=>by simp at hd
 |x::xs,hp,i,d,hd=>by
  simp only[D.pP,bA]at hp;cases i with
  |zero=>simp at hd;subst hd;exact hp.1
  |succ i=>exact qq xs hp.2 i d (by simpa using hd)
theorem bB.simple{w:World}{S:Nat->Prop}{d:D}{v:Value}(h:bB w S d v)(hs:d.simple=true):fY d v:=by
 induction h with
 |int k n=>exact .int k n
 |bool b=>exact .bool b
 |str l=>exact .str l
 |raw x=>exact .raw x
 |aq=>exact .aq
 |agg hl _ ih=>exact .agg hl fun i d v hd hv=>ih i d v hd hv (qq _ (by simpa only[D.simple]using hs) i d hd)
 |fn hl _ ih=>exact .fn hl fun i d v hd hv=>ih i d v hd hv (qq _ (by simpa only[D.simple]using hs) i d hd)
 |_=>simp[D.simple]at hs
theorem aJ.simple{w:World}{S:Nat->Prop}{ρ:cQ}{d:D}{v:Value}(h:aJ w S ρ d v)(hs:d.simple=true):fY d v:=by
 induction h with
 |pure h=>exact h.simple hs
 |agg hl _ ih=>exact .agg hl fun i d v hd hv=>ih i d v hd hv (qq _ (by simpa only[D.simple]using hs) i d hd)
 |fn hl _ ih=>exact .fn hl fun i d v hd hv=>ih i d v hd hv (qq _ (by simpa only[D.simple]using hs) i d hd)
 |_=>simp[D.simple]at hs
inductive gj:List D->List MapEntry->Prop where
 |nil:gj [] []
 |cons {k v:D} {e:MapEntry} {ds:List D} {es:List MapEntry} (hk:fY k e.key) (hv:fY v e.val) (t:gj ds es):gj (.aI [k,v,.int .i64 (e.born:Int)]::ds) (e::es)
inductive oF(ρ:cQ):Obj->List D->Prop where
 |map {ew:Array MapEntry} {clock:Nat} {es:List D} (h:gj es ew.toList):oF ρ (.map ew clock) (.int .i64 (clock:Int)::es)
 |iter {m k:Nat} {p:Place} {since last:Nat} {seen:Array Nat} (hp:ρ m k=some p):oF ρ (.mapIter (some p.b) since seen last) (.omap m k:: .int .i64 (since:Int):: .int .i64 (last:Int)::seen.toList.map fun n:Nat=> .int .i64 (n:Int))
theorem oF.mono{ρ ρ':cQ}{o:Obj}{es:List D}(h:oF ρ o es)(hρ:∀t e p,ρ t e=some p->ρ' t e=some p):oF ρ' o es:=by
 cases h with
 |map h=>exact .map h
 |iter hp=>exact .iter (hρ _ _ _ hp)
def Obj.Fi:Obj->Bool
 | .map ..| .mapIter ..=>true
 |_=>false
theorem oF.Fi{ρ:cQ}{o:Obj}{es:List D}(h:oF ρ o es):Obj.Fi o=true:=by cases h<;>rfl
theorem oF.nv{ρ:cQ}{o:Obj}{es:List D}(h:oF ρ o es):Obj.nv o=false/\∀x,o≠ .deferred x:=by
 cases h with
 |map h=>exact⟨rfl,fun _ e=>by cases e⟩
 |iter hp=>exact⟨rfl,fun _ e=>by cases e⟩
structure Holds(w:World)(S:Nat->Prop)(ρ:cQ)(p:Place)(es:List D):Prop where
 ex:∃cur,w.heap[p.b]? =some (.cells cur p.ty (0,0))/\cur.size=p.cap * p.sz/\
  ∃us:Nat->Nat->Value,∀(i:Nat) d (j:Nat) c,es[i]? =some d->d.cells[j]? =some c->cur[i * p.sz+j]? =some (us i j)/\aJ w S ρ c (us i j)/\(us i j).oneCell'=true
 len:es.length<=p.cap
 max:p.cap<=maxLen
 sz:∀(i:Nat) d,es[i]? =some d->d.cells.length=p.sz
theorem Holds.fg{w w':World}{S S':Nat->Prop}{ρ ρ':cQ}{p:Place}{es:List D}(h:Holds w S ρ p es)(hb:mO w w' p.b)(hw:∀b,S b->mO w w' b)(hS:∀b,S b->S' b)
 (hρ:∀t e p,ρ t e=some p->ρ' t e=some p):Holds w' S' ρ' p es:=by
 obtain⟨⟨cur,hc,hs,us,hu⟩,hl,hm,hz⟩:=h;exact⟨⟨cur,hb _ hc rfl,hs,us,fun i d j c hi hj=>⟨(hu i d j c hi hj).1,(hu i d j c hi hj).2.1.fg hw hS hρ,(hu i d j c hi hj).2.2⟩⟩,hl,hm,hz⟩
theorem Holds.mono{w w':World}{S S':Nat->Prop}{ρ ρ':cQ}{p:Place}{es:List D}(h:Holds w S ρ p es)(hb:w'.heap[p.b]? =w.heap[p.b]?)(hw:∀b,S b->w'.heap[b]? =w.heap[b]?)(hS:∀b,S b->S' b)
 (hρ:∀t e p,ρ t e=some p->ρ' t e=some p):Holds w' S' ρ' p es:=h.fg (.of_eq hb) (fun b hb=> .of_eq (hw b hb)) hS hρ
theorem Holds.cell{w:World}{S:Nat->Prop}{ρ:cQ}{p:Place}{es:List D}(h:Holds w S ρ p es){i:Nat}{d:D}{j:Nat}{c:D}(hi:es[i]? =some d)(hj:d.cells[j]? =some c):
 ∃u,w.cell? ⟨p.b,i * p.sz+j,none⟩=some u/\aJ w S ρ c u/\u.oneCell'=true:=by
 obtain⟨⟨cur,hc,hs,us,hu⟩,hl,hm,hz⟩:=h;obtain⟨h1,h2,h3⟩:=hu i d j c hi hj;exact⟨us i j,by simp[World.cell?,hc,h1],h2,h3⟩
end Go.V
namespace Go.V
open Go.RowKit
structure Fr(M:Nat->Prop)(w w':World):Prop where
 os:w'.os=w.os
 tape:w'.tape=w.tape
 output:w'.output=w.output
 size:w.heap.size<=w'.heap.size
 block:∀k,k<w.heap.size->¬M k->w'.heap[k]? =w.heap[k]?
theorem Fr.refl(M:Nat->Prop)(w:World):Fr M w w:=⟨rfl,rfl,rfl,Nat.le_refl _,fun _ _ _=>rfl⟩
theorem Fr.step{M M':Nat->Prop}{a b c:World}(h:Fr M a b)(k:Fr M' b c)(hM:∀n,n<a.heap.size->M' n->M n):Fr M a c:=
 ⟨k.os.trans h.os,k.tape.trans h.tape,k.output.trans h.output,Nat.le_trans h.size k.size,fun i hi hm=>(k.block i (Nat.lt_of_lt_of_le hi h.size) (fun tT=>hm (hM i hi tT))).trans (h.block i hi hm)⟩
theorem Fr.ue{M:Nat->Prop}{w w':World}(h:Below w.heap.size w w'):Fr M w w':=⟨h.os,h.tape,h.output,h.size,fun k hk _=>h.block k hk⟩
theorem Fr.alloc(M:Nat->Prop)(w:World)(o:Obj):Fr M w (w.alloc o):=.ue ((Below.refl _ _).alloc (Nat.le_refl _) o)
theorem Fr.HZ{w w':World}{row:Option Nat}(h:w.grownBy w' row):Fr (fun b=>some b=row) w w':=⟨h.os,h.tape,h.output,h.size,fun k hk hm=>h.block k hk hm⟩
structure Ctx where
 w0:World
 S0:Nat->Prop
 n0:Nat
 M:Nat->Prop
 E:Nat->Prop
 N:Nat
 r0:cQ
 ml:Nat
 lo:Nat
 Y:ae->(Nat->Option Obj)->Prop
 md:Nat
def kD{n:Nat}{bx bx':ae}(h:∀s,s<n->bx' s=bx s):bU n bx'=bU n bx:=by
 funext s;unfold bU;by_cases hs:s<n
 ·simp[hs,h s hs]
 ·simp[hs]
def iu(r:Nat):Deferred:={target:=.collected r,args:= #[]}
def az(X:Ctx)(ρ:cQ)(bx:ae)(w:World)(b:Nat):Prop:=
 b<w.heap.size/\(X.S0 b\/X.n0<=b)/\∀t,(bx t).k=1->∀p,ρ t (bx t).ep=some p->p.b≠b
def qn:D->List D
 | .any l=>l
 |_=>[]
inductive Defs(w:World)(S:Nat->Prop)(ρ:cQ)(m:Nat):List D->List Deferred->Prop where
 |nil:Defs w S ρ m [] []
 |mark {l:List D} {r:Nat} {ds:List Deferred} (h:ρ.hold r=some (.deferred (some []))) (hm:m<=r) (hn:iu r∉ds) (t:Defs w S ρ m l ds):Defs w S ρ m l (iu r::ds)
 |call {f:FuncId} {caps args l:List D} {vc va:Array Value} {ds:List Deferred} (hc:vc.size=caps.length) (xT:∀(i:Nat) d v,caps[i]? =some d->vc[i]? =some v->aJ w S ρ d v)
  (ha:va.size=args.length) (har:∀(i:Nat) d v,args[i]? =some d->va[i]? =some v->aJ w S ρ d v) (t:Defs w S ρ m l ds):Defs w S ρ m (.aI (.fn (.func f) caps::args)::l) ({target:=.fn (.func f) vc,args:=va}::ds)
def Mk(w:World)(S:Nat->Prop)(ρ:cQ)(md ml:Nat)(d:D)(ds:List Deferred):Prop:=md=1\/(Defs w S ρ ml (if md=0 then[]else qn d) ds/\(md=3->ds=[]))
theorem Defs.fg{w w':World}{S S':Nat->Prop}{ρ ρ':cQ}{m:Nat}{l:List D}{ds:List Deferred}(h:Defs w S ρ m l ds)(hw:∀b,S b->mO w w' b)(hS:∀b,S b->S' b)(hρ:∀t e p,ρ t e=some p->ρ' t e=some p)
 (hh:∀r,iu r∈ds->ρ.hold r=some (.deferred (some []))->ρ'.hold r=some (.deferred (some []))):Defs w' S' ρ' m l ds:=by
 induction h with
 |nil=>exact .nil
 |mark h hm hn _ ih=>exact .mark (hh _ (List.mem_cons_self ..) h) hm hn (ih fun r hr=>hh r (List.mem_cons_of_mem _ hr))
 |call hc xT ha har _ ih=>exact .call hc (fun i d v hd hv=>(xT i d v hd hv).fg hw hS hρ) ha (fun i d v hd hv=>(har i d v hd hv).fg hw hS hρ) (ih fun r hr=>hh r (List.mem_cons_of_mem _ hr))
theorem Mk.fg{w w':World}{S S':Nat->Prop}{ρ ρ':cQ}{md m:Nat}{l:D}{ds:List Deferred}(h:Mk w S ρ md m l ds)(hw:∀b,S b->mO w w' b)(hS:∀b,S b->S' b)(hρ:∀t e p,ρ t e=some p->ρ' t e=some p)
 (hh:∀r,iu r∈ds->ρ.hold r=some (.deferred (some []))->ρ'.hold r=some (.deferred (some []))):Mk w' S' ρ' md m l ds:=h.imp id fun h=>⟨h.1.fg hw hS hρ hh,h.2⟩
theorem Mk.mono{w w':World}{S S':Nat->Prop}{ρ ρ':cQ}{md m:Nat}{l:D}{ds:List Deferred}(h:Mk w S ρ md m l ds)(hw:∀b,S b->w'.heap[b]? =w.heap[b]?)(hS:∀b,S b->S' b)(hρ:∀t e p,ρ t e=some p->ρ' t e=some p)
 (hh:∀r,ρ.hold r=some (.deferred (some []))->ρ'.hold r=some (.deferred (some []))):Mk w' S' ρ' md m l ds:=h.fg (fun b hb=> .of_eq (hw b hb)) hS hρ fun r _=>hh r
theorem Mk.nil{w:World}{S:Nat->Prop}{ρ:cQ}{md m:Nat}{l:D}(h:md=0\/md=1\/qn l=[]):Mk w S ρ md m l []:=by
 rcases h with h|h|h
 ·exact .inr ⟨by rw[if_pos h];exact .nil,fun _=>rfl⟩
 ·exact .inl h
 ·exact .inr ⟨by rw[h,ite_self];exact .nil,fun _=>rfl⟩
structure Maps(X:Ctx)(ρ:cQ)(bx:ae):Prop where
 has:∀t,(bx t).k=3->∃p o,ρ t (bx t).ep=some p/\ρ.hold p.b=some o/\(X.E p.b\/X.w0.heap.size<=p.b)/\oF ρ o (bx t).es
 inj:∀t t' p p',(bx t).k=3->(bx t').k=3->t≠t'->ρ t (bx t).ep=some p->ρ t' (bx t').ep=some p'->p.b≠p'.b
theorem Maps.of{X X':Ctx}{ρ ρ':cQ}{bx bx':ae}(h:Maps X ρ bx)(hb:∀t,(bx' t).k=3->(bx t).k=3/\(bx' t).ep=(bx t).ep/\(bx' t).es=(bx t).es)(hρ:∀t e p,ρ t e=some p->ρ' t e=some p)
 (hh:∀t p o,(bx t).k=3->ρ t (bx t).ep=some p->ρ.hold p.b=some o->ρ'.hold p.b=some o) (hX:∀b,X.E b\/X.w0.heap.size<=b->X'.E b\/X'.w0.heap.size<=b):Maps X' ρ' bx':=by
 refine⟨fun t ht=>?_,fun t t' p p' ht oR hn hp bL=>?_⟩
 ·obtain⟨h1,h2,h3⟩:=hb t ht;obtain⟨p,o,g1,g2,g3,g4⟩:=h.has t h1;exact⟨p,o,by rw[h2];exact hρ _ _ _ g1,hh t p o h1 g1 g2,hX _ g3,by rw[h3];exact g4.mono hρ⟩
 ·obtain⟨h1,h2,_⟩:=hb t ht;obtain⟨k1,k2,_⟩:=hb t' oR;obtain⟨q,o,g1,_⟩:=h.has t h1;obtain⟨q',o',g1',_⟩:=h.has t' k1;rw[h2,hρ _ _ _ g1]at hp;rw[k2,hρ _ _ _ g1']at bL;injection hp with hp;injection bL with bL;subst hp;subst bL;exact h.inj t t' q q' h1 k1 hn g1 g1'
structure aA(X:Ctx)(ρ:cQ)(σ:Env)(bx:ae)(a:Act)(w:World):Prop where
 fr:Fr (fun b=>X.M b\/X.E b) X.w0 w
 s0:∀b,X.S0 b->b<X.n0
 nb:X.n0<=X.w0.heap.size
 mb:∀b,X.M b->X.n0<=b
 ec:∀b,X.E b->∀o,X.w0.heap[b]? =some o->Obj.nv o=false
 size:a.tmps.size=X.N
 marks:Mk w (az X ρ bx w) ρ X.md X.ml (σ en) a.defers
 qh:X.N<=en
 rQ:X.ml<=X.w0.heap.size
 tmps:∀t,aJ w (az X ρ bx w) ρ (σ t) (a.tmps.getD t undef)
 fK:aJ w (az X ρ bx w) ρ .fK undef
 box:∀t,lv (bx t).k->∃p,ρ t (bx t).ep=some p/\p.sz=(bx t).sz/\p.ty=(bx t).ty/\(X.n0<=p.b/\((bx t).k=1->X.w0.heap.size<=p.b\/X.M p.b))/\Holds w (az X ρ bx w) ρ p (bx t).es
 inj:∀t t' p p',(bx t).k=1->lv (bx t').k->t≠t'->ρ t (bx t).ep=some p->ρ t' (bx t').ep=some p'->p.b≠p'.b
 ou:∀t e p,ρ t e=some p->e<=(bx t).ep
 r0:∀t e p,X.r0 t e=some p->ρ t e=some p
 hold:∀b o,ρ.hold b=some o->w.heap[b]? =some o/\Obj.nv o=false
 gA:∀b o,X.r0.hold b=some o->¬X.E b->ρ.hold b=some o
 yc:∀c h h',X.Y c h->(∀b o,h b=some o->h' b=some o)->X.Y c h'
 inv:X.Y (bU X.lo bx) ρ.hold
 y0:X.lo=0->∀c h,X.Y c h
 kl:∀b o,X.r0.hold b=some o->b<X.w0.heap.size
 maps:Maps X ρ bx
variable {X:Ctx} {ρ:cQ} {σ:Env} {bx:ae} {a:Act} {w:World}
theorem Holds.nv{S:Nat->Prop}{p:Place}{es:List D}(h:Holds w S ρ p es):∃o,w.heap[p.b]? =some o/\Obj.nv o=true:=by
 obtain⟨⟨cur,hc,_⟩,_⟩:=h;exact⟨_,hc,rfl⟩
theorem Holds.lt{S:Nat->Prop}{p:Place}{es:List D}(h:Holds w S ρ p es):p.b<w.heap.size:=by
 obtain⟨⟨cur,hc,_⟩,_⟩:=h;exact(Array.getElem?_eq_some_iff.1 hc).1
theorem aA.ext{w':World}(h:aA X ρ σ bx a w)(hb:Below w.heap.size w w'):aA X ρ σ bx a w':=by
 have hS:∀b,az X ρ bx w b->az X ρ bx w' b:=fun b eo=>⟨Nat.lt_of_lt_of_le eo.1 hb.size,eo.2⟩
 have hw:∀b,az X ρ bx w b->w'.heap[b]? =w.heap[b]?:=fun b eo=>hb.block b eo.1;exact⟨h.fr.step (Fr.ue (M:=fun _=>False) hb) (fun _ _ h=>h.elim),h.s0,h.nb,h.mb,h.ec,h.size,h.marks.mono hw hS (fun _ _ _ h=>h) (fun _ h=>h),h.qh,h.rQ,fun t=>(h.tmps t).mono hw hS (fun _ _ _ h=>h),h.fK.mono hw hS (fun _ _ _ h=>h),
  fun t ht=>let ⟨p,h1,h2,h3,h4,h5⟩:=h.box t ht;⟨p,h1,h2,h3,h4,h5.mono (hb.block _ h5.lt) hw hS (fun _ _ _ h=>h)⟩,h.inj,h.ou,h.r0,
  fun b o ho=>⟨(hb.block b (Array.getElem?_eq_some_iff.1 (h.hold b o ho).1).1).trans (h.hold b o ho).1,(h.hold b o ho).2⟩,h.gA,h.yc,h.inv,h.y0,h.kl,h.maps⟩
theorem aA.put{dst:Option Tmp}{d:D}{v:Value}(h:aA X ρ σ bx a w)(hd:∀t,dst=some t->t<X.N)(hr:aJ w (az X ρ bx w) ρ d v):aA X ρ (put σ dst d) bx (a.put dst v) w:=by
 cases dst with
 |none=>exact h
 |some t=>
  have ht:=hd t rfl;have nj:en≠t:=by
   intro e;exact absurd (hd t rfl) (by rw[<-e];exact Nat.not_lt.2 h.qh)
  refine⟨h.fr,h.s0,h.nb,h.mb,h.ec,by simp[Act.put,h.size],by simpa[Act.put,V.put,aj,nj]using h.marks,h.qh,h.rQ,fun x=>?_,h.fK,h.box,h.inj,h.ou,h.r0,h.hold,h.gA,h.yc,h.inv,h.y0,h.kl,h.maps⟩;simp only[V.put,aj,Act.put];by_cases hx:x=t
  ·subst hx;simp only[if_true];have:(a.tmps.setIfInBounds x v).getD x undef=v:=by simp[Array.getD,h.size,ht]
   rw[this];exact hr
  ·simp only[hx,if_false];have:(a.tmps.setIfInBounds t v).getD x undef=a.tmps.getD x undef:=by simp only[Array.getD_eq_getD_getElem?,Array.getElem?_setIfInBounds_ne (Ne.symm hx)]
   rw[this];exact h.tmps x
theorem aA.ev(h:aA X ρ σ bx a w)(x:Operand):aJ w (az X ρ bx w) ρ (ev σ x) (a.eval x):=by
 cases x with
 |tmp t=>exact h.tmps t
 |const v=>exact .pure (En v)
 |global g=>
  show aJ w (az X ρ bx w) ρ (evG g (Bt g)) (.pointer (some ⟨g,0,none⟩));cases hg:Bt g with
  |none=>exact .pure (.raw _)
  |some d=>
   have h:=h.fK.fC rfl;cases h with
   |fK _ h _=>exact .pure (h g d hg)
 |func f=>exact .pure (.fn rfl sI)
theorem aA.own{w':World}{t:Nat}{p:Place}{es:List D}{bx1:ae}(h:aA X ρ σ bx a w)
 (bH:X.lo<=t) (h1:∀s,bx1 s=bx s\/((bx1 s).k=0/\(bx1 s).ep=(bx s).ep/\X.lo<=s)) {Old:Nat->Prop} (hg:Fr Old w w')
 (hO:∀b,Old b->∃t0 p0,(bx t0).k=1/\ρ t0 (bx t0).ep=some p0/\p0.b=b/\(t0=t\/(bx1 t0).k=0)) (hp:w.heap.size<=p.b\/Old p.b)
 (hh:∀S' ρ',(∀b,az X ρ bx w b->S' b)->(∀s e q,ρ s e=some q->ρ' s e=some q)->Holds w' S' ρ' p es):
 aA X ⟨fun s e=>if s=t/\e=(bx t).ep+1 then some p else ρ s e,ρ.hold⟩ σ (aj bx1 t ⟨(bx t).ep+1,1,p.sz,p.ty,es⟩) a w':=by
 have hnO:∀b,az X ρ bx w b->¬Old b:=by
  intro b hb e;obtain⟨t0,p0,hk,hr,gN,_⟩:=hO b e;exact hb.2.2 t0 hk p0 hr gN
 have bw:∀b,az X ρ bx w b->b≠p.b:=by
  intro b hb e;rcases hp with hp|hp
  ·have:=hb.1;omega
  ·exact hnO b hb (e▸hp)
 have hρ:∀s e q,ρ s e=some q->(if s=t/\e=(bx t).ep+1 then some p else ρ s e)=some q:=by
  intro s e q hq;rw[if_neg]
  ·exact hq
  ·rintro⟨rfl,rfl⟩;have:=h.ou _ _ _ hq;omega
 have hw:∀b,az X ρ bx w b->w'.heap[b]? =w.heap[b]?:=fun b hb=>hg.block b hb.1 (hnO b hb);have live:∀s,s≠t->lv (aj bx1 t ⟨(bx t).ep+1,1,p.sz,p.ty,es⟩ s).k->aj bx1 t ⟨(bx t).ep+1,1,p.sz,p.ty,es⟩ s=bx s:=by
  intro s hs hk;simp only[aj,hs,if_false]at hk⊢;rcases h1 s with e|⟨e,_⟩
  ·exact e
  ·exact absurd e hk.1
 have hS:∀b,az X ρ bx w b->az X ⟨fun s e=>if s=t/\e=(bx t).ep+1 then some p else ρ s e,ρ.hold⟩ (aj bx1 t ⟨(bx t).ep+1,1,p.sz,p.ty,es⟩) w' b:=by
  intro b hb;refine⟨Nat.lt_of_lt_of_le hb.1 hg.size,hb.2.1,fun s hs q hq=>?_⟩;by_cases bz:s=t
  ·subst bz;simp only[aj,if_true,and_self]at hq;injection hq with hq;subst hq;exact(bw b hb).symm
  ·have hl:=live s bz (by rw[hs];decide);rw[hl]at hs hq;simp only[bz,false_and,if_false]at hq;exact hb.2.2 s hs q hq
 have hOM:∀b,Old b->X.w0.heap.size<=b\/X.M b:=by
  intro b hb;obtain⟨t0,p0,hk,hr,gN,_⟩:=hO b hb;obtain⟨p1,oA,_,_,hb,_⟩:=h.box t0 (by rw[hk];decide);rw[hr]at oA;injection oA with oA;subst oA;rw[gN]at hb;exact hb.2 hk
 have hOC:∀b o,Old b->w.heap[b]? =some o->Obj.nv o=true:=by
  intro b o hb ho;obtain⟨t0,p0,hk,hr,gN,_⟩:=hO b hb;obtain⟨p1,oA,_,_,_,hh⟩:=h.box t0 (by rw[hk];decide);rw[hr]at oA;injection oA with oA;subst oA;obtain⟨o',jN,hc⟩:=hh.nv;rw[gN,ho]at jN;injection jN with jN;subst jN;exact hc
 have gN:X.w0.heap.size<=p.b\/X.M p.b:=by
  rcases hp with hp|hp
  ·exact .inl (Nat.le_trans h.fr.size hp)
  ·exact hOM _ hp
 have otherO:∀s q,s≠t->lv (bx s).k->aj bx1 t ⟨(bx t).ep+1,1,p.sz,p.ty,es⟩ s=bx s->ρ s (bx s).ep=some q->¬Old q.b:=by
  intro s q bz hk hl hq e;obtain⟨t0,p0,kN,oz,aeZ,h0⟩:=hO _ e;by_cases Og:s=t0
  ·subst Og;rcases h0 with h0|h0
   ·exact bz h0
   ·simp only[aj,bz,if_false]at hl;rw[hl]at h0;exact hk.1 h0
  ·exact h.inj t0 s p0 q kN hk (Ne.symm Og) oz hq aeZ
 have other:∀s q,s≠t->lv (bx s).k->aj bx1 t ⟨(bx t).ep+1,1,p.sz,p.ty,es⟩ s=bx s->ρ s (bx s).ep=some q->q.b≠p.b:=by
  intro s q bz hk hl hq e;rcases hp with hp|hp
  ·obtain⟨q',jH,_,_,_,J9⟩:=h.box s hk;rw[hq]at jH;injection jH with jH;subst jH;have:=J9.lt;omega
  ·exact otherO s q bz hk hl hq (e▸hp)
 refine⟨h.fr.step hg (fun n hn hm=>?_),h.s0,h.nb,h.mb,h.ec,h.size,h.marks.mono hw hS hρ (fun _ h=>h),h.qh,h.rQ,fun x=>(h.tmps x).mono hw hS hρ,h.fK.mono hw hS hρ,fun s hs=>?_,fun s s' q q' hs eb sD hq jH=>?_,fun s e q hq=>?_,fun s e q hq=>hρ s e q (h.r0 s e q hq),fun b o ho=>?_,h.gA,h.yc,?_,h.y0,h.kl,h.maps.of (fun s hs=>?_) hρ (fun _ _ _ _ _ h=>h) (fun _ h=>h)⟩
 ·rcases hOM n hm with gN|gN
  ·omega
  ·exact .inl gN
 ·by_cases bz:s=t
  ·subst bz;simp only[aj,if_true];exact⟨p,by simp,rfl,rfl,⟨gN.elim (fun h'=>Nat.le_trans h.nb h') (h.mb _),fun _=>gN⟩,hh _ _ hS hρ⟩
  ·have hl:=live s bz hs;rw[hl]at hs⊢;obtain⟨q,hq,h2,h3,h4,h5⟩:=h.box s hs;refine⟨q,by simp only[bz,false_and,if_false];exact hq,h2,h3,h4,h5.mono (hg.block _ h5.lt (otherO s q bz hs hl hq)) hw hS hρ⟩
 ·by_cases bz:s=t
  ·subst bz;simp only[aj,if_true,and_self]at hq;injection hq with hq;subst hq;have hl:=live s' (Ne.symm sD) eb;rw[hl]at eb jH;simp only[Ne.symm sD,false_and,if_false]at jH;exact(other s' q' (Ne.symm sD) eb hl jH).symm
  ·have hl:=live s bz (by rw[hs];decide);rw[hl]at hs hq;simp only[bz,false_and,if_false]at hq;by_cases QO:s'=t
   ·subst QO;simp only[aj,if_true,and_self]at jH;injection jH with jH;subst jH;exact other s q bz (by rw[hs];decide) hl hq
   ·have xX:=live s' QO eb;rw[xX]at eb jH;simp only[QO,false_and,if_false]at jH;exact h.inj s s' q q' hs eb sD hq jH
 ·by_cases bz:s=t
  ·subst bz;simp only[aj,if_true];by_cases he:e=(bx s).ep+1
   ·omega
   ·simp only[he,and_false,if_false]at hq;have:=h.ou _ _ _ hq;omega
  ·simp only[bz,false_and,if_false]at hq;have:=h.ou _ _ _ hq;simp only[aj,bz,if_false];rcases h1 s with e1|⟨_,e1,_⟩
   ·rw[e1];exact this
   ·rw[e1];exact this
 ·obtain⟨g1,g2⟩:=h.hold b o ho;refine⟨(hg.block b (Array.getElem?_eq_some_iff.1 g1).1 (fun hb=>?_)).trans g1,g2⟩;have:=hOC b o hb g1;rw[g2]at this;cases this
 ·rw[kD (bx:=bx) (fun s hs=>?_)]
  ·exact h.inv
  ·have:s≠t:=oM;simp only[aj,this,if_false];rcases h1 s with e1|⟨_,_,e1⟩
   ·exact e1
   ·omega
 ·by_cases bz:s=t
  ·subst bz;simp[aj]at hs
  ·simp only[aj,bz,if_false]at hs⊢;rcases h1 s with e1|⟨e1,_⟩
   ·rw[e1]at hs⊢;exact⟨hs,rfl,rfl⟩
   ·rw[e1]at hs;cases hs
theorem aA.stored{w':World}{t:Nat}{p:Place}{es:List D}(h:aA X ρ σ bx a w)(bH:X.lo<=t)(hk:(bx t).k=1)(hr:ρ t (bx t).ep=some p)(hg:Fr (fun b=>b=p.b) w w')
 (hh:Holds w' (az X ρ bx w) ρ p es):aA X ρ σ (aj bx t {bx t with es:=es}) a w':=by
 have cW:∀s,(aj bx t {bx t with es:=es} s).k=(bx s).k:=fun s=>by by_cases hs:s=t<;>simp[aj,hs]
 have Hh:∀s,(aj bx t {bx t with es:=es} s).ep=(bx s).ep:=fun s=>by by_cases hs:s=t<;>simp[aj,hs]
 have bw:∀b,az X ρ bx w b->b≠p.b:=fun b hb e=>hb.2.2 t hk p hr e.symm;have hw:∀b,az X ρ bx w b->w'.heap[b]? =w.heap[b]?:=fun b hb=>hg.block b hb.1 (bw b hb);have hS:∀b,az X ρ bx w b->az X ρ (aj bx t {bx t with es:=es}) w' b:=fun b hb=>⟨Nat.lt_of_lt_of_le hb.1 hg.size,hb.2.1,fun s hs q hq=>by rw[cW]at hs;rw[Hh]at hq;exact hb.2.2 s hs q hq⟩
 obtain⟨p0,oz,Km,ht0,qB,hh0⟩:=h.box t (by rw[hk];decide);rw[hr]at oz;injection oz with oz;subst oz;refine⟨h.fr.step hg (fun n hn hm=>?_),h.s0,h.nb,h.mb,h.ec,h.size,h.marks.mono hw hS (fun _ _ _ h=>h) (fun _ h=>h),h.qh,h.rQ,fun x=>(h.tmps x).mono hw hS (fun _ _ _ h=>h),h.fK.mono hw hS (fun _ _ _ h=>h),fun s hs=>?_,fun s s' q q' hs eb sD hq jH=>?_,fun s e q hq=>by rw[Hh];exact h.ou s e q hq,h.r0,fun b o ho=>?_,h.gA,h.yc,?_,h.y0,h.kl,h.maps.of (fun s hs=>?_) (fun _ _ _ h=>h) (fun _ _ _ _ _ h=>h) (fun _ h=>h)⟩
 ·subst hm;rcases qB.2 hk with qB|qB
  ·omega
  ·exact .inl qB
 ·by_cases bz:s=t
  ·subst bz;simp only[aj,if_true];exact⟨p,hr,Km,ht0,⟨qB.1,qB.2⟩,hh.mono rfl (fun _ _=>rfl) hS (fun _ _ _ h=>h)⟩
  ·rw[cW]at hs;obtain⟨q,hq,h2,h3,h4,h5⟩:=h.box s hs;simp only[aj,bz,if_false];exact⟨q,hq,h2,h3,h4,h5.mono (hg.block _ h5.lt (h.inj t s p q hk hs (Ne.symm bz) hr hq).symm) hw hS (fun _ _ _ h=>h)⟩
 ·rw[cW]at hs eb;rw[Hh]at hq jH;exact h.inj s s' q q' hs eb sD hq jH
 ·obtain⟨g1,g2⟩:=h.hold b o ho;refine⟨(hg.block b (Array.getElem?_eq_some_iff.1 g1).1 (fun hb=>?_)).trans g1,g2⟩;obtain⟨o',jN,hc⟩:=hh0.nv;rw[<-hb,g1]at jN;injection jN with jN;subst jN;rw[g2]at hc;cases hc
 ·rw[kD (bx:=bx) (fun s hs=>?_)]
  ·exact h.inv
  ·have:s≠t:=oM;simp[aj,this]
 ·by_cases bz:s=t
  ·subst bz;rw[cW,hk]at hs;cases hs
  ·simp only[aj,bz,if_false]at hs⊢;exact⟨hs,trivial,trivial⟩
theorem aA.less{bx':ae}(h:aA X ρ σ bx a w)(hl:∀s,(bx' s)=bx s\/(X.lo<=s/\(bx' s).k≠1/\(bx' s).ep=(bx s).ep/\(lv (bx' s).k->lv (bx s).k/\(bx' s).sz=(bx s).sz/\(bx' s).ty=(bx s).ty/\(bx' s).es=(bx s).es)/\((bx' s).k=3->(bx s).k=3/\(bx' s).es=(bx s).es))):aA X ρ σ bx' a w:=by
 have he:∀s,(bx' s).ep=(bx s).ep:=fun s=>by
  rcases hl s with e|e
  ·rw[e]
  ·exact e.2.2.1
 have h1:∀s,(bx' s).k=1->(bx s).k=1:=fun s hs=>by
  rcases hl s with e|e
  ·rw[e]at hs;exact hs
  ·exact absurd hs e.2.1
 have h0:∀s,lv (bx' s).k->lv (bx s).k/\(bx' s).sz=(bx s).sz/\(bx' s).ty=(bx s).ty/\(bx' s).es=(bx s).es:=fun s hs=>by
  rcases hl s with e|e
  ·rw[e]at hs⊢;exact⟨hs,rfl,rfl,rfl⟩
  ·exact e.2.2.2.1 hs
 have hS:∀b,az X ρ bx w b->az X ρ bx' w b:=fun b hb=>⟨hb.1,hb.2.1,fun s hs q hq=>by rw[he]at hq;exact hb.2.2 s (h1 s hs) q hq⟩
 refine⟨h.fr,h.s0,h.nb,h.mb,h.ec,h.size,h.marks.mono (fun _ _=>rfl) hS (fun _ _ _ h=>h) (fun _ h=>h),h.qh,h.rQ,fun x=>(h.tmps x).mono (fun _ _=>rfl) hS (fun _ _ _ h=>h),h.fK.mono (fun _ _=>rfl) hS (fun _ _ _ h=>h),fun s hs=>?_,fun s s' q q' hs eb sD hq jH=>?_,fun s e q hq=>by rw[he];exact h.ou s e q hq,h.r0,h.hold,h.gA,h.yc,?_,h.y0,h.kl,h.maps.of (fun s hs=>?_) (fun _ _ _ h=>h) (fun _ _ _ _ _ h=>h) (fun _ h=>h)⟩
 ·obtain⟨g1,g2,g3,g4⟩:=h0 s hs;obtain⟨q,hq,k2,k3,k4,k5⟩:=h.box s g1;exact⟨q,by rw[he];exact hq,by rw[g2];exact k2,by rw[g3];exact k3,⟨k4.1,fun hk=>k4.2 (h1 s hk)⟩,by rw[g4];exact k5.mono rfl (fun _ _=>rfl) hS (fun _ _ _ h=>h)⟩
 ·rw[he]at hq jH;exact h.inj s s' q q' (h1 s hs) (h0 s' eb).1 sD hq jH
 ·rw[kD (bx:=bx) (fun s hs=>?_)]
  ·exact h.inv
  ·rcases hl s with e1|⟨e1,_⟩
   ·exact e1
   ·omega
 ·rcases hl s with e|e
  ·rw[e]at hs⊢;exact⟨hs,rfl,rfl⟩
  ·exact⟨(e.2.2.2.2 hs).1,e.2.2.1,(e.2.2.2.2 hs).2⟩
def BB(ρ:cQ)(bx:ae)(b:Nat):Prop:=∃t p,(bx t).k=3/\ρ t (bx t).ep=some p/\p.b=b
def Ctx.sub(X:Ctx)(ρ:cQ)(bx:ae)(w:World)(E:Nat->Prop)(N ml md:Nat):Ctx:=
 {w0:=w,S0:=X.S0,n0:=X.n0,M:=fun b=>∃t p,(bx t).k=1/\ρ t (bx t).ep=some p/\p.b=b,E:=fun b=>E b\/BB ρ bx b,N:=N,r0:=ρ,ml:=ml,lo:=0,Y:=fun _ _=>True,md:=md}
theorem aA.HT(h:aA X ρ σ bx a w){b:Nat}{o:Obj}(hb:ρ.hold b=some o)(hn:Obj.Fi o=false):¬BB ρ bx b:=by
 rintro⟨t,p,h1,h2,rfl⟩;obtain⟨q,o',g1,g2,_,g4⟩:=h.maps.has t h1;rw[h2]at g1;injection g1 with g1;subst g1;rw[hb]at g2;injection g2 with g2;subst g2;rw[g4.Fi]at hn;cases hn
theorem aA.sub(h:aA X ρ σ bx a w){E:Nat->Prop}{N ml md:Nat}{σ':Env}{a':Act}(hN:N<=en)(hE:∀b,E b->∀o,w.heap[b]? =some o->Obj.nv o=false)(hs:a'.tmps.size=N)(hm:Mk w (az X ρ bx w) ρ md ml (σ' en) a'.defers)(Sr:ml<=w.heap.size)
 (ht:∀t,aJ w (az X ρ bx w) ρ (σ' t) (a'.tmps.getD t undef)):aA (X.sub ρ bx w E N ml md) ρ σ' bx a' w:=by
 have CI:∀b,E b\/BB ρ bx b->∀o,w.heap[b]? =some o->Obj.nv o=false:=fun b hb o ho=>by
  rcases hb with hb|⟨t,p,h1,h2,rfl⟩
  ·exact hE b hb o ho
  ·obtain⟨q,o',g1,g2,_,g4⟩:=h.maps.has t h1;rw[h2]at g1;injection g1 with g1;subst g1;have:=(h.hold _ _ g2).1;rw[ho]at this;injection this with this;subst this;exact g4.nv.1
 refine⟨.refl _ _,h.s0,Nat.le_trans h.nb h.fr.size,?_,CI,hs,hm,hN,Sr,ht,h.fK,fun t hk=>?_,h.inj,h.ou,fun _ _ _ h=>h,h.hold,fun _ _ h _=>h,fun _ _ _ _ _=>trivial,trivial,fun _ _ _=>trivial,fun b o ho=>(Array.getElem?_eq_some_iff.1 (h.hold b o ho).1).1,⟨fun t ht=>let ⟨p,o,g1,g2,_,g4⟩:=h.maps.has t ht;⟨p,o,g1,g2,.inl (.inr ⟨t,p,ht,g1,rfl⟩),g4⟩,h.maps.inj⟩⟩
 ·rintro b ⟨t,p,hk,hp,rfl⟩;obtain⟨p',bL,_,_,hb,_⟩:=h.box t (by rw[hk];decide);rw[hp]at bL;injection bL with bL;subst bL;exact hb.1
 ·obtain⟨p,hp,h2,h3,hb,hh⟩:=h.box t hk;exact⟨p,hp,h2,h3,⟨hb.1,fun iL=> .inr ⟨t,p,iL,hp,rfl⟩⟩,hh⟩
theorem aA.back{X':Ctx}{ρ2:cQ}{σ':Env}{bK:ae}{a':Act}{w2:World}{E:Nat->Prop}{N ml md:Nat}(h:aA X' ρ σ bx a w)(hS:X'.S0=X.S0)(hn:X'.n0=X.n0)(k:aA (X.sub ρ bx w E N ml md) ρ2 σ' bK a' w2)
 (hE:∀b,E b->X'.E b\/X'.w0.heap.size<=b) (hd:∀b,E b->ρ.hold b≠some (.deferred (some []))) (h0:∀b,E b->X'.r0.hold b=none\/X'.E b) (hY:X'.Y (bU X'.lo bK) ρ2.hold):aA X' ρ2 σ bK a w2:=by
 have bz:∀ρ' bx' w',az X' ρ' bx' w'=az (X.sub ρ bx w E N ml md) ρ' bx' w':=fun ρ' bx' w'=>by funext b;simp only[az,Ctx.sub,hS,hn]
 have CI:∀b,E b\/BB ρ bx b->X'.E b\/X'.w0.heap.size<=b:=fun b hb=>by
  rcases hb with hb|⟨t,p,h1,h2,rfl⟩
  ·exact hE b hb
  ·obtain⟨q,o',g1,g2,g3,g4⟩:=h.maps.has t h1;rw[h2]at g1;injection g1 with g1;subst g1;exact g3
 have ox:∀b,E b\/BB ρ bx b->ρ.hold b≠some (.deferred (some [])):=fun b hb=>by
  rcases hb with hb|⟨t,p,h1,h2,rfl⟩
  ·exact hd b hb
  ·obtain⟨q,o',g1,g2,g3,g4⟩:=h.maps.has t h1;rw[h2]at g1;injection g1 with g1;subst g1;rw[g2];intro e;injection e with e;exact g4.nv.2 _ e
 have JY:∀b,E b\/BB ρ bx b->X'.r0.hold b=none\/X'.E b:=fun b hb=>by
  rcases hb with hb|hb
  ·exact h0 b hb
  ·rcases CI b (.inr hb)with g|g
   ·exact .inr g
   ·left;cases ho:X'.r0.hold b with
    |none=>rfl
    |some o=>have:=h.kl b o ho;omega
 have wY:∀b,az X' ρ bx w b->¬(X.sub ρ bx w E N ml md).M b:=by
  rintro b hb ⟨t,p,hk,hp,rfl⟩;exact hb.2.2 t hk p hp rfl
 have hw:∀b,az X' ρ bx w b->mO w w2 b:=by
  intro b hb o ho hc;refine(k.fr.block b hb.1 (fun hm=>?_)).trans ho;rcases hm with hm|hm
  ·exact wY b hb hm
  ·have:=k.ec b hm o ho;rw[hc]at this;cases this
 have CK:∀b,az X' ρ bx w b->az X' ρ2 bK w2 b:=by
  intro b hb;refine⟨Nat.lt_of_lt_of_le hb.1 k.fr.size,hb.2.1,fun t ht p hp e=>?_⟩;obtain⟨p',bL,_,_,gN,_⟩:=k.box t (by rw[ht];decide);rw[hp]at bL;injection bL with bL;subst bL;rcases gN.2 ht with h1|h1
  ·have:=hb.1;simp only[Ctx.sub]at h1;omega
  ·exact wY b hb (e▸h1)
 refine⟨h.fr.step k.fr (fun n AV hm=>?_),h.s0,h.nb,h.mb,h.ec,h.size,h.marks.fg hw CK k.r0 (fun r _ hr=>k.gA r _ hr (fun he=>ox r he hr)),h.qh,h.rQ,fun t=>(h.tmps t).fg hw CK k.r0,h.fK.fg hw CK k.r0,fun t hk=>?_,k.inj,k.ou,fun t e p hp=>k.r0 t e p (h.r0 t e p hp),k.hold,fun b o ho x8=>?_,h.yc,hY,h.y0,h.kl,⟨fun t ht=>let ⟨p,o,g1,g2,g3,g4⟩:=k.maps.has t ht;⟨p,o,g1,g2,g3.elim (fun g=>CI _ g) (fun g=> .inr (Nat.le_trans h.fr.size g)),g4⟩,k.maps.inj⟩⟩
 ·rcases hm with⟨t,p,hk,hp,rfl⟩|hm
  ·obtain⟨p',bL,_,_,gN,_⟩:=h.box t (by rw[hk];decide);rw[hp]at bL;injection bL with bL;subst bL;rcases gN.2 hk with h1|h1
   ·omega
   ·exact .inl h1
  ·rcases CI n hm with h1|h1
   ·exact .inr h1
   ·omega
 ·obtain⟨p,hp,h2,h3,gN,hh⟩:=k.box t hk;refine⟨p,hp,h2,h3,⟨by rw[hn];exact gN.1,fun iL=>?_⟩,by rw[bz];exact hh⟩;rcases gN.2 iL with h1|⟨s,q,hs,hq,e⟩
  ·exact .inl (Nat.le_trans h.fr.size h1)
  ·obtain⟨q',jH,_,_,hqb,_⟩:=h.box s (by rw[hs];decide);rw[hq]at jH;injection jH with jH;subst jH;rw[<-e];exact hqb.2 hs
 ·refine k.gA b o (h.gA b o ho x8) (fun he=>?_);rcases JY b he with h1|h1
  ·rw[ho]at h1;cases h1
  ·exact x8 h1
theorem aA.Es{b:Nat}{o o':Obj}(h:aA X ρ σ bx a w)(hb:ρ.hold b=some o)(hE:X.E b\/X.w0.heap.size<=b)(h0:X.r0.hold b=none\/X.E b)(hd:o≠ .deferred (some []))(hn:Obj.Fi o=false)(ho:Obj.nv o'=false){w':World}(hw:Fr (fun k=>k=b) w w')(kg:w'.heap[b]? =some o')(hY:X.Y (bU X.lo bx) (fun k=>if k=b then some o' else ρ.hold k)):
 aA X ⟨ρ.at_,fun k=>if k=b then some o' else ρ.hold k⟩ σ bx a w':=by
 obtain⟨g1,g2⟩:=h.hold b o hb;have fP:∀k,mO w w' k:=by
  intro k o1 ea hc;refine(hw.block k (Array.getElem?_eq_some_iff.1 ea).1 (fun e=>?_)).trans ea;subst e;rw[g1]at ea;injection ea with ea;subst ea;rw[g2]at hc;cases hc
 have hS:∀k,az X ρ bx w k->az X ⟨ρ.at_,fun k=>if k=b then some o' else ρ.hold k⟩ bx w' k:=fun k hk=>⟨Nat.lt_of_lt_of_le hk.1 hw.size,hk.2.1,hk.2.2⟩
 refine⟨h.fr.step hw (fun n hn hm=>?_),h.s0,h.nb,h.mb,h.ec,h.size,h.marks.fg (fun k _=>fP k) hS (fun _ _ _ h=>h) (fun r _ hr=>?_),h.qh,h.rQ,fun t=>(h.tmps t).fg (fun k _=>fP k) hS (fun _ _ _ h=>h),h.fK.fg (fun k _=>fP k) hS (fun _ _ _ h=>h),fun t hk=>?_,h.inj,h.ou,h.r0,fun k o1 ea=>?_,fun k o1 ea x8=>?_,h.yc,hY,h.y0,h.kl,h.maps.of (fun t ht=>⟨ht,rfl,rfl⟩) (fun _ _ _ h=>h) (fun t p o1 ht hp ea=>?_) (fun _ h=>h)⟩
 ·subst hm;rcases hE with h1|h1
  ·exact .inr h1
  ·omega
 ·show(if r=b then some o' else ρ.hold r)=_;rw[if_neg]
  ·exact hr
  ·intro e;subst e;rw[hb]at hr;injection hr with hr;exact hd hr
 ·obtain⟨p,hp,h2,h3,h4,h5⟩:=h.box t hk;exact⟨p,hp,h2,h3,h4,h5.fg (fP _) (fun k _=>fP k) hS (fun _ _ _ h=>h)⟩
 ·by_cases e:k=b
  ·subst e;simp only[if_true,sJ]at ea;subst ea;exact⟨kg,ho⟩
  ·simp only[e,if_false]at ea;obtain⟨k1,k2⟩:=h.hold k o1 ea;exact⟨(hw.block k (Array.getElem?_eq_some_iff.1 k1).1 e).trans k1,k2⟩
 ·show(if k=b then some o' else ρ.hold k)=_;by_cases e:k=b
  ·subst e;rcases h0 with h1|h1
   ·rw[ea]at h1;cases h1
   ·exact absurd h1 x8
  ·rw[if_neg e];exact h.gA k o1 ea x8
 ·show(if p.b=b then some o' else ρ.hold p.b)=_;rw[if_neg]
  ·exact ea
  ·intro e;obtain⟨q,o2,g1,g2,_,g4⟩:=h.maps.has t ht;rw[hp]at g1;injection g1 with g1;subst g1;rw[e,hb]at g2;injection g2 with g2;subst g2;rw[g4.Fi]at hn;cases hn
theorem aA.Ao{o:Obj}(h:aA X ρ σ bx a w)(ho:Obj.nv o=false):aA X ⟨ρ.at_,fun k=>if k=w.heap.size then some o else ρ.hold k⟩ σ bx a (w.alloc o):=by
 have hx:=h.ext ((Below.refl w.heap.size w).alloc (Nat.le_refl _) o);have ar:∀k o1,ρ.hold k=some o1->k≠w.heap.size:=fun k o1 h1 e=>by
  have:=(Array.getElem?_eq_some_iff.1 (h.hold k o1 h1).1).1;omega
 have fP:∀k o1,ρ.hold k=some o1->(if k=w.heap.size then some o else ρ.hold k)=some o1:=fun k o1 h1=>by rw[if_neg (ar k o1 h1)];exact h1
 refine⟨hx.fr,hx.s0,hx.nb,hx.mb,hx.ec,hx.size,hx.marks.mono (fun _ _=>rfl) (fun _ h=>h) (fun _ _ _ h=>h) (fun r hr=>fP r _ hr),hx.qh,hx.rQ,fun t=>(hx.tmps t).mono (fun _ _=>rfl) (fun _ h=>h) (fun _ _ _ h=>h),hx.fK.mono (fun _ _=>rfl) (fun _ h=>h) (fun _ _ _ h=>h),fun t hk=>?_,hx.inj,hx.ou,hx.r0,fun k o1 ea=>?_,fun k o1 ea x8=>fP k o1 (h.gA k o1 ea x8),h.yc,h.yc _ _ _ h.inv fP,h.y0,h.kl,h.maps.of (fun t ht=>⟨ht,rfl,rfl⟩) (fun _ _ _ h=>h) (fun t p o1 ht hp ea=>fP _ o1 ea) (fun _ h=>h)⟩
 ·obtain⟨p,hp,h2,h3,h4,h5⟩:=hx.box t hk;exact⟨p,hp,h2,h3,h4,h5.mono rfl (fun _ _=>rfl) (fun _ h=>h) (fun _ _ _ h=>h)⟩
 ·by_cases e:k=w.heap.size
  ·subst e;simp only[if_true,sJ]at ea;subst ea;exact⟨heap_alloc_new w o,ho⟩
  ·simp only[e,if_false]at ea;exact hx.hold k o1 ea
theorem aA.switch{σ':Env}{a':Act}(h:aA X ρ σ bx a w)(hs:a'.tmps.size=X.N)(hm:Mk w (az X ρ bx w) ρ X.md X.ml (σ' en) a'.defers)(ht:∀t,aJ w (az X ρ bx w) ρ (σ' t) (a'.tmps.getD t undef)):aA X ρ σ' bx a' w:=
 {h with size:=hs,marks:=hm,tmps:=ht}
theorem Defs.mem{S:Nat->Prop}{m:Nat}{l:List D}{ds:List Deferred}(h:Defs w S ρ m l ds):∀r,iu r∈ds->ρ.hold r=some (.deferred (some [])):=by
 induction h with
 |nil=>intro r hr;simp at hr
 |@mark l r0 ds h0 hm hn _ ih=>
  intro r hr;rcases List.mem_cons.1 hr with e|hr
  ·have:r=r0:=by simp only[iu,Deferred.mk.injEq,Target.collected.injEq]at e;exact e.1
   subst this;exact h0
  ·exact ih r hr
 |call _ _ _ _ _ ih=>
  intro r hr;rcases List.mem_cons.1 hr with e|hr
  ·simp[iu]at e
  ·exact ih r hr
theorem aA.MD{r:Nat}{ds:List Deferred}(h:aA X ρ σ bx a w)(hd:a.defers=iu r::ds)(Sr:X.ml=X.w0.heap.size)(mR:X.md≠1){w':World}(hw:Fr (fun k=>k=r) w w')(kg:w'.heap[r]? =some (.deferred none))(bH:X.lo=0):
 ∃ρ',aA X ρ' σ bx {a with defers:=ds} w'/\(∀b o,ρ.hold b=some o->o≠ .deferred (some [])->ρ'.hold b=some o)/\∀d v,aJ w (az X ρ bx w) ρ d v->aJ w' (az X ρ' bx w') ρ' d v:=by
 obtain⟨l,hl,hm⟩:∃l,(l=if X.md=0 then[]else qn (σ en))/\Defs w (az X ρ bx w) ρ X.ml l (iu r::ds):=by
  have hm:=h.marks;rw[hd]at hm;exact⟨_,rfl,(hm.resolve_left mR).1⟩
 have WG:X.md≠3:=by
  intro h3;have:=(h.marks.resolve_left mR).2 h3;rw[hd]at this;cases this
 have hh:=hm.mem r (List.mem_cons_self ..);obtain⟨AO,hn,qb⟩:X.ml<=r/\iu r∉ds/\Defs w (az X ρ bx w) ρ X.ml l ds:=by
  generalize hx:iu r::ds=dd at hm;cases hm with
  |nil=>cases hx
  |@mark _ q _ h1 h2 h3 h4=>
   injection hx with e1 e2;have:r=q:=by simp only[iu,Deferred.mk.injEq,Target.collected.injEq]at e1;exact e1.1
   subst this;subst e2;exact⟨h2,h3,h4⟩
  |call=>injection hx with e1 e2;simp[iu]at e1
 obtain⟨g1,g2⟩:=h.hold r _ hh;have fP:∀k,mO w w' k:=by
  intro k o1 ea hc;refine(hw.block k (Array.getElem?_eq_some_iff.1 ea).1 (fun e=>?_)).trans ea;subst e;rw[g1]at ea;injection ea with ea;subst ea;rw[g2]at hc;cases hc
 have hS:∀k,az X ρ bx w k->az X ⟨ρ.at_,fun k=>if k=r then some (.deferred none)else ρ.hold k⟩ bx w' k:=fun k hk=>⟨Nat.lt_of_lt_of_le hk.1 hw.size,hk.2.1,hk.2.2⟩
 have hmarks:Mk w' (az X ⟨ρ.at_,fun k=>if k=r then some (.deferred none)else ρ.hold k⟩ bx w') ⟨ρ.at_,fun k=>if k=r then some (.deferred none)else ρ.hold k⟩ X.md X.ml (σ en) ds:=by
  refine .inr ⟨?_,fun h3=>absurd h3 WG⟩;rw[<-hl];refine qb.fg (fun k _=>fP k) hS (fun _ _ _ h=>h) fun q hq WS=>?_;show(if q=r then some (.deferred none)else ρ.hold q)=_;rw[if_neg]
  ·exact WS
  ·rintro rfl;exact hn hq
 refine⟨⟨ρ.at_,fun k=>if k=r then some (.deferred none)else ρ.hold k⟩,⟨h.fr.step hw (fun n hn hm=>?_),h.s0,h.nb,h.mb,h.ec,h.size,hmarks,h.qh,h.rQ,fun t=>(h.tmps t).fg (fun k _=>fP k) hS (fun _ _ _ h=>h),h.fK.fg (fun k _=>fP k) hS (fun _ _ _ h=>h),fun t hk=>?_,h.inj,h.ou,h.r0,fun k o1 ea=>?_,fun k o1 ea x8=>?_,h.yc,h.y0 bH _ _,h.y0,h.kl,h.maps.of (fun t ht=>⟨ht,rfl,rfl⟩) (fun _ _ _ h=>h) (fun t p o1 ht hp ea=>?_) (fun _ h=>h)⟩,fun b o ho aQ=>?_,fun d v hr=>hr.fg (fun k _=>fP k) hS (fun _ _ _ h=>h)⟩
 ·subst hm;omega
 ·obtain⟨p,hp,h2,h3,h4,h5⟩:=h.box t hk;exact⟨p,hp,h2,h3,h4,h5.fg (fP _) (fun k _=>fP k) hS (fun _ _ _ h=>h)⟩
 ·by_cases e:k=r
  ·subst e;simp only[if_true,sJ]at ea;subst ea;exact⟨kg,rfl⟩
  ·simp only[e,if_false]at ea;obtain⟨k1,k2⟩:=h.hold k o1 ea;exact⟨(hw.block k (Array.getElem?_eq_some_iff.1 k1).1 e).trans k1,k2⟩
 ·show(if k=r then some (.deferred none)else ρ.hold k)=_;rw[if_neg]
  ·exact h.gA k o1 ea x8
  ·intro e;subst e;have:=h.kl k o1 ea;omega
 ·show(if p.b=r then some (.deferred none)else ρ.hold p.b)=_;rw[if_neg]
  ·exact ea
  ·intro e;obtain⟨q,o2,g1,g2,_,g4⟩:=h.maps.has t ht;rw[hp]at g1;injection g1 with g1;subst g1;rw[e,hh]at g2;injection g2 with g2;subst g2;exact g4.nv.2 _ rfl
 ·show(if b=r then some (.deferred none)else ρ.hold b)=_;rw[if_neg]
  ·exact ho
  ·intro e;subst e;rw[hh]at ho;injection ho with ho;exact aQ ho.symm
theorem aA.take{r:Nat}{ds:List Deferred}(h:aA X ρ σ bx a w)(hd:a.defers=iu r::ds)(Sr:X.ml=X.w0.heap.size)(mR:X.md≠1){w':World}(hw:Fr (fun k=>k=r) w w')(kg:w'.heap[r]? =some (.deferred none))(bH:X.lo=0):
 ∃ρ',aA X ρ' σ bx {a with defers:=ds} w'/\∀b o,ρ.hold b=some o->o≠ .deferred (some [])->ρ'.hold b=some o:=
 let ⟨ρ',h1,h2,_⟩:=h.MD hd Sr mR hw kg bH
 ⟨ρ',h1,h2⟩
end Go.V
namespace Go.V
open Go.RowKit
section inv
variable {w:World} {S:Nat->Prop} {ρ:cQ} {v:Value}
theorem aJ.ed{k:IntKind}{n:Int}(h:aJ w S ρ (.int k n) v):v= .int k n:=by cases h with|pure h=>cases h;rfl
theorem aJ.jR{b:Bool}(h:aJ w S ρ (.bool b) v):v= .bool b:=by cases h with|pure h=>cases h;rfl
theorem aJ.iW{l:List UInt8}(h:aJ w S ρ (.str l) v):v= .string ⟨l.toArray⟩:=by cases h with|pure h=>cases h;rfl
theorem aJ.Ea{x:Value}(h:aJ w S ρ (.raw x) v):v=x:=by cases h with|pure h=>cases h;rfl
theorem aJ.gi(h:aJ w S ρ .aq v):v= .slice none 0 0:=by cases h with|pure h=>cases h;rfl
theorem aJ.lP{t e i j:Nat}(h:aJ w S ρ (.loc t e i j) v):∃p,ρ t e=some p/\v= .pointer (some ⟨p.b,i * p.sz+j,none⟩):=by
 cases h with
 |pure h=>cases h
 |loc hp hq=>subst hq;exact⟨_,hp,rfl⟩
theorem aJ.pI{ds:List D}(h:aJ w S ρ (.agg ds) v):∃vs,v= .agg vs/\vs.size=ds.length/\∀(i:Nat) d u,ds[i]? =some d->vs[i]? =some u->aJ w S ρ d u:=by
 cases h with
 |pure h=>cases h with|agg hl h=>exact⟨_,rfl,hl,fun i d u hd hu=> .pure (h i d u hd hu)⟩
 |agg hl h=>exact⟨_,rfl,hl,h⟩
theorem aJ.Kr{ds:List D}(h:aJ w S ρ (.aI ds) v):∃vs,v= .tuple vs/\vs.size=ds.length/\∀(i:Nat) d u,ds[i]? =some d->vs[i]? =some u->aJ w S ρ d u:=by
 cases h with
 |pure h=>cases h with|aI hl h=>exact⟨_,rfl,hl,fun i d u hd hu=> .pure (h i d u hd hu)⟩
 |aI hl h=>exact⟨_,rfl,hl,h⟩
theorem aJ.wg{f:Fn}{ds:List D}(h:aJ w S ρ (.fn f ds) v):∃vs,v= .func f #[] vs/\vs.size=ds.length/\∀(i:Nat) d u,ds[i]? =some d->vs[i]? =some u->aJ w S ρ d u:=by
 cases h with
 |pure h=>cases h with|fn hl h=>exact⟨_,rfl,hl,fun i d u hd hu=> .pure (h i d u hd hu)⟩
 |fn hl h=>exact⟨_,rfl,hl,h⟩
theorem aJ.Kq{f:FuncId}{ds:List D}(h:aJ w S ρ (.iC f ds) v):∃vs,v= .func (.func f) vs #[]/\vs.size=ds.length/\∀(i:Nat) d u,ds[i]? =some d->vs[i]? =some u->aJ w S ρ d u:=by
 cases h with
 |pure h=>cases h with|iC hl h=>exact⟨_,rfl,hl,fun i d u hd hu=> .pure (h i d u hd hu)⟩
 |iC hl h=>exact⟨_,rfl,hl,h⟩
end inv
variable {P:Program} {X:Ctx} {ρ:cQ} {σ:Env} {bx:ae} {a:Act} {w:World}
theorem lT{t:TypeId}(h:0<cK P t):∃i d,P.info? t=some i/\P.underlying t=some d/\i.size=cK P t:=by
 unfold cK at h⊢;cases hu:P.underlying t with
 |none=>simp[hu]at h
 |some d=>
  simp only[hu,Option.isSome_some,if_true]at h⊢;cases hi:P.info? t with
  |none=>simp[hi]at h
  |some i=>exact⟨i,d,by first|rfl|trivial,by first|rfl|trivial,by first|rfl|trivial⟩
def Uy{t:TypeId}(h:0<(an P t).size):∃i d,P.info? t=some i/\P.underlying t=some d/\i.size=(an P t).size/\(an P t).size=cK P t:=by
 obtain⟨i,d,h1,h2,h3⟩:=lT (P:=P) (t:=t) h;exact⟨i,d,h1,h2,h3,rfl⟩
def dh{t:TypeId}(h:0<cK P t)(w:World):(sizeOf t).run P w= .ok (cK P t) w:=by
 obtain⟨i,d,h1,_,h3⟩:=lT h;rw[<-h3];simp[sizeOf,typeInfo,h1,go_sem]
def qZ{t:TypeId}{d:TypeDesc}(h:P.underlying t=some d)(w:World):(isAgg t).run P w= .ok (o_ P t) w:=by
 simp only[isAgg,Sem.run_bind,run_underlying h,Result.andThen_ok,o_,h];cases d<;>simp
theorem dt{t e esz b:Nat}{ag:Bool}(h:(an P t).k= .slice e esz b ag):P.underlying t=some (.slice e)/\esz=cK P e/\b=((P.info? e).map (·.bytes)).getD 0/\ag=o_ P e:=by
 simp only[an]at h;cases hu:P.underlying t with
 |none=>simp[hu]at h
 |some d=>cases d<;>simp[hu]at h<;>(obtain⟨rfl,rfl,rfl,rfl⟩:=h;exact⟨rfl,rfl,rfl,rfl⟩)
def pQ{t:TypeId}{fs:List (Nat×Nat×Bool)}{eq:List Nat}(h:(an P t).k= .struct fs eq):∃F:Array Field,P.underlying t=some (.struct F)/\fs=F.toList.map (fun f=>(f.offset,cK P f.type,o_ P f.type))/\
 eq=(if F.toList.all (fun f=>f.name != "_"&&o0 P f.type&&cK P f.type==1)&& !P.stoodInHeld t&& !P.eqGuardType P.depth t&&(F.toList.map (·.offset))==List.range F.size&&cK P t==F.size then F.toList.map fun f=>o7 P f.type else Cx P t F):=by
 simp only[an]at h;cases hu:P.underlying t with
 |none=>simp[hu]at h
 |some d=>
  cases d<;>simp only[hu]at h<;>first|(cases h;done)|skip
  rename_i F;injection h with h1 h2;exact⟨F,rfl,h1.symm,h2.symm⟩
theorem qs{t:TypeId}(h:(an P t).k= .str):P.underlying t=some .string:=by
 simp only[an]at h;cases hu:P.underlying t with
 |none=>simp[hu]at h
 |some d=>cases d<;>simp[hu]at h;rfl
theorem KT{t:TypeId}(h:(an P t).k= .bool):P.underlying t=some .bool:=by
 simp only[an]at h;cases hu:P.underlying t with
 |none=>simp[hu]at h
 |some d=>cases d<;>simp[hu]at h;rfl
theorem uw{t:TypeId}{k:IntKind}(h:(an P t).k= .int k):P.underlying t=some (.int k):=by
 simp only[an]at h;cases hu:P.underlying t with
 |none=>simp[hu]at h
 |some d=>cases d<;>simp[hu]at h;rw[h]
theorem wy{t n esz:Nat}{ag:Bool}(h:(an P t).k= .arr n esz ag):∃e,P.underlying t=some (.array n e)/\esz=cK P e/\ag=o_ P e:=by
 simp only[an]at h;cases hu:P.underlying t with
 |none=>simp[hu]at h
 |some d=>
  cases d<;>simp[hu]at h;obtain⟨rfl,h2,h3⟩:=h;exact⟨_,rfl,h2.symm,h3.symm⟩
theorem O7{t:TypeId}(h:(an P t).k= .dI):∃ms,P.underlying t=some (.interface ms):=by
 simp only[an]at h;cases hu:P.underlying t with
 |none=>simp[hu]at h
 |some d=>cases d<;>simp[hu]at h;exact⟨_,rfl⟩
theorem IX{t:TypeId}(h:(an P t).k≠ .none)(h2:(an P t).k≠ .dI):∃d,P.underlying t=some d/\∀ms,d≠ .interface ms:=by
 simp only[an]at h h2;cases hu:P.underlying t with
 |none=>simp[hu]at h
 |some d=>
  refine⟨d,rfl,?_⟩;rintro ms rfl;simp[hu]at h2
def FK{t b o:Nat}{us:Nat->Value}(hz:0<(an P t).size)(hc:∀j,j<(if(an P t).agg then(an P t).size else 1)->w.cell? ⟨b,o+j,none⟩=some (us j)):
 (loadVar t ⟨b,o,none⟩).run P w= .ok (if(an P t).agg then .agg ((List.range (an P t).size).map us).toArray else us 0) w:=by
 obtain⟨i,d,hi,hd,hs,sC⟩:=Uy hz;have hU:(an P t).agg=o_ P t:=rfl;rw[sC]at hz;simp only[loadVar,Sem.run_bind,qZ hd,Result.andThen_ok,hU]at hc⊢;cases hA:o_ P t with
 |false=>
  have h0:=hc 0 (by simp[hA]);simp only[Nat.add_zero]at h0;simp[load,Sem.run,h0]
 |true=>
  simp only[if_true,Sem.run_bind,dh hz,Result.andThen_ok];have hl:((List.range (cK P t)).map us).length=cK P t:=by simp
  have:=run_loadCells_list (P:=P) (w:=w) ⟨b,o,none⟩ ((List.range (cK P t)).map us) (fun j v hj=>by
   have pE:j<cK P t:=by have:=(gS.1 hj).1;simpa using this
   simp only[gM,List.getElem?_range pE,Option.map_some,sJ]at hj;subst hj;rw[<-sC]at pE;have:=hc j (by simpa[hA]using pE);simp only[Addr.add];by_cases h0:j=0
   ·subst h0;simpa using this
   ·simp[h0];exact this)
  rw[hl]at this;simp[this,sC]
def Ii{S:Nat->Prop}{d r:D}{j k:Nat}{ag:Bool}{us:Nat->Value}(hp:jA d j ag k=some r)(hu:∀m c,m<(if ag then k else 1)->d.cells[j+m]? =some c->aJ w S ρ c (us m)):
 aJ w S ρ r (if ag then .agg ((List.range k).map us).toArray else us 0):=by
 unfold jA at hp;cases ag with
 |true=>
  simp only[if_true]at hp⊢;split at hp
  ·rename_i hle;injection hp with hp;subst hp;refine .agg (by simp;omega) fun i c v hc hv=>?_;have hi:i<k:=by
    have:=(Array.getElem?_eq_some_iff.1 hv).1;simpa using this
   simp only[List.getElem?_toArray,gM,List.getElem?_range hi,Option.map_some,sJ]at hv;subst hv;rw[List.getElem?_take_of_lt hi,List.getElem?_drop]at hc;exact hu i c (by simpa using hi) hc
  ·cases hp
 |false=>
  simp only[Bool.false_eq_true,if_false]at hp⊢;exact hu 0 r sI (by simpa using hp)
def KD{d r:D}{j k:Nat}{ag:Bool}(hp:jA d j ag k=some r):∀m,m<(if ag then k else 1)->∃c,d.cells[j+m]? =some c:=by
 intro m hm;unfold jA at hp;cases ag with
 |true=>
  simp only[if_true]at hp hm;split at hp
  ·exact⟨_,gE oM⟩
  ·cases hp
 |false=>
  simp only[Bool.false_eq_true,if_false]at hp hm;obtain rfl:m=0:=oM;exact⟨r,by simpa using hp⟩
def Yields(P:Program)(X:Ctx)(ρ:cQ)(bx:ae)(a:Act)(w:World)(o:Oper)(d:D):Prop:=
 ∃v w',(execOp a.eval o).run P w= .ok (.value v) w'/\Below w.heap.size w w'/\aJ w' (az X ρ bx w') ρ d v
def aR{o:Oper}{d:D}(v:Value)(bQ:(execOp a.eval o).run P w= .ok (.value v) w)(hr:aJ w (az X ρ bx w) ρ d v):Yields P X ρ bx a w o d:=⟨v,w,bQ,Below.refl _ _,hr⟩
variable {dst:Option Tmp} {ty:TypeId} {pos:String} {af:Array Edge} {g:Option (Nat×Bool)}
theorem A3(h:aA X ρ σ bx a w){t:TypeId}{dx d:D}{vx:Value}(hx:aJ w (az X ρ bx w) ρ dx vx)(hv:iH (an P t) bx dx=some d):∃ad v,vx= .pointer (some ad)/\(loadVar t ad).run P w= .ok v w/\aJ w (az X ρ bx w) ρ d v:=by
 cases dx with
 |loc s e i j=>
  simp only[iH]at hv;split at hv
  ·rename_i hc;obtain⟨he,hk,hz⟩:=hc;obtain⟨p,hp,eN⟩:=hx.lP;obtain⟨p',bL,_,_,_,hh⟩:=h.box s hk;rw[he,hp]at bL;injection bL with bL;subst bL;cases hi:(bx s).es[i]? with
   |none=>simp[hi]at hv
   |some d0=>
    simp only[hi,Option.bind_some]at hv;have ar:=KD hv;have jx:∀m,∃u,m<(if(an P t).agg then(an P t).size else 1)->w.cell? ⟨p.b,i * p.sz+j+m,none⟩=some u/\∀c,d0.cells[j+m]? =some c->aJ w (az X ρ bx w) ρ c u:=by
     intro m;by_cases hm:m<(if(an P t).agg then(an P t).size else 1)
     ·obtain⟨c,hc⟩:=ar m hm;obtain⟨u,hu,hr,_⟩:=hh.cell hi hc;exact⟨u,fun _=>⟨by rw[Nat.add_assoc];exact hu,fun c' fT=>by rw[hc]at fT;injection fT with fT;subst fT;exact hr⟩⟩
     ·exact⟨undef,fun tT=>absurd tT hm⟩
    let us:Nat->Value:=fun m=>Classical.choose (jx m);have gB:∀m,m<(if(an P t).agg then(an P t).size else 1)->w.cell? ⟨p.b,i * p.sz+j+m,none⟩=some (us m)/\∀c,d0.cells[j+m]? =some c->aJ w (az X ρ bx w) ρ c (us m):=fun m=>Classical.choose_spec (jx m);exact⟨_,_,eN,FK hz (fun m hm=>(gB m hm).1),Ii hv (us:=us) fun m c hm hc=>(gB m hm).2 c hc⟩
  ·cases hv
 |cG d0 j=>
  simp only[iH]at hv;split at hv
  ·rename_i hz;have eO:bB w (az X ρ bx w) (.cG d0 j) vx:=hx.fC rfl;cases eO with
   |@cG _ _ b off p us hb hp hc h1 hr=>
    have ar:=KD hv;subst hp;exact⟨_,_,rfl,FK (us:=fun m=>us (j+m)) hz (fun m hm=>by obtain⟨c,pZ⟩:=ar m hm;rw[Nat.add_assoc];exact hc _ _ pZ),Ii hv (us:=fun m=>us (j+m)) fun m c hm pZ=> .pure (hr _ _ pZ)⟩
  ·cases hv
 |_=>simp[iH]at hv
def LW(h:aA X ρ σ bx a w){t:TypeId}{x:Operand}{d:D}(hv:iH (an P t) bx (ev σ x)=some d):Yields P X ρ bx a w ⟨dst,.load t x,ty,pos,af,g⟩ d:=by
 obtain⟨ad,v,h1,h2,h3⟩:=A3 h (h.ev x) hv;exact aR v (by simp only[execOp,Instr.loadAt,Instr.sureAddr,h1,Sem.run_bind,Sem.run_pure,Result.andThen_ok,h2]) h3
theorem Addr.ei(b o k:Nat):(⟨b,o,none⟩:Addr).add k=⟨b,o+k,none⟩:=by
 unfold Addr.add;split
 ·rename_i h;subst h;rfl
 ·rfl
def C3(h:aA X ρ σ bx a w){t:TypeId}{x y:Operand}{d:D}(hv:oX (ev σ y) (fa (an P t) (ev σ x))=some d):Yields P X ρ bx a w ⟨dst,.indexAddr t x y,ty,pos,af,g⟩ d:=by
 have hx:=h.ev x;have hy:=h.ev y;generalize ev σ x=dx at hv hx;generalize ev σ y=dy at hv hy;cases dy with
 |int k n=>
  have hy:=hy.ed;simp only[oX,fa]at hv;cases hk:(an P t).k with
  |slice e esz b ag=>
   simp only[hk]at hv;obtain⟨hu,he,_,_⟩:=dt hk;have key:∀sz es,bB w (az X ρ bx w) (.sl sz es) (a.eval x)->(if 0<=n/\sz=esz/\0<esz then(es[n.toNat]?).map fun d=>D.cG d 0 else none)=some d->Yields P X ρ bx a w ⟨dst,.indexAddr t x y,ty,pos,af,g⟩ d:=by
    intro sz es eO eN;split at eN
    ·rename_i hc;obtain⟨h0,bP,eM⟩:=hc;subst bP;cases hi:es[n.toNat]? with
     |none=>rw[hi]at eN;cases eN
     |some d0=>
      rw[hi]at eN;injection eN with eN;subst eN;generalize fc:a.eval x=vx at eO;cases eO with
      |@sl _ _ A m cap b' off us hn dK jd hA bP hc h1 hr=>
       obtain⟨rfl,hb⟩:=hA (by rintro rfl;simp at hi);have ar:n.toNat<es.length:=(gS.1 hi).1;refine aR (.pointer (some ⟨b',off+n.toNat * sz,none⟩)) ?_ (.pure (.cG (off:=off+n.toNat * sz) (us:=us n.toNat) hb rfl (fun m c hm=>hc _ _ _ _ hi hm) (fun m c hm=>h1 _ _ _ _ hi hm) (fun m c hm=>hr _ _ _ _ hi hm)));have ke:0<=n/\n<((m:Nat):Int):=⟨h0,by omega⟩
       simp only[execOp,Instr.indexAt,hy,fc,asIntOf,Sem.run_bind,Sem.run_pure,Result.andThen_ok,run_underlying hu,ke,and_self,if_true,dh (he▸eM),Addr.ei,<-he]
    ·cases eN
   cases dx with
   |sl sz es=>exact key sz es (hx.fC rfl) hv
   |ij sz es=>exact key sz es (hx.fC rfl).rT hv
   |fJ s e' i j len=>
    simp only at hv;split at hv
    ·rename_i hc;obtain⟨h0,ar,h1⟩:=hc;injection hv with hv;subst hv;generalize fc:a.eval x=vx at hx;cases hx with
     |pure h=>cases h
     |@fJ _ _ _ _ _ off cap p hp dY hn dK=>
      have ke:0<=n/\n<((len:Nat):Int):=⟨h0,ar⟩
      have ho:=dY oM;subst ho;have yR:cK P e=1:=by rw[<-he,h1]
      refine aR (.pointer (some ⟨p.b,i * p.sz+j+n.toNat,none⟩)) ?_ (.loc hp oM);simp only[execOp,Instr.indexAt,hy,fc,asIntOf,Sem.run_bind,Sem.run_pure,Result.andThen_ok,run_underlying hu,ke,and_self,if_true,dh (by rw[yR];decide:0<cK P e),Addr.ei,yR,Nat.mul_one]
    ·cases hv
   |bp s e' sz o len=>
    simp only at hv;split at hv
    ·rename_i hc;obtain⟨h0,ar,bP,eM⟩:=hc;subst bP;injection hv with hv;subst hv;generalize fc:a.eval x=vx at hx;cases hx with
     |pure h=>cases h
     |@bp _ _ _ _ _ off cap p hp bP JY dY hn dK=>
      subst bP;have ke:0<=n/\n<((len:Nat):Int):=⟨h0,ar⟩
      have ho:=dY oM;subst ho;refine aR (.pointer (some ⟨p.b,o * p.sz+n.toNat * p.sz,none⟩)) ?_ (.loc hp (by rw[Nat.add_mul,Nat.add_zero]));simp only[execOp,Instr.indexAt,hy,fc,asIntOf,Sem.run_bind,Sem.run_pure,Result.andThen_ok,run_underlying hu,ke,and_self,if_true,dh (he▸eM),Addr.ei,<-he]
    ·cases hv
   |_=>simp at hv
  |arr len esz ag=>
   simp only[hk]at hv;obtain⟨e,hu,he,_⟩:=wy hk;split at hv
   ·rename_i hc;obtain⟨h0,ar,h1,eM⟩:=hc;have ke:0<=n/\n<((len:Nat):Int):=⟨h0,ar⟩
    cases dx with
    |loc s e' i j=>
     simp only[k_,sJ]at hv;subst hv;obtain⟨p,hp,fc⟩:=hx.lP;refine aR (.pointer (some ⟨p.b,i * p.sz+j+n.toNat * esz,none⟩)) ?_ (.loc hp oM);simp only[execOp,Instr.indexAt,Instr.sureAddr,hy,fc,asIntOf,Sem.run_bind,Sem.run_pure,Result.andThen_ok,run_underlying hu,ke,and_self,if_true,dh (he▸eM),Addr.ei,<-he]
    |cG d0 j=>
     simp only[k_,sJ]at hv;subst hv;have eO:bB w (az X ρ bx w) (.cG d0 j) (a.eval x):=hx.fC rfl;generalize fc:a.eval x=vx at eO;cases eO with
     |@cG _ _ b off p us hb hp hc h1 hr=>
      refine aR (.pointer (some ⟨b,p+n.toNat * esz,none⟩)) ?_ (.pure (.cG (us:=us) hb oM hc h1 hr));simp only[execOp,Instr.indexAt,Instr.sureAddr,hy,fc,asIntOf,Sem.run_bind,Sem.run_pure,Result.andThen_ok,run_underlying hu,ke,and_self,if_true,dh (he▸eM),Addr.ei,<-he]
    |_=>simp[k_]at hv
   ·cases hv
  |_=>simp[hk]at hv
 |_=>simp[oX]at hv
end Go.V
namespace Go.V
open Go.RowKit
variable {P:Program} {X:Ctx} {ρ:cQ} {σ:Env} {bx:ae} {a:Act} {w:World}
variable {dst:Option Tmp} {ty:TypeId} {pos:String} {af:Array Edge} {g:Option (Nat×Bool)}
def JT{S:Nat->Prop}{t:TypeId}{n:Nat}{x y:D}{vx vy:Value}{b:Bool}(h:uM x y=some b)(hx:aJ w S ρ x vx)(hy:aJ w S ρ y vy)
 (ht:(∃k m,x= .int k m/\∃k',P.underlying t=some (.int k'))\/(∃m,x= .bool m/\P.underlying t=some .bool)\/(∃m,x= .str m/\P.underlying t=some .string)):
 (Op.equalIn (n+1) t vx vy).run P w= .ok b w:=by
 rcases ht with⟨k,m,rfl,k',hu⟩|⟨m,rfl,hu⟩|⟨m,rfl,hu⟩<;>cases y<;>simp only[uM]at h<;>try (cases h;done)
 ·split at h
  ·rename_i hk;subst hk;injection h with h;subst h;rw[hx.ed,hy.ed,run_equalIn_int w n t _ _ _ _ hu]
  ·cases h
 ·injection h with h;subst h;rw[hx.jR,hy.jR,run_equalIn_bool' w n t _ _ hu]
 ·injection h with h;subst h;rw[hx.iW,hy.iW,run_equalIn_string w n t _ _ hu,ByteArray.toList_eq,ByteArray.toList_eq]
def wT(P:Program)(t:TypeId)(x:D):Prop:=
 (∃k m,x= .int k m/\∃k',P.underlying t=some (.int k'))\/(∃m,x= .bool m/\P.underlying t=some .bool)\/(∃m,x= .str m/\P.underlying t=some .string)
def Gu(op:BinOp)(k k':IntKind)(x y:Int)(d:D)(h:zL op k x y=some d)(t:TypeId)(S:Nat->Prop):∃v,(binOp op t (.int k x) (.int k' y)).run P w= .ok v w/\aJ w S ρ d v:=by
 unfold zL at h;split at h
 ·cases h
 ·rename_i hy;cases op<;>simp only at h<;>try (cases h;done)
  ·injection h with h;subst h;exact⟨_,by simp[binOp,Op.shift,hy],.pure (.int _ _)⟩
  ·injection h with h;subst h;exact⟨_,by simp[binOp,Op.shift,hy],.pure (.int _ _)⟩
def Tm(op:BinOp)(k:IntKind)(x y:Int)(d:D)(h:km op k x y=some d)(t:TypeId)(S:Nat->Prop):∃v,(binOp op t (.int k x) (.int k y)).run P w= .ok v w/\aJ w S ρ d v:=by
 cases op<;>simp only[km,Lb]at h<;>try (cases h;done)
 case add=>injection h with h;subst h;exact⟨_,by simp[binOp,Op.intArith],.pure (.int _ _)⟩
 case sub=>injection h with h;subst h;exact⟨_,by simp[binOp,Op.intArith],.pure (.int _ _)⟩
 case mul=>injection h with h;subst h;exact⟨_,by simp[binOp,Op.intArith],.pure (.int _ _)⟩
 case quo=>
  split at h
  ·cases h
  ·rename_i hy;injection h with h;subst h;exact⟨_,by simp[binOp,Op.intDiv,hy],.pure (.int _ _)⟩
 case rem=>
  split at h
  ·cases h
  ·rename_i hy;injection h with h;subst h;exact⟨_,by simp[binOp,Op.intDiv,hy],.pure (.int _ _)⟩
 case and=>injection h with h;subst h;exact⟨_,by simp[binOp,Op.intBits,du],.pure (.int _ _)⟩
 case or=>injection h with h;subst h;exact⟨_,by simp[binOp,Op.intBits,du],.pure (.int _ _)⟩
 case xor=>injection h with h;subst h;exact⟨_,by simp[binOp,Op.intBits,du],.pure (.int _ _)⟩
 case andNot=>injection h with h;subst h;exact⟨_,by simp[binOp,Op.intBits,du],.pure (.int _ _)⟩
 case shl=>exact Gu .shl k k x y d h t S
 case shr=>exact Gu .shr k k x y d h t S
 case eql=>injection h with h;subst h;exact⟨_,by simp[binOp,Op.intCmp],.pure (.bool _)⟩
 case neq=>injection h with h;subst h;exact⟨_,by simp[binOp,Op.intCmp],.pure (.bool _)⟩
 case lss=>injection h with h;subst h;exact⟨_,by simp[binOp,Op.intCmp],.pure (.bool _)⟩
 case leq=>injection h with h;subst h;exact⟨_,by simp[binOp,Op.intCmp],.pure (.bool _)⟩
 case gtr=>injection h with h;subst h;exact⟨_,by simp[binOp,Op.intCmp],.pure (.bool _)⟩
 case geq=>injection h with h;subst h;exact⟨_,by simp[binOp,Op.intCmp],.pure (.bool _)⟩
def Gx(l m:List UInt8):((⟨l.toArray⟩:ByteArray)++⟨m.toArray⟩)=⟨(l++m).toArray⟩:=by
 apply ByteArray.ext;simp
def Tn(op:BinOp)(x y:List UInt8)(d:D)(h:zR op x y=some d)(t:TypeId)(S:Nat->Prop):∃v,(binOp op t (.string ⟨x.toArray⟩) (.string ⟨y.toArray⟩)).run P w= .ok v w/\aJ w S ρ d v:=by
 cases op<;>simp only[zR]at h<;>try (cases h;done)
 case add=>
  split at h
  ·rename_i hl;injection h with h;subst h;refine⟨.string ⟨(x++y).toArray⟩,?_,.pure (.str _)⟩;have hle:¬(((⟨x.toArray⟩:ByteArray).size+(⟨y.toArray⟩:ByteArray).size:Nat):Int)>IntKind.i64.max:=by
    have:(IntKind.i64.max:Int)=9223372036854775807:=by decide
    rw[this];simp[ByteArray.size];omega
   simp only[binOp,Op.stringOp,hle,if_false,Sem.run_pure,Gx]
  ·cases h
 all_goals
  injection h with h;subst h;exact⟨_,by simp only[binOp,Op.stringOp,ByteArray.toList_eq,Sem.run_pure],.pure (.bool _)⟩
def rk(op:BinOp)(t:TypeId)(x y:Operand)(vx vy:Value)(h:(∃k n,vx= .int k n)\/(∃s,vx= .string s)\/(∃b,vx= .bool b)):(eqGuard op t x y vx vy).run P w= .ok () w:=by rcases h with⟨k,n,rfl⟩|⟨s,rfl⟩|⟨b,rfl⟩<;>cases op<;>simp[eqGuard]
def xk{t:TypeId}{off:Nat}{cs:Array Value}{v:Value}(hf:o0 P t=true)(hv:cs[off]? =some v):(part t cs off).run P w= .ok v w:=by
 have hu:∃d,P.underlying t=some d/\o_ P t=false:=by
  unfold o0 at hf;unfold o_;cases hu:P.underlying t with
  |none=>simp[hu]at hf
  |some d=>cases d<;>simp[hu]at hf<;>exact⟨_,rfl,rfl⟩
 obtain⟨d,hu,ha⟩:=hu;simp[part,qZ hu,ha,hv]
def GM{S:Nat->Prop}{vx vy:Array Value}{n:Nat}:∀(fs:List Field) (o:Nat) (xs ys:List D) (b:Bool),fs.all (fun f=>f.name != "_"&&o0 P f.type&&cK P f.type==1)=true->fs.map (·.offset)=List.range' o fs.length->
 fs.length=xs.length->jm xs ys=some b->(∀(i:Nat) d,xs[i]? =some d->∃v,vx[o+i]? =some v/\aJ w S ρ d v)->(∀(i:Nat) d,ys[i]? =some d->∃v,vy[o+i]? =some v/\aJ w S ρ d v)->
 (∀(i:Nat) f d,fs[i]? =some f->xs[i]? =some d->wT P f.type d)->(Op.eqFields (n+1) vx vy fs).run P w= .ok b w:=by
 intro fs;induction fs with
 |nil=>
  intro o xs ys b _ _ hl he _ _ _;cases xs with
  |nil=>cases ys with
   |nil=>simp[jm]at he;subst he;simp[Op.eqFields]
   |cons y ys=>simp[jm]at he
  |cons x xs=>simp at hl
 |cons f fs ih=>
  intro o xs ys b eH dY hl he hx hy jM;cases xs with
  |nil=>simp at hl
  |cons x xs=>
  cases ys with
  |nil=>simp[jm]at he
  |cons y ys=>
  simp only[List.all_cons,bA,bne_iff_ne,ne_eq,beq_iff_eq]at eH;obtain⟨⟨⟨hn,hf⟩,_⟩,F9⟩:=eH;simp only[mC,List.length_cons,List.range'_succ,List.cons.injEq]at dY;obtain⟨ho,dY⟩:=dY;obtain⟨v,hv,AW⟩:=hx 0 x rfl;obtain⟨u,hu,hru⟩:=hy 0 y rfl;simp only[Nat.add_zero]at hv hu;have Wx:=jM 0 f x rfl rfl;have Xk:=fun b h=>ih (o+1) xs ys b F9 dY (by simpa using hl) h (fun i d hd=>by have:=hx (i+1) d (by simpa using hd);rwa[show o+(i+1)=o+1+i from by omega]at this)
   (fun i d hd=>by have:=hy (i+1) d (by simpa using hd);rwa[show o+(i+1)=o+1+i from by omega]at this) (fun i f d hf hd=>jM (i+1) f d (by simpa using hf) (by simpa using hd))
  simp only[jm]at he;cases mu:uM x y with
  |none=>simp[mu]at he
  |some c=>
   have hr:=JT (n:=n) mu AW hru Wx;simp only[Op.eqFields,hn,not_false_eq_true,ne_eq,if_true,Sem.run_bind,ho,xk hf hv,xk hf hu,Result.andThen_ok,hr];cases c with
   |true=>
    simp only[mu]at he;simp only[nT,Bool.false_eq_true,if_false];exact Xk b he
   |false=>
    simp only[mu]at he;cases qO:jm xs ys with
    |none=>simp[qO]at he
    |some c'=>simp only[qO]at he;injection he with he;subst he;simp
def y_{k:Nat}{ks:List Nat}{ds:List D}(h:ct (k::ks) ds=true):∃d ds',ds=d::ds'/\ct ks ds'=true/\uM d d=some true/\∀t,o7 P t=k->wT P t d:=by
 unfold ct at h;split at h;all_goals first
  |contradiction
  |(cases h;done)
  |(
   rename_i he;injection he with e1 e2;subst e2;refine⟨_,_,rfl,h,by simp[uM],fun t ht=>?_⟩;rw[e1]at ht;unfold o7 at ht;unfold wT;cases hu:P.underlying t with
   |none=>simp[hu]at ht
   |some x=>cases x<;>simp[hu]at ht⊢)
def Cy{t:TypeId}{F:Array Field}{k:Nat}{ks:List Nat}(h:k::ks=Cx P t F):k=0/\yz P 0 F.toList=some ks/\P.stoodInHeld t=false/\P.eqGuardType P.depth t=false:=by
 unfold Cx at h;split at h
 ·rename_i l hl;split at h
  ·rename_i hc;simp only[bA,Bool.not_eq_true']at hc;injection h with h1 h2;subst h2;exact⟨h1,hl,hc.1,hc.2⟩
  ·cases h
 ·cases h
def HI{ks:List Nat}{ds:List D}:ct (0::ks) ds=false:=by cases ds<;>simp[ct]
def II{S:Nat->Prop}{t:TypeId}{n:Nat}{d:D}{v:Value}(h:uM d d=some true)(hf:wT P t d)(hv:aJ w S ρ d v):(Op.equalIn (n+1) t v v).run P w= .ok true w:=JT h hv hv hf
theorem yC{e:TypeId}{n:Nat}{cs:Array Value}(hf:o0 P e=true):∀is:List Nat,(∀i∈is,∃v,cs[i]? =some v/\(Op.equalIn (n+1) e v v).run P w= .ok true w)->(Op.eqItems (n+1) e 1 cs cs is).run P w= .ok true w
 |[],_=>by simp[Op.eqItems]
 |i::is,h=>by
  obtain⟨v,h1,h2⟩:=h i sI;simp only[Op.eqItems,Sem.run_bind,Nat.mul_one,xk hf h1,Result.andThen_ok,h2,nT,Bool.false_eq_true,if_false];exact yC hf is fun j hj=>h j (by simp[hj])
theorem Fm:∀ {k1 k2:List Nat} {ds:List D},ct (k1++k2) ds=true->∃a b,ds=a++b/\a.length=k1.length/\ct k1 a=true/\ct k2 b=true
 |[],k2,ds,h=>⟨[],ds,rfl,rfl,by simp[ct],h⟩
 |k::k1,k2,ds,h=>by
  have h':=h;unfold ct at h';rw[List.cons_append]at h;cases ds with
  |nil=>exact absurd h (by cases k1<;>cases k2<;>simp[ct])
  |cons d ds=>
   have hs:ct (k1++k2) ds=true/\∀l,ct (k::k1) (d::l)=ct k1 l:=by
    unfold ct at h;split at h
    ·rename_i he _;cases he
    all_goals first
     |(cases h;done)
     |(
      rename_i he tQ;injection he with e1 e2;injection tQ with e3 e4;subst e2;subst e4;subst e3;subst e1;exact⟨h,fun l=>by simp[ct]⟩)
   obtain⟨a,b,h1,h2,h3,h4⟩:=Fm hs.1;exact⟨d::a,b,by rw[h1];rfl,by simp[h2],by rw[hs.2];exact h3,h4⟩
def AH{t:TypeId}{d:TypeDesc}(hu:P.underlying t=some d):P.cellsOf t=cK P t:=by
 obtain⟨i,hi⟩:=info_of_underlying hu;simp[cK,hu,hi,Program.cellsOf]
theorem FR{S:Nat->Prop}{vx:Array Value}{n:Nat}:∀(fs:List Field) (o:Nat) (ks:List Nat) (xs:List D),yz P o fs=some ks->ct ks xs=true->(∀(i:Nat) d,xs[i]? =some d->∃v,vx[o+i]? =some v/\aJ w S ρ d v)->(Op.eqFields (n+2) vx vx fs).run P w= .ok true w:=by
 intro fs;induction fs with
 |nil=>intro o ks xs _ _ _;simp[Op.eqFields]
 |cons f fs ih=>
  intro o ks xs hd hk hx;unfold yz at hd;split at hd
  ·rename_i k1 pC;split at hd
   ·rename_i hc;simp only[bA,bne_iff_ne,ne_eq,beq_iff_eq]at hc;obtain⟨⟨hn,ho⟩,bP⟩:=hc;rw[mS]at hd;obtain⟨k2,qD,rfl⟩:=hd;obtain⟨a,b,rfl,ha,hka,iV⟩:=Fm hk;have Xk:=ih (o+k1.length) k2 b qD iV fun i d hi=>by
     have:=hx (k1.length+i) d (by rw[List.getElem?_append_right oM,<-ha,Nat.add_sub_cancel_left];exact hi);rwa[<-Nat.add_assoc]at this
    have wb:∀(i:Nat) d,a[i]? =some d->∃v,vx[o+i]? =some v/\aJ w S ρ d v:=fun i d hi=>hx i d (by rw[List.getElem?_append_left (gS.1 hi).1];exact hi);have step:∃v,(part f.type vx f.offset).run P w= .ok v w/\(Op.equalIn (n+2) f.type v v).run P w= .ok true w:=by
     unfold R1 at pC;split at pC
     ·rename_i Hl;simp only[bA,beq_iff_eq]at Hl;injection pC with pC;subst pC;obtain⟨d,ds,rfl,_,he,jM⟩:=y_ (P:=P) hka;obtain⟨v,hv,hr⟩:=wb 0 d rfl;rw[Nat.add_zero,<-ho]at hv;exact⟨v,xk Hl.1 hv,II he (jM _ rfl) hr⟩
     ·split at pC
      ·rename_i m e hu;split at pC
       ·rename_i Hl;simp only[bA,beq_iff_eq]at Hl;injection pC with pC;subst pC;obtain⟨i,hi⟩:=info_of_underlying hu;have Kf:∃de,P.underlying e=some de:=by
         cases Kf:P.underlying e with
         |none=>have:=Hl.1;simp[o0,Kf]at this
         |some de=>exact⟨de,rfl⟩
        obtain⟨de,Kf⟩:=Kf;obtain⟨ie,hie⟩:=info_of_underlying Kf;rw[List.length_replicate]at bP ha;refine⟨.agg (vx.extract f.offset (f.offset+P.cellsOf f.type)),by simp[part,isAgg,run_underlying hu,run_sizeOf w hi],?_⟩;rw[run_equalIn_array w (n+1) _ _ hu hie,AH Kf,Hl.2,AH hu,bP];refine yC Hl.1 _ fun j hj=>?_;rw[List.mem_range]at hj;have ar:j<a.length:=oM;obtain⟨v,hv,hr⟩:=wb j _ (gE ar);have hkk:∀(m:Nat) (l:List D),ct (List.replicate m (o7 P e)) l=true->∀d∈l,uM d d=some true/\wT P e d:=by
         intro m;induction m with
         |zero=>intro l hl d hd;cases l with
          |nil=>cases hd
          |cons x l=>simp[ct]at hl
         |succ m ihm=>
          intro l hl d hd;rw[List.replicate_succ]at hl;obtain⟨d',ds',rfl,h1,h2,h3⟩:=y_ (P:=P) hl;rcases List.mem_cons.1 hd with rfl|hd
          ·exact⟨h2,h3 e rfl⟩
          ·exact ihm ds' h1 d hd
        obtain⟨h1,h2⟩:=hkk m a hka _ (List.getElem_mem ar);refine⟨v,?_,II h1 h2 hr⟩;rw[Array.getElem?_extract,ho];have hb:o+j<vx.size:=(Array.getElem?_eq_some_iff.1 hv).1;rw[if_pos oM];exact hv
       ·cases pC
      ·cases pC
    obtain⟨v,h1,h2⟩:=step;simp only[Op.eqFields,hn,not_false_eq_true,ne_eq,if_true,Sem.run_bind,h1,Result.andThen_ok,h2,nT,Bool.false_eq_true,if_false];exact Xk
   ·cases hd
  ·cases hd
end Go.V
namespace Go.V
open Go.RowKit
variable {P:Program} {X:Ctx} {ρ:cQ} {σ:Env} {bx:ae} {a:Act} {w:World}
variable {dst:Option Tmp} {ty:TypeId} {pos:String} {af:Array Edge} {g:Option (Nat×Bool)}
def HH(k:Nat)(ks:List Nat):ct (k::ks) []=false:=by
 unfold ct;split<;>simp_all
theorem Om{P:Program}:∀(ks:List Nat) (F:List Field) (ds:List D),ks=F.map (fun f=>o7 P f.type)->ct ks ds=true->F.length=ds.length/\∀(i:Nat) f d,F[i]? =some f->ds[i]? =some d->wT P f.type d:=by
 intro ks;induction ks with
 |nil=>
  intro F ds hF h;cases F with
  |nil=>cases ds with
   |nil=>simp
   |cons d ds=>simp[ct]at h
  |cons f F=>simp at hF
 |cons k ks ih=>
  intro F ds hF h;cases F with
  |nil=>simp at hF
  |cons f F=>
  cases ds with
  |nil=>exact absurd h (by rw[HH];decide)
  |cons d ds=>
  simp only[mC,List.cons.injEq]at hF;obtain⟨hk,hF⟩:=hF;have step:ct ks ds=true/\wT P f.type d:=by
   unfold ct at h;split at h
   ·rename_i he _;cases he
   ·rename_i he tQ;injection he with e1 e2;injection tQ with e3 e4;subst e2;subst e4;subst e3;refine⟨h,.inr (.inl ⟨_,rfl,?_⟩)⟩;rw[e1]at hk;unfold o7 at hk;cases hu:P.underlying f.type with
    |none=>simp[hu]at hk
    |some x=>cases x<;>simp[hu]at hk;rfl
   ·rename_i he tQ;injection he with e1 e2;injection tQ with e3 e4;subst e2;subst e4;subst e3;refine⟨h,.inl ⟨_,_,rfl,?_⟩⟩;rw[e1]at hk;unfold o7 at hk;cases hu:P.underlying f.type with
    |none=>simp[hu]at hk
    |some x=>cases x<;>simp[hu]at hk;exact⟨_,rfl⟩
   ·rename_i he tQ;injection he with e1 e2;injection tQ with e3 e4;subst e2;subst e4;subst e3;refine⟨h,.inr (.inr ⟨_,rfl,?_⟩)⟩;rw[e1]at hk;unfold o7 at hk;cases hu:P.underlying f.type with
    |none=>simp[hu]at hk
    |some x=>cases x<;>simp[hu]at hk;rfl
   ·cases h
  obtain⟨hl,hr⟩:=ih F ds hF step.1;refine⟨by simp[hl],fun i f' d' hf hd=>?_⟩;cases i with
  |zero=>simp at hf hd;subst hf;subst hd;exact step.2
  |succ i=>exact hr i f' d' (by simpa using hf) (by simpa using hd)
def TB{S:Nat->Prop}{t:TypeId}{x y:D}{vx vy:Value}{b:Bool}(h:EP (an P t) x y=some b)(hx:aJ w S ρ x vx)(hy:aJ w S ρ y vy):
 (Op.equal t vx vy).run P w= .ok b w/\∀(op:BinOp) (p q:Operand),(eqGuard op t p q vx vy).run P w= .ok () w:=by
 unfold EP at h;split at h
 ·rename_i fs k ks da db hk;split at h
  ·rename_i oO;obtain⟨F,hu,xV,sv⟩:=pQ hk;obtain⟨xs,rfl,lA,SI⟩:=hx.pI;obtain⟨ys,rfl,lB,Kl⟩:=hy.pI;have sS:(F.toList.all (fun f=>f.name != "_"&&o0 P f.type&&cK P f.type==1)&& !P.stoodInHeld t&& !P.eqGuardType P.depth t&&(F.toList.map (·.offset))==List.range F.size&&cK P t==F.size)=true:=by
    cases hb:(F.toList.all (fun f=>f.name != "_"&&o0 P f.type&&cK P f.type==1)&& !P.stoodInHeld t&& !P.eqGuardType P.depth t&&(F.toList.map (·.offset))==List.range F.size&&cK P t==F.size) with
    |true=>rfl
    |false=>
     rw[hb]at sv;obtain⟨rfl,_⟩:=Cy (by simpa using sv);rw[HI]at oO;cases oO
   rw[sS]at sv;simp only[if_true]at sv;simp only[bA,Bool.not_eq_true',beq_iff_eq]at sS;obtain⟨⟨⟨⟨eH,bz⟩,dj⟩,dY⟩,_⟩:=sS;obtain⟨hl,jM⟩:=Om _ _ _ sv oO;have hlen2:∀(p q:List D) (b:Bool),jm p q=some b->p.length=q.length:=by
    intro p;induction p with
    |nil=>intro q b hq;cases q<;>simp[jm]at hq⊢
    |cons c p ih=>
     intro q b hq;cases q with
     |nil=>simp[jm]at hq
     |cons c' q=>
      simp only[jm]at hq;cases hc:uM c c' with
      |none=>simp[hc]at hq
      |some r=>
       cases r with
       |true=>simp only[hc]at hq;simp[ih q b hq]
       |false=>
        simp only[hc]at hq;cases hr:jm p q with
        |none=>simp[hr]at hq
        |some r=>simp[ih q r hr]
   have hF:P.fieldsOf t=F:=by simp[Program.fieldsOf,hu]
   constructor
   ·simp only[Op.equal,Op.maxDepth];rw[run_equalIn_struct w 9999 t xs ys (by rw[hF];exact hu) bz,hF];refine GM (S:=S) (ρ:=ρ) (n:=9998) F.toList 0 da db b eH ?_ hl h (fun i d hd=>?_) (fun i d hd=>?_) jM
    ·rw[dY,List.range_eq_range'];simp
    ·have hi:i<xs.size:=by have:=(gS.1 hd).1;omega
     rw[Nat.zero_add];exact⟨_,Array.getElem?_eq_getElem hi,SI i d _ hd (Array.getElem?_eq_getElem hi)⟩
    ·have hi:i<ys.size:=by have:=(gS.1 hd).1;omega
     rw[Nat.zero_add];exact⟨_,Array.getElem?_eq_getElem hi,Kl i d _ hd (Array.getElem?_eq_getElem hi)⟩
   ·intro op p q;exact run_eqGuard_agg w op t p q xs ys dj
  ·rename_i oO;unfold Gb at h;split at h
   ·rename_i hc;obtain⟨rfl,bR,he⟩:=hc;injection h with h;subst h;obtain⟨F,hu,xV,sv⟩:=pQ hk;obtain⟨xs,rfl,lA,SI⟩:=hx.pI;obtain⟨ys,rfl,lB,Kl⟩:=hy.pI;have p_:0::ks=Cx P t F:=by
     split at sv
     ·rename_i hc;exfalso;simp only[bA]at hc;have eH:=hc.1.1.1.1;cases hF:F.toList with
      |nil=>rw[hF]at sv;cases sv
      |cons f fs=>
       rw[hF]at sv eH;simp only[mC,List.cons.injEq]at sv;simp only[List.all_cons,bA]at eH;have hf:=eH.1.1.2;have h0:=sv.1;unfold o0 at hf;unfold o7 at h0;cases lM:P.underlying f.type with
       |none=>simp[lM]at hf
       |some d=>cases d<;>simp[lM]at hf h0
     ·exact sv
    obtain⟨_,nj,bz,dj⟩:=Cy p_;have hF:P.fieldsOf t=F:=by simp[Program.fieldsOf,hu]
    have fP:∀(a b:List D),jm a b=some true->a=b:=by
     intro a;induction a with
     |nil=>intro b hb;cases b<;>simp[jm]at hb⊢
     |cons c a ih=>
      intro b hb;cases b with
      |nil=>simp[jm]at hb
      |cons c' b=>
       simp only[jm]at hb;cases jn:uM c c' with
       |none=>simp[jn]at hb
       |some r=>
        cases r with
        |false=>simp only[jn]at hb;cases hr:jm a b<;>simp[hr]at hb
        |true=>
         simp only[jn]at hb;have h1:c=c':=by cases c<;>cases c'<;>simp[uM]at jn⊢ <;>first|exact⟨jn.1,jn.2⟩|exact jn
         rw[h1,ih b hb]
    obtain rfl:=fP _ _ he;have aeS:∀(ks:List Nat) (l:List D),ct ks l=true->∀d∈l,(∃k n,d= .int k n)\/(∃b,d= .bool b)\/∃s,d= .str s:=by
     intro ks;induction ks with
     |nil=>intro l hl d hd;cases l with
      |nil=>cases hd
      |cons x l=>simp[ct]at hl
     |cons k ks ih=>
      intro l hl d hd;obtain⟨d',ds',rfl,h1,h2,_⟩:=y_ (P:=P) hl;rcases List.mem_cons.1 hd with rfl|hd
      ·cases d<;>simp[uM]at h2<;>simp
      ·exact ih ds' h1 d hd
    have mu:xs=ys:=by
     refine Array.ext oM fun i h1 h2=>?_;have hi:i<da.length:=oM;have r1:=SI i _ _ (gE hi) (Array.getElem?_eq_getElem h1);have r2:=Kl i _ _ (gE hi) (Array.getElem?_eq_getElem h2);rcases aeS ks da bR _ (List.getElem_mem hi)with⟨k,n,hd⟩|⟨b,hd⟩|⟨s,hd⟩<;>rw[hd]at r1 r2
     ·rw[r1.ed,r2.ed]
     ·rw[r1.jR,r2.jR]
     ·rw[r1.iW,r2.iW]
    subst mu;constructor
    ·simp only[Op.equal,Op.maxDepth];rw[run_equalIn_struct w 9999 t xs xs (by rw[hF];exact hu) bz,hF];refine FR (S:=S) (ρ:=ρ) (n:=9997) F.toList 0 ks da nj bR fun i d hd=>?_;have hi:i<xs.size:=by have:=(gS.1 hd).1;omega
     rw[Nat.zero_add];exact⟨_,Array.getElem?_eq_getElem hi,SI i d _ hd (Array.getElem?_eq_getElem hi)⟩
    ·intro op p q;exact run_eqGuard_agg w op t p q xs xs dj
   ·cases h
 ·rename_i a b hk;injection h with h;subst h;rw[hx.jR,hy.jR];refine⟨?_,fun op p q=>rk op t p q _ _ (.inr (.inr ⟨_,rfl⟩))⟩;simp only[Op.equal,Op.maxDepth];exact run_equalIn_bool' w 9999 t _ _ (KT hk)
 ·cases h
def Vo{op:BinOp}{t:TypeId}{vx vy:Value}(ho:op= .eql\/op= .neq)(hv:(∃xs,vx= .agg xs)\/(∃b,vx= .bool b)){b:Bool}(h:(Op.equal t vx vy).run P w= .ok b w):
 (binOp op t vx vy).run P w= .ok (.bool (if op= .eql then b else !b)) w:=by
 rcases ho with rfl|rfl<;>rcases hv with⟨xs,rfl⟩|⟨c,rfl⟩<;>cases vy<;>simp[binOp,h]
def K5(ti:TI)(op:BinOp)(dx dy:D):(∃k m k' n,dx= .int k m/\dy= .int k' n)\/(∃m n,dx= .str m/\dy= .str n)\/(dy= .aq/\lY ti op dx dy=Ed ti op dx)\/lY ti op dx dy=K6 ti op dx dy:=by cases dx<;>cases dy<;>first|exact .inr (.inr (.inl ⟨rfl,rfl⟩))|exact .inr (.inr (.inr rfl))|exact .inl ⟨_,_,_,_,rfl,rfl⟩|exact .inr (.inl ⟨_,_,rfl,rfl⟩)
def L6{S:Nat->Prop}{t:TypeId}{op:BinOp}{dx d:D}{vx:Value}(hv:Ed (an P t) op dx=some d)(hx:aJ w S ρ dx vx)(x y:Operand):
 ∃v,(do eqGuard op t x y vx (.slice none 0 0);binOp op t vx (.slice none 0 0)).run P w= .ok v w/\aJ w S ρ d v:=by
 unfold Ed at hv;split at hv
 ·rename_i e esz b ag hk;have hu:=(dt hk).1;have ho:op= .eql\/op= .neq:=by cases op<;>cases dx<;>first|exact .inl rfl|exact .inr rfl|(exact absurd hv (by simp[zj]))
  have hd:∃b n c,vx= .slice b n c/\((d= .ic)\/d= .bool (if op= .eql then b.isNone else !b.isNone)):=by
   have sl:∀(sz:Nat) (es:List D) (e1 e2:Bool),dx= .sl sz es->(d=if es.isEmpty then .ic else .bool (if op= .eql then false else true))->∃b n c,vx= .slice b n c/\((d= .ic)\/d= .bool (if op= .eql then b.isNone else !b.isNone)):=by
    intro sz es e1 e2 he hd;rw[he]at hx;cases hx with
    |pure h=>
     cases h with
     |@sl _ _ A n cap b off us hn dK jd hA=>
      refine⟨A,n,cap,rfl,?_⟩;cases es with
      |nil=>exact .inl hd
      |cons c cs=>
       refine .inr ?_;rw[(hA sI).1];rcases ho with rfl|rfl<;>simpa using hd
   cases dx with
   |aq=>
    rw[hx.gi];refine⟨none,0,0,rfl,.inr ?_⟩;rcases ho with rfl|rfl<;>simp[zj]at hv<;>simp[<-hv]
   |bp t' e' s' o' n'=>
    cases hx with
    |pure h=>cases h
    |bp=>
     refine⟨_,_,_,rfl,.inr ?_⟩;rcases ho with rfl|rfl<;>simp[zj]at hv<;>simp[<-hv]
   |sl sz es=>
    refine sl sz es true true rfl ?_;rcases ho with rfl|rfl<;>simp only[zj,sJ]at hv<;>simp[<-hv]
   |_=>rcases ho with rfl|rfl<;>simp[zj]at hv
  obtain⟨bb,n,c,rfl,hd⟩:=hd;have hg:(eqGuard op t x y (.slice bb n c) (.slice none 0 0)).run P w= .ok () w:=by cases op<;>rfl
  have he:(Op.equal t (.slice bb n c) (.slice none 0 0)).run P w= .ok bb.isNone w:=by
   have key:∀d,(Op.equalIn (d+1) t (.slice bb n c) (.slice none 0 0)).run P w= .ok bb.isNone w:=fun d=>by
    unfold Op.equalIn;simp only[Sem.run_bind,run_underlying hu,Result.andThen];cases bb<;>rfl
   exact key 9999
  refine⟨.bool (if op= .eql then bb.isNone else !bb.isNone),?_,?_⟩
  ·simp only[Sem.run_bind,hg,Result.andThen];rcases ho with rfl|rfl<;>simp[binOp,he]
  ·rcases hd with rfl|rfl
   ·exact .pure (.ic _)
   ·exact .pure (.bool _)
 ·cases hv
def I9(h:aA X ρ σ bx a w){op:BinOp}{t t':TypeId}{x y:Operand}{d:D}(hv:lY (an P t) op (ev σ x) (ev σ y)=some d):Yields P X ρ bx a w ⟨dst,.binOp op t x y t',ty,pos,af,g⟩ d:=by
 have hx:=h.ev x;have hy:=h.ev y;generalize ev σ x=dx at hv hx;generalize ev σ y=dy at hv hy;rcases K5 (an P t) op dx dy with⟨k,m,k',n,rfl,rfl⟩|⟨m,n,rfl,rfl⟩|⟨rfl,he⟩|he
 ·simp only[lY]at hv;split at hv
  ·rename_i hk;subst hk;obtain⟨v,bQ,hr⟩:=Tm (P:=P) (ρ:=ρ) (w:=w) op k m n d hv t (az X ρ bx w);refine aR v ?_ hr;simp only[execOp,Sem.run_bind,hx.ed,hy.ed,rk op t x y _ _ (.inl ⟨_,_,rfl⟩),Result.andThen_ok,bQ,Sem.run_pure]
  ·obtain⟨v,bQ,hr⟩:=Gu (P:=P) (ρ:=ρ) (w:=w) op k k' m n d hv t (az X ρ bx w);refine aR v ?_ hr;simp only[execOp,Sem.run_bind,hx.ed,hy.ed,rk op t x y _ _ (.inl ⟨_,_,rfl⟩),Result.andThen_ok,bQ,Sem.run_pure]
 ·simp only[lY]at hv;obtain⟨v,bQ,hr⟩:=Tn (P:=P) (ρ:=ρ) (w:=w) op m n d hv t (az X ρ bx w);refine aR v ?_ hr;simp only[execOp,Sem.run_bind,hx.iW,hy.iW,rk op t x y _ _ (.inr (.inl ⟨_,rfl⟩)),Result.andThen_ok,bQ,Sem.run_pure]
 ·rw[he]at hv;obtain⟨v,bQ,hr⟩:=L6 (P:=P) hv hx x y;refine aR v ?_ hr;simp only[Sem.run_bind]at bQ;simp only[execOp,Sem.run_bind,hy.gi];rw[bQ];rfl
 ·rw[he]at hv;have pF:op= .eql\/op= .neq:=by cases op<;>simp[K6]at hv<;>simp
  obtain⟨b,hb,hd⟩:∃b,EP (an P t) dx dy=some b/\d= .bool (if op= .eql then b else !b):=by rcases pF with rfl|rfl<;>simp only[K6,mS]at hv<;>obtain⟨b,hb,rfl⟩:=hv<;>exact⟨b,hb,by simp⟩
  obtain⟨he,hg⟩:=TB hb hx hy;subst hd;have lz:(∃xs,a.eval x= .agg xs)\/(∃b,a.eval x= .bool b):=by
   unfold EP at hb;split at hb
   ·obtain⟨vs,h1,_⟩:=hx.pI;exact .inl ⟨vs,h1⟩
   ·exact .inr ⟨_,hx.jR⟩
   ·cases hb
  refine aR (.bool (if op= .eql then b else !b)) ?_ (.pure (.bool _));simp only[execOp,Sem.run_bind,hg,Result.andThen_ok,Vo pF lz he,Sem.run_pure]
def MG(h:aA X ρ σ bx a w){op:UnOp}{t:TypeId}{x:Operand}{d:D}(hv:IY op (ev σ x)=some d):Yields P X ρ bx a w ⟨dst,.unOp op t x,ty,pos,af,g⟩ d:=by
 have hx:=h.ev x;generalize ev σ x=dx at hv hx;cases dx<;>simp only[IY]at hv<;>try (cases hv;done)
 ·cases op<;>simp only at hv<;>try (cases hv;done)
  ·injection hv with hv;subst hv;exact aR _ (by simp[execOp,hx.ed,Op.unary,Op.intArith]) (.pure (.int _ _))
  ·injection hv with hv;subst hv;exact aR _ (by simp[execOp,hx.ed,Op.unary,Op.intBits,du]) (.pure (.int _ _))
 ·cases op<;>simp only at hv<;>try (cases hv;done)
  injection hv with hv;subst hv;exact aR _ (by simp[execOp,hx.jR,Op.unary]) (.pure (.bool _))
theorem Jz{S:Nat->Prop}{dx d:D}{vx:Value}{o:Nat}(hv:k_ dx o=some d)(hx:aJ w S ρ dx vx):∃b p,vx= .pointer (some ⟨b,p,none⟩)/\aJ w S ρ d (.pointer (some ⟨b,p+o,none⟩)):=by
 cases dx with
 |loc s e i j=>
  simp only[k_,sJ]at hv;subst hv;obtain⟨p,hp,rfl⟩:=hx.lP;exact⟨_,_,rfl,.loc hp oM⟩
 |cG d0 j=>
  simp only[k_,sJ]at hv;subst hv;have eO:bB w S (.cG d0 j) vx:=hx.fC rfl;cases eO with
  |@cG _ _ b off p us hb hp hc h1 hr=>exact⟨_,_,rfl,.pure (.cG (us:=us) hb oM hc h1 hr)⟩
 |_=>simp[k_]at hv
def CB(h:aA X ρ σ bx a w){t:TypeId}{x:Operand}{i:Nat}{d:D}(hv:nX (an P t) (ev σ x) i=some d):Yields P X ρ bx a w ⟨dst,.fieldAddr t x i,ty,pos,af,g⟩ d:=by
 have hx:=h.ev x;generalize ev σ x=dx at hv hx;simp only[nX]at hv;cases hk:(an P t).k with
 |struct fs eq=>
  simp only[hk]at hv;obtain⟨F,hu,xV,_⟩:=pQ hk;subst xV;simp only[gM,aG]at hv;cases hf:F[i]? with
  |none=>simp[hf]at hv
  |some f=>
   simp only[hf,Option.map_some]at hv;split at hv
   ·cases hv
   ·rename_i hz;obtain⟨b,p,fc,hr⟩:=Jz hv hx;refine aR _ ?_ hr;have bP:=dh (P:=P) (t:=f.type) oM w;simp only[execOp,Instr.fieldAt,Instr.sureAddr,Sem.run_bind,Sem.run_pure,Result.andThen_ok,run_underlying hu,hf,fc,fieldPlace,bP,hz,if_false,Addr.ei]
 |_=>simp[hk]at hv
def Jg(h:aA X ρ σ bx a w){t:TypeId}{x:Operand}{i:Nat}{d:D}(hv:yG (an P t) (ev σ x) i=some d):Yields P X ρ bx a w ⟨dst,.field t x i,ty,pos,af,g⟩ d:=by
 have hx:=h.ev x;generalize ev σ x=dx at hv hx;unfold yG at hv;split at hv
 ·rename_i fs eq ds hk;obtain⟨F,hu,xV,_⟩:=pQ hk;subst xV;obtain⟨vs,fc,hl,hr⟩:=hx.pI;simp only[gM,aG]at hv;cases hf:F[i]? with
  |none=>simp[hf]at hv
  |some f=>
   simp only[hf,Option.map_some]at hv;split at hv
   ·cases hv
   ·rename_i hz;have hz:0<cK P f.type:=oM;have LG:∃v,(part f.type vs f.offset).run P w= .ok v w/\aJ w (az X ρ bx w) ρ d v:=by
     have HA:∃dd,P.underlying f.type=some dd:=let ⟨_,dd,_,h2,_⟩:=lT hz;⟨dd,h2⟩
     obtain⟨dd,HA⟩:=HA;unfold jA at hv;cases hU:o_ P f.type with
     |true=>
      simp only[hU,if_true]at hv;split at hv
      ·rename_i hle;injection hv with hv;subst hv;refine⟨.agg (vs.extract f.offset (f.offset+cK P f.type)),by simp only[part,Sem.run_bind,qZ HA,Result.andThen_ok,hU,if_true,dh hz,Sem.run_pure],.agg ?_ ?_⟩
       ·simp[D.cells]at hle⊢;omega
       ·intro j c u hc gu;simp only[D.cells]at hc hle;have hj:j<cK P f.type:=by have:=(gS.1 hc).1;simp at this;omega
        rw[List.getElem?_take_of_lt hj,List.getElem?_drop]at hc;rw[Array.getElem?_extract]at gu;split at gu
        ·exact hr _ _ _ hc gu
        ·cases gu
      ·cases hv
     |false=>
      simp only[hU,Bool.false_eq_true,if_false,D.cells]at hv;have ar:=(gS.1 hv).1;have HB:vs[f.offset]? =some vs[f.offset]:=Array.getElem?_eq_getElem oM;exact⟨_,by simp only[part,Sem.run_bind,qZ HA,Result.andThen_ok,hU,Bool.false_eq_true,if_false,HB,Sem.run_pure],hr _ _ _ hv HB⟩
    obtain⟨v,bQ,fw⟩:=LG;refine aR v ?_ fw;simp only[execOp,Instr.field,Sem.run_bind,Sem.run_pure,Result.andThen_ok,run_underlying hu,hf,fc,asAgg,bQ]
 ·cases hv
def Jk(h:aA X ρ σ bx a w){t:TypeId}{x y:Operand}{d:D}(hv:oX (ev σ y) (rN (an P t) (ev σ x))=some d):Yields P X ρ bx a w ⟨dst,.index t x y,ty,pos,af,g⟩ d:=by
 have hx:=h.ev x;have hy:=h.ev y;generalize ev σ x=dx at hv hx;generalize ev σ y=dy at hv hy;cases dy with
 |int k n=>
  have hy:=hy.ed;simp only[oX]at hv;unfold rN at hv;split at hv
  ·rename_i s hk;split at hv
   ·rename_i h0;cases hs:s[n.toNat]? with
    |none=>simp[hs]at hv
    |some b=>
     simp only[hs,Option.map_some,sJ]at hv;subst hv;have ar:=(gS.1 hs).1;refine aR (.int .u8 (b.toNat:Int)) ?_ (.pure (.int _ _));have hb:(⟨s.toArray⟩:ByteArray)[n.toNat]? =some b:=by
      rw[ByteArray.getElem?_lt' _ _ (by simpa[ByteArray.size]using ar)];have:s[n.toNat]=b:=by have:=gE ar;rw[hs]at this;injection this with this;exact this.symm
      rw[<-this];rfl
     simp only[execOp,Instr.index,hy,hx.iW,asIntOf,Sem.run_bind,Sem.run_pure,Result.andThen_ok,run_underlying (qs hk),h0,if_true,hb]
   ·cases hv
  ·rename_i len esz ag ds hk;split at hv
   ·rename_i hc;obtain⟨h0,ar,eM⟩:=hc;obtain⟨e,hu,he,hU⟩:=wy hk;obtain⟨vs,fc,hl,hr⟩:=hx.pI;subst he;subst hU;obtain⟨_,dd,_,HA,_⟩:=lT eM;have ke:0<=n/\n<((len:Nat):Int):=⟨h0,ar⟩
    have LG:∃v,(part e vs (n.toNat * cK P e)).run P w= .ok v w/\aJ w (az X ρ bx w) ρ d v:=by
     unfold jA at hv;cases hU:o_ P e with
     |true=>
      simp only[hU,if_true]at hv;split at hv
      ·rename_i hle;injection hv with hv;subst hv;refine⟨.agg (vs.extract (n.toNat * cK P e) (n.toNat * cK P e+cK P e)),by simp only[part,Sem.run_bind,qZ HA,Result.andThen_ok,hU,if_true,dh eM,Sem.run_pure],.agg ?_ ?_⟩
       ·simp[D.cells]at hle⊢;omega
       ·intro j c u hc gu;simp only[D.cells]at hc hle;have hj:j<cK P e:=by have:=(gS.1 hc).1;simp at this;omega
        rw[List.getElem?_take_of_lt hj,List.getElem?_drop]at hc;rw[Array.getElem?_extract]at gu;split at gu
        ·exact hr _ _ _ hc gu
        ·cases gu
      ·cases hv
     |false=>
      simp only[hU,Bool.false_eq_true,if_false,D.cells]at hv;have ar:=(gS.1 hv).1;have HB:vs[n.toNat * cK P e]? =some vs[n.toNat * cK P e]:=Array.getElem?_eq_getElem oM;exact⟨_,by simp only[part,Sem.run_bind,qZ HA,Result.andThen_ok,hU,Bool.false_eq_true,if_false,HB,Sem.run_pure],hr _ _ _ hv HB⟩
    obtain⟨v,bQ,fw⟩:=LG;refine aR v ?_ fw;simp only[execOp,Instr.index,hy,fc,asIntOf,Sem.run_bind,Sem.run_pure,Result.andThen_ok,run_underlying hu,ke,and_self,if_true,dh eM,bQ]
   ·cases hv
  ·cases hv
 |_=>simp[oX]at hv
theorem qm(h:aA X ρ σ bx a w){lo:Option Operand}{l:Option Int}(hl:eY σ lo=some l):(lo=none/\l=none)\/∃x k n,lo=some x/\l=some n/\a.eval x= .int k n:=by
 cases lo with
 |none=>simp only[eY,sJ]at hl;exact .inl ⟨rfl,hl.symm⟩
 |some x=>
  simp only[eY]at hl;have hx:=h.ev x;generalize ev σ x=dx at hl hx;cases dx<;>simp only[y7]at hl<;>try (cases hl;done)
  injection hl with hl;subst hl;exact .inr ⟨x,_,_,rfl,rfl,hx.ed⟩
def lZ(h:aA X ρ σ bx a w){lo hi:Option Operand}{l u:Option Int}(hl:eY σ lo=some l)(hh:eY σ hi=some u){isS:Bool}{len cap p q:Nat}(hc:dV len l u=some (p,q))(hle:len<=cap):
 (Instr.sliceBounds isS len cap (lo.map a.eval) (hi.map a.eval) none).run P w= .ok (p,q,cap) w/\p<=q/\q<=len:=by
 unfold dV at hc;simp only at hc;split at hc
 ·rename_i hb;injection hc with hc;injection hc with h1 h2;rcases qm h hl with⟨rfl,rfl⟩|⟨x,k,n,rfl,rfl,hx⟩<;>rcases qm h hh with⟨rfl,rfl⟩|⟨y,k',m,rfl,rfl,hy⟩<;>simp only[Option.getD_none,Option.getD_some]at hb h1 h2
  ·subst h1;subst h2;refine⟨by simp[Instr.sliceBounds],by omega,by omega⟩
  ·subst h1;subst h2;have c1:0<=m/\m<=(cap:Int):=⟨by omega,by omega⟩
   refine⟨by simp[Instr.sliceBounds,Instr.sliceBound,hy,asIntOf,c1],by omega,by omega⟩
  ·subst h1;subst h2;have c1:0<=n/\n<=(len:Int):=⟨by omega,by omega⟩
   refine⟨by simp[Instr.sliceBounds,Instr.sliceBound,hx,asIntOf,c1],by omega,by omega⟩
  ·subst h1;subst h2;have c1:0<=m/\m<=(cap:Int):=⟨by omega,by omega⟩
   have c2:0<=n/\n<=((m.toNat:Nat):Int):=⟨by omega,by omega⟩
   refine⟨by simp only[Instr.sliceBounds,Instr.sliceBound,hx,hy,asIntOf,Option.map_some,Sem.run_bind,Sem.run_pure,Result.andThen_ok,Sem.run_ite,c1,c2,and_self,if_true],by omega,by omega⟩
 ·cases hc
def JA(h:aA X ρ σ bx a w){t:TypeId}{x:Operand}{lo hi:Option Operand}{d:D}(hv:zq (eY σ lo) (eY σ hi) (jY (an P t) (ev σ x))=some d):Yields P X ρ bx a w ⟨dst,.slice t x lo hi none,ty,pos,af,g⟩ d:=by
 have hx:=h.ev x;generalize ev σ x=dx at hv hx;cases hl:eY σ lo with
 |none=>simp[hl,zq]at hv
 |some l=>
 cases hh:eY σ hi with
 |none=>simp[hl,hh,zq]at hv
 |some u=>
 simp only[hl,hh,zq]at hv;have key:∀(e esz b:Nat) (ag:Bool) (sz:Nat) (es:List D),(an P t).k= .slice e esz b ag->bB w (az X ρ bx w) (.sl sz es) (a.eval x)->(if sz=esz/\0<esz then(dV es.length l u).map fun p=>D.sl sz ((es.drop p.1).take (p.2 - p.1))else none)=some d->Yields P X ρ bx a w ⟨dst,.slice t x lo hi none,ty,pos,af,g⟩ d:=by
  intro e esz b ag sz es hk eO eN;split at eN
  ·rename_i he;obtain⟨he,eM⟩:=he;subst he;obtain⟨hu,gq,_,_⟩:=dt hk;cases hc:dV es.length l u with
   |none=>simp[hc]at eN
   |some pq=>
    obtain⟨p,q⟩:=pq;simp only[hc,Option.map_some,sJ]at eN;subst eN;generalize fc:a.eval x=vx at eO;cases eO with
    |@sl _ _ A m cap b' off us hn dK jd hA bP jn h1 hr=>
     subst hn;obtain⟨bQ,k1,k2⟩:=lZ (P:=P) (isS:=true) (cap:=cap) h hl hh hc dK;have er:∀(i:Nat) c,((es.drop p).take (q - p))[i]? =some c->es[p+i]? =some c:=fun i c hi=>by
      have ar:=(gS.1 hi).1;simp at ar;rwa[List.getElem?_take_of_lt oM,List.getElem?_drop]at hi
     refine aR (.slice (if cap=p then A else A.map (·.add (p * sz))) (q - p) (cap - p)) ?_ (.pure (.sl (b:=b') (off:=off+p * sz) (us:=fun i j=>us (p+i) j) (by simp;omega) oM oM (fun bw=>?_)
      (fun i c hi=>bP _ _ (er i c hi)) (fun i c j c' hi hj=>?_) (fun i c j c' hi hj=>h1 _ _ _ _ (er i c hi) hj) (fun i c j c' hi hj=>hr _ _ _ _ (er i c hi) hj)))
     ·simp only[execOp,Instr.sliceAt,Instr.slice,fc,Sem.run_bind,Sem.run_pure,Result.andThen_ok,run_underlying hu,Option.map_none,bQ,dh (gq▸eM),<-gq]
     ·have ar:p<es.length:=by
       rcases Nat.lt_or_ge p es.length with h'|h'
       ·exact h'
       ·exfalso;apply bw;rw[List.drop_eq_nil_of_le h'];simp
      obtain⟨rfl,hb⟩:=hA (by rintro rfl;simp at ar);rw[if_neg oM];exact⟨by simp[Addr.ei],hb⟩
     ·have:=jn _ _ _ _ (er i c hi) hj;rwa[Nat.add_mul,<-Nat.add_assoc]at this
  ·cases eN
 unfold jY at hv;split at hv
 ·rename_i s hk;cases hc:dV s.length l u with
  |none=>simp[hc]at hv
  |some pq=>
   obtain⟨p,q⟩:=pq;simp only[hc,Option.map_some,sJ]at hv;subst hv;obtain⟨bQ,h1,h2⟩:=lZ (P:=P) (isS:=false) (cap:=s.length) h hl hh hc (Nat.le_refl _);refine aR (.string ⟨((s.drop p).take (q - p)).toArray⟩) ?_ (.pure (.str _));have bP:(⟨s.toArray⟩:ByteArray).size=s.length:=by simp[ByteArray.size]
   have hex:(⟨s.toArray⟩:ByteArray).extract p q=⟨((s.drop p).take (q - p)).toArray⟩:=by
    apply ByteArray.ext;apply Array.toList_inj.1;simp[ByteArray.data_extract,List.extract]
   simp only[execOp,Instr.sliceAt,Instr.slice,hx.iW,Sem.run_bind,Sem.run_pure,Result.andThen_ok,run_underlying (qs hk),Option.map_none,Option.isSome_none,Bool.false_eq_true,if_false,bP,bQ,hex]
 ·rename_i e esz b ag sz es hk;exact key e esz b ag sz es hk (hx.fC rfl) hv
 ·rename_i e esz b ag s e' sz o n hk;split at hv
  ·rename_i he;obtain⟨he,eM⟩:=he;subst he;obtain⟨hu,gq,_,_⟩:=dt hk;cases hc:dV n l u with
   |none=>simp[hc]at hv
   |some pq=>
    obtain⟨p,q⟩:=pq;simp only[hc,Option.map_some,sJ]at hv;subst hv;generalize fc:a.eval x=vx at hx;cases hx with
    |pure h=>cases h
    |@bp _ _ _ _ _ off cap pl hp bP JY dY hn dK=>
     obtain⟨bQ,k1,k2⟩:=lZ (P:=P) (isS:=true) (cap:=cap) h hl hh hc hn;have mU:(execOp a.eval ⟨dst,.slice t x lo hi none,ty,pos,af,g⟩).run P w= .ok (.value (.slice (if cap=p then some ⟨pl.b,off,none⟩else some ⟨pl.b,off+p * sz,none⟩) (q - p) (cap - p))) w:=by simp only[execOp,Instr.sliceAt,Instr.slice,fc,Sem.run_bind,Sem.run_pure,Result.andThen_ok,run_underlying hu,Option.map_none,bQ,dh (gq▸eM),<-gq,Option.map_some,Addr.ei]
     by_cases hcp:cap=p
     ·rw[if_pos hcp]at mU;refine aR _ mU (.bp hp bP (fun h0=>⟨(JY oM).1,?_⟩) (fun hq=>by omega) oM ⟨by omega,dK.2⟩);have:=JY oM;omega
     ·rw[if_neg hcp]at mU;refine aR _ mU (.bp hp bP (fun h0=>?_) (fun hq=>?_) oM ⟨by omega,dK.2⟩)
      ·have E_:p=0:=oM;subst E_;have:=JY oM;simp only[Nat.zero_mul,Nat.add_zero,Nat.sub_zero];exact this
      ·rw[dY oM,Nat.add_mul]
  ·cases hv
 ·rename_i e esz b ag sz es hk;exact key e esz b ag sz es hk (hx.fC rfl).rT hv
 ·rename_i e esz b ag s e' i j n hk;split at hv
  ·rename_i yR;subst yR;obtain⟨hu,gq,_,_⟩:=dt hk;cases hc:dV n l u with
   |none=>simp[hc]at hv
   |some pq=>
    obtain⟨p,q⟩:=pq;simp only[hc,Option.map_some,sJ]at hv;subst hv;generalize fc:a.eval x=vx at hx;cases hx with
    |pure h=>cases h
    |@fJ _ _ _ _ _ off cap pl hp dY hn dK=>
     obtain⟨bQ,k1,k2⟩:=lZ (P:=P) (isS:=true) (cap:=cap) h hl hh hc hn;have mU:(execOp a.eval ⟨dst,.slice t x lo hi none,ty,pos,af,g⟩).run P w= .ok (.value (.slice (some ⟨pl.b,if cap=p then off else off+p,none⟩) (q - p) (cap - p))) w:=by
      simp only[execOp,Instr.sliceAt,Instr.slice,fc,Sem.run_bind,Sem.run_pure,Result.andThen_ok,run_underlying hu,Option.map_none,bQ,dh (gq▸(by decide:0<1)),<-gq,Option.map_some,Addr.ei,Nat.mul_one];split<;>rfl
     refine aR _ mU (.fJ hp (fun hq=>?_) oM oM);rw[if_neg oM,dY oM];omega
  ·cases hv
 ·rename_i n esz ag s e' i j hk;split at hv
  ·rename_i tU;obtain⟨pH,tU⟩:=tU;obtain⟨el,hu,qE,_⟩:=wy hk;rw[pH]at qE;have qE:=qE.symm;cases hc:dV n l u with
   |none=>simp[hc]at hv
   |some pq=>
    obtain⟨p,q⟩:=pq;simp only[hc,Option.map_some,sJ]at hv;subst hv;obtain⟨pl,hp,fc⟩:=hx.lP;obtain⟨bQ,k1,k2⟩:=lZ (P:=P) (isS:=false) (cap:=n) h hl hh hc (Nat.le_refl _);have mU:(execOp a.eval ⟨dst,.slice t x lo hi none,ty,pos,af,g⟩).run P w= .ok (.value (.slice (some ⟨pl.b,if n=p then i * pl.sz+j else i * pl.sz+j+p,none⟩) (q - p) (n - p))) w:=by
     simp only[execOp,Instr.sliceAt,Instr.sureAddr,fc,Sem.run_bind,Sem.run_pure,Result.andThen_ok,run_underlying hu,Option.map_none,bQ,dh (by rw[qE];decide:0<cK P el),qE,Addr.ei,Nat.mul_one];split<;>rfl
    refine aR _ mU (.fJ hp (fun hq=>?_) oM oM);rw[if_neg oM];omega
  ·cases hv
 ·rename_i n esz ag d0 j hk;split at hv
  ·rename_i tU;obtain⟨pH,tU,hjn,fj⟩:=tU;obtain⟨el,hu,qE,_⟩:=wy hk;rw[pH]at qE;have qE:=qE.symm;cases hc:dV n l u with
   |none=>simp[hc]at hv
   |some pq=>
    obtain⟨p,q⟩:=pq;simp only[hc,Option.map_some,sJ]at hv;subst hv;have eO:bB w (az X ρ bx w) (.cG d0 j) (a.eval x):=hx.fC rfl;generalize fc:a.eval x=vx at eO;cases eO with
    |@cG _ _ b off p0 us hS hp jn h1 hr=>
     subst hp;obtain⟨bQ,k1,k2⟩:=lZ (P:=P) (isS:=false) (cap:=n) h hl hh hc (Nat.le_refl _);have mU:(execOp a.eval ⟨dst,.slice t x lo hi none,ty,pos,af,g⟩).run P w= .ok (.value (.slice (some ⟨b,if n=p then off+j else off+j+p,none⟩) (q - p) (n - p))) w:=by
      simp only[execOp,Instr.sliceAt,Instr.sureAddr,fc,Sem.run_bind,Sem.run_pure,Result.andThen_ok,run_underlying hu,Option.map_none,bQ,dh (by rw[qE];decide:0<cK P el),qE,Addr.ei,Nat.mul_one];split<;>rfl
     have er:∀(m:Nat) c,((d0.cells.drop (j+p)).take (q - p))[m]? =some c->d0.cells[j+p+m]? =some c/\m<q - p:=fun m c hm=>by
      have ar:=(gS.1 hm).1;simp at ar;rw[List.getElem?_take_of_lt oM,List.getElem?_drop]at hm;exact⟨hm,by omega⟩
     have one:∀(m:Nat) c,d0.cells[m]? =some c->c.cells=[c]:=fun m c hm=>gk (List.all_eq_true.1 fj c (mG hm));refine aR _ mU (.pure (.sl (b:=b) (off:=off+j+p) (us:=fun m _=>us (j+p+m)) (by simp;omega) oM (by show n - p<=maxLen;unfold maxLen;omega) (fun bw=>⟨?_,hS⟩) (fun m c hm=>?_) (fun m c k c' hm cW=>?_) (fun m c k c' hm cW=>?_) (fun m c k c' hm cW=>?_)))
     ·rw[if_neg];intro e;apply bw;have:q - p=0:=oM;rw[this];rfl
     ·rw[one _ _ (er m c hm).1];rfl
     ·obtain⟨g1,g2⟩:=er m c hm;rw[one _ _ g1]at cW;obtain rfl:k=0:=by
       rcases k with _|k
       ·rfl
       ·simp at cW
      have:=jn _ _ g1;rw[show off+j+p+m * 1+0=off+(j+p+m) by omega];exact this
     ·exact h1 _ _ (er m c hm).1
     ·obtain⟨g1,g2⟩:=er m c hm;rw[one _ _ g1]at cW;obtain rfl:k=0:=by
       rcases k with _|k
       ·rfl
       ·simp at cW
      simp at cW;subst cW;exact hr _ _ g1
  ·cases hv
 ·rename_i e esz b ag hk;split at hv
  ·rename_i eM;obtain⟨hu,gq,_,_⟩:=dt hk;cases hc:dV 0 l u with
   |none=>simp[hc]at hv
   |some pq=>
    obtain⟨p,q⟩:=pq;simp only[hc,Option.map_some,sJ]at hv;subst hv;have fc:=hx.gi;obtain⟨bQ,k1,k2⟩:=lZ (P:=P) (isS:=true) (cap:=0) h hl hh hc (Nat.le_refl _);obtain rfl:p=0:=oM;obtain rfl:q=0:=oM;refine aR (.slice none 0 0) ?_ (.pure .aq);simp only[execOp,Instr.sliceAt,Instr.slice,fc,Sem.run_bind,Sem.run_pure,Result.andThen_ok,run_underlying hu,Option.map_none,bQ,dh (gq▸eM),if_true,Nat.sub_self]
  ·cases hv
 ·cases hv
end Go.V
