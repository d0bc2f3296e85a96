/-
  The data level: plain data in place of values in memory, a weakest precondition over the model's own code that speaks of plain data alone. Definitions and the rules by which it is evaluated.
-/
import Derived.Test.YtbnniokcdilpgaaDoorVG
namespace Go.V
universe u
open Go.RowKit

abbrev Env := Nat → D
abbrev Bxs := Nat → Bx

def Bx.none : Bx := ⟨0, 0, 0, 0, []⟩

def upd {α : Type} (σ : Nat → α) (t : Nat) (v : α) : Nat → α := fun x => if x = t then v else σ x

theorem upd_apply {α : Type} (σ : Nat → α) (t : Nat) (v : α) (x : Nat) : upd σ t v x = if x = t then v else σ x := Eq.trans rfl rfl
theorem upd_same {α : Type} (σ : Nat → α) (t : Nat) (v : α) : upd σ t v t = v := by simp [upd]

def ofC : Value → D
  | .int k n => .int k n
  | .bool b => .bool b
  | .string s => .str s.data.toList
  | .slice none 0 0 => .nilsl
  | x => .raw x

def ofV : Value → D
  | .agg cs => .agg (cs.toList.map ofC)
  | x => ofC x

/-- a variable of a package: what it holds, if that is laid -/
def evG (g : Nat) : Option D → D
  | some d => .cref d 0
  | none => .raw (.pointer (some ⟨g, 0, none⟩))

def ev (σ : Env) : Operand → D
  | .tmp t => σ t
  | .const v => ofV v
  | .global g => evG g (glob g)
  | .func f => .fn (.func f) []

inductive TK where
  | none
  | bool
  | int (k : IntKind)
  | str
  | slice (e esz bytes : Nat) (eagg : Bool)
  | arr (n esz : Nat) (eagg : Bool)
  | struct (fs : List (Nat × Nat × Bool)) (eq : List Nat)
  | ifc
  | other
  deriving Inhabited

structure TI where
  k : TK
  size : Nat
  agg : Bool
  zero : List D
  deriving Inhabited

def aggT (P : Program) (t : TypeId) : Bool :=
  match P.underlying t with
  | some (.struct _) | some (.array ..) => true
  | _ => false

def flatT (P : Program) (t : TypeId) : Bool :=
  match P.underlying t with
  | some .bool | some (.int _) | some .string => true
  | _ => false

/-- 1: bool, 2: an integer, 3: a string, 0: other -/
def kindT (P : Program) (t : TypeId) : Nat :=
  match P.underlying t with
  | some .bool => 1
  | some (.int _) => 2
  | some .string => 3
  | _ => 0

def sizeT (P : Program) (t : TypeId) : Nat := if (P.underlying t).isSome then ((P.info? t).map (·.size)).getD 0 else 0

def tiOf (P : Program) (t : TypeId) : TI where
  k := match P.underlying t with
    | some .bool => .bool
    | some (.int k) => .int k
    | some .string => .str
    | some (.slice e) => .slice e (sizeT P e) (((P.info? e).map (·.bytes)).getD 0) (aggT P e)
    | some (.array n e) => .arr n (sizeT P e) (aggT P e)
    | some (.struct fs) => .struct (fs.toList.map fun f => (f.offset, sizeT P f.type, aggT P f.type)) (if fs.toList.all (fun f => f.name != "_" && flatT P f.type && sizeT P f.type == 1) && !P.stoodInHeld t && !P.eqGuardType P.depth t && (fs.toList.map (·.offset)) == List.range fs.size && sizeT P t == fs.size then fs.toList.map fun f => kindT P f.type else [])
    | some (.interface _) => .ifc
    | some _ => .other
    | none => .none
  size := sizeT P t
  agg := aggT P t
  zero := (((P.info? t).bind (·.zero)).map fun z => z.cells.toList.map ofC).getD []

/-- k cells from the j-th on, as one value. -/
def pickD (d : D) (j : Nat) (ag : Bool) (k : Nat) : Option D :=
  if ag then (if j + k ≤ d.cells.length then some (.agg ((d.cells.drop j).take k)) else none) else d.cells[j]?

/-- The cells cs written at the j-th. -/
def setD (d : D) (j : Nat) (cs : List D) : Option D :=
  if j + cs.length ≤ d.cells.length then
    match d with
    | .agg ds => some (.agg (ds.take j ++ cs ++ ds.drop (j + cs.length)))
    | _ => match cs with
      | [c] => some c
      | _ => none
  else none

def eqC : D → D → Option Bool
  | .int k a, .int k' b => if k = k' then some (a == b) else none
  | .bool a, .bool b => some (a == b)
  | .str a, .str b => some (a == b)
  | _, _ => none

def eqL : List D → List D → Option Bool
  | [], [] => some true
  | a :: as, b :: bs => match eqC a b with
    | some true => eqL as bs
    | some false => match eqL as bs with
      | some _ => some false
      | none => none
    | none => none
  | _, _ => none

def kindsOk : List Nat → List D → Bool
  | [], [] => true
  | 1 :: ks, .bool _ :: ds => kindsOk ks ds
  | 2 :: ks, .int _ _ :: ds => kindsOk ks ds
  | 3 :: ks, .str _ :: ds => kindsOk ks ds
  | _, _ => false

def eqD (ti : TI) (x y : D) : Option Bool :=
  match ti.k, x, y with
  | .struct _ (k :: ks), .agg a, .agg b => if kindsOk (k :: ks) a then eqL a b else none
  | .bool, .bool a, .bool b => some (a == b)
  | _, _, _ => none

def cmpD (op : BinOp) (a b : Int) : Option D :=
  match op with
  | .eql => some (.bool (a == b))
  | .neq => some (.bool (a != b))
  | .lss => some (.bool (decide (a < b)))
  | .leq => some (.bool (decide (a ≤ b)))
  | .gtr => some (.bool (decide (b < a)))
  | .geq => some (.bool (decide (b ≤ a)))
  | _ => none

def intD (op : BinOp) (k : IntKind) (a b : Int) : Option D :=
  match op with
  | .add => some (.int k (k.wrap (a + b)))
  | .sub => some (.int k (k.wrap (a - b)))
  | .mul => some (.int k (k.wrap (a * b)))
  | .quo => if b = 0 then none else some (.int k (k.wrap (a.tdiv b)))
  | .rem => if b = 0 then none else some (.int k (a.tmod b))
  | op => cmpD op a b

def strD (op : BinOp) (a b : List UInt8) : Option D :=
  match op with
  | .add => if a.length + b.length ≤ 9223372036854775807 then some (.str (a ++ b)) else none
  | .eql => some (.bool (a == b))
  | .neq => some (.bool (!(a == b)))
  | .lss => some (.bool (Op.bytesLess a b))
  | .leq => some (.bool (Op.bytesLess a b || a == b))
  | .gtr => some (.bool (!(Op.bytesLess a b || a == b)))
  | .geq => some (.bool (!Op.bytesLess a b))
  | _ => none

def binE (ti : TI) (op : BinOp) (a b : D) : Option D :=
  match op with
  | .eql => (eqD ti a b).map .bool
  | .neq => (eqD ti a b).map fun x => .bool (!x)
  | _ => none

def binD (ti : TI) (op : BinOp) : D → D → Option D
  | .int k a, .int k' b => if k = k' then intD op k a b else none
  | .str a, .str b => strD op a b
  | a, b => binE ti op a b

/-- Held against the literal nil. -/
def isNil : Operand → Bool
  | .const .nilIface => true
  | _ => false
def nilE : D → Option Bool
  | .ifc _ _ => some false
  | .raw .nilIface => some true
  | _ => none
def nilB (ti : TI) (op : BinOp) (x : D) : Option D :=
  match ti.k, op with
  | .ifc, .eql => (nilE x).map .bool
  | .ifc, .neq => (nilE x).map fun b => .bool (!b)
  | _, _ => none
def binV (ti : TI) (op : BinOp) (x y : D) (c : Bool) : Option D := if c then nilB ti op x else binD ti op x y

def unD (op : UnOp) : D → Option D
  | .bool b => match op with
    | .not => some (.bool (!b))
    | _ => none
  | .int k n => match op with
    | .neg => some (.int k (k.wrap (0 - n)))
    | _ => none
  | _ => none

def shiftD : D → Nat → Option D
  | .loc t e i j, o => some (.loc t e i (j + o))
  | .cref d j, o => some (.cref d (j + o))
  | _, _ => none

def fieldAddrD (ti : TI) (x : D) (i : Nat) : Option D :=
  match ti.k with
  | .struct fs _ => match fs[i]? with
    | some (off, sz, _) => if sz = 0 then none else shiftD x off
    | none => none
  | _ => none

def fieldD (ti : TI) (x : D) (i : Nat) : Option D :=
  match ti.k, x with
  | .struct fs _, .agg ds => match fs[i]? with
    | some (off, sz, ag) => if sz = 0 then none else pickD (.agg ds) off ag sz
    | none => none
  | _, _ => none

def indexAddrD (ti : TI) (x : D) (n : Int) : Option D :=
  match ti.k with
  | .slice _ esz _ _ => match x with
    | .sl sz es => if 0 ≤ n ∧ sz = esz ∧ 0 < esz then (es[n.toNat]?).map fun d => .cref d 0 else none
    | .osl t e sz o len => if 0 ≤ n ∧ n < len ∧ sz = esz ∧ 0 < esz then some (.loc t e (o + n.toNat) 0) else none
    | _ => none
  | .arr len esz _ => if 0 ≤ n ∧ n < len ∧ 1 < len ∧ 0 < esz then shiftD x (n.toNat * esz) else none
  | _ => none

def indexD (ti : TI) (x : D) (n : Int) : Option D :=
  match ti.k, x with
  | .str, .str s => if 0 ≤ n then (s[n.toNat]?).map fun b => .int .u8 (b.toNat : Int) else none
  | .arr len esz ag, .agg ds => if 0 ≤ n ∧ n < len ∧ 0 < esz then pickD (.agg ds) (n.toNat * esz) ag esz else none
  | _, _ => none

def loadD (ti : TI) (bx : Bxs) : D → Option D
  | .loc t e i j => if (bx t).ep = e ∧ (bx t).k ≠ 0 ∧ 0 < ti.size then ((bx t).es[i]?).bind fun d => pickD d j ti.agg ti.size else none
  | .cref d j => if 0 < ti.size then pickD d j ti.agg ti.size else none
  | _ => none

def consO (x : Option D) (xs : Option (List D)) : Option (List D) := match x, xs with
  | some x, some xs => some (x :: xs)
  | _, _ => none

def condD (b : Bool) (x y : Prop) (_ : Tok (x ∧ y) := ⟨⟩) : Prop := if b then x else y
def condC (d : D) (x y : Prop) (_ : Tok (x ∧ y) := ⟨⟩) : Prop := match d with
  | .bool t => condD t x y
  | _ => False
def guardV (d : D) : Option (Option Bool) := match d with
  | .bool b => some (some b)
  | .raw (.tuple vs) => if vs.size = 0 then some none else none
  | _ => none
def guardO (x : Option Oper) (σ : Env) : Option (Option Bool) := match x with
  | some o => match o.dst with
    | some d => guardV (σ d)
    | none => none
  | none => none
def gK (g : Option Bool) (want : Bool) (x y : Prop) (_ : Tok (x ∧ y) := ⟨⟩) : Prop := if g = some want then x else y
def pickV (d a b : D) : Option D := match d with
  | .bool t => some (if t then a else b)
  | _ => none
def atInt (d : D) (f : Int → Option D) : Option D := match d with
  | .int _ n => f n
  | _ => none
def atTup (d : D) (i : Nat) : Option D := match d with
  | .tup ds => ds[i]?
  | _ => none
def optV (a b : Option (Option Int)) (f : Option Int → Option Int → Option D) : Option D := match a, b with
  | some l, some h => f l h
  | _, _ => none
def intO (d : D) : Option (Option Int) := match d with
  | .int _ n => some (some n)
  | _ => none
def nilD (d : D) : Option D := match d with
  | .loc t e i j => some (.loc t e i j)
  | .cref d j => some (.cref d j)
  | _ => none
def minD : List D → Option D
  | [.int k a, .int k' b] => if k = k' then some (.int k (if b < a then b else a)) else none
  | _ => none
def maxD : List D → Option D
  | [.int k a, .int k' b] => if k = k' then some (.int k (if a < b then b else a)) else none
  | _ => none

def optInt (σ : Env) : Option Operand → Option (Option Int)
  | none => some none
  | some x => intO (ev σ x)

/-- lo, hi of a slice expression over something of a length. -/
def cutD (len : Nat) (lo hi : Option Int) : Option (Nat × Nat) :=
  let h : Int := hi.getD len
  let l : Int := lo.getD 0
  if 0 ≤ l ∧ l ≤ h ∧ h ≤ len then some (l.toNat, h.toNat) else none

def sliceD (ti : TI) (x : D) (lo hi : Option Int) : Option D :=
  match ti.k, x with
  | .str, .str s => (cutD s.length lo hi).map fun p => .str ((s.drop p.1).take (p.2 - p.1))
  | .slice _ esz _ _, .sl sz es => if sz = esz ∧ 0 < esz then (cutD es.length lo hi).map fun p => .sl sz ((es.drop p.1).take (p.2 - p.1)) else none
  | .slice _ esz _ _, .osl t e sz o n => if sz = esz ∧ 0 < esz then (cutD n lo hi).map fun p => .osl t e sz (o + p.1) (p.2 - p.1) else none
  | _, _ => none

/-- a struct out of its parts -/
def buildL (fs : List (Nat × Nat × Bool)) : List D → List (Nat × D) → Option (List D)
  | cs, [] => some cs
  | cs, (i, d) :: ps => match fs[i]? with
    | some (off, sz, _) => if d.cells.length = sz ∧ off + sz ≤ cs.length ∧ d.cells.all D.one then buildL fs (cs.take off ++ d.cells ++ cs.drop (off + sz)) ps else none
    | none => none

def buildD (ti : TI) (ps : List (Nat × D)) : Option D :=
  match ti.k with
  | .struct fs _ => if ti.zero.length = ti.size ∧ 0 < ti.size ∧ fs.all (fun f => decide (0 < f.2.1)) = true then (buildL fs ti.zero ps).map .agg else none
  | .arr n esz ag => if ti.zero.length = ti.size ∧ 0 < ti.size ∧ 0 < esz then (buildL ((List.range n).map fun i => (i * esz, esz, ag)) ti.zero ps).map .agg else none
  | _ => none

mutual
/-- no place of the activation's own in it -/
def D.pure : D → Bool
  | .agg ds | .tup ds | .fn _ ds => D.pureL ds
  | .ifc _ d => d.pure
  | .loc .. | .osl .. => false
  | _ => true
def D.pureL : List D → Bool
  | [] => true
  | d :: ds => d.pure && D.pureL ds
end

/-- cells that lead to the activation's own variables are hidden -/
def D.veilC (c : D) : D := if c.pure then c else .undef
def D.veil : D → D
  | .agg ds => .agg (ds.map D.veilC)
  | d => D.veilC d

/-- a slice literal: every element given, in order -/
def buildSliceD (T : TypeId → TI) (ti : TI) (len : Nat) (ps : List (Nat × D)) : Option D :=
  match ti.k with
  | .slice e esz _ _ => if ps.map (·.1) = List.range len ∧ ps.all (fun p => p.2.cells.length == esz && p.2.cells.all D.one && p.2.pure) = true ∧ 0 < esz ∧ len * esz ≤ 65536 ∧ (T e).zero.length = esz then some (.sl esz (ps.map (·.2))) else none
  | _ => none

def lenD : TK → D → Option Nat
  | .str, .str s => some s.length
  | .slice _ _ _ _, .sl _ es => some es.length
  | .slice _ _ _ _, .nilsl => some 0
  | .slice _ _ _ _, .osl _ _ _ _ n => some n
  | .arr n _ _, _ => some n
  | _, _ => none

def biD (b : Builtin) (tis : List TI) (xs : List D) : Option D :=
  match b, tis, xs with
  | .len, [ti], [x] => (lenD ti.k x).map fun n : Nat => D.int .i64 (n : Int)
  | .min, _, xs => minD xs
  | .max, _, xs => maxD xs
  | _, _, _ => none

/-- bytes -/
def bytesD : List D → Option (List UInt8)
  | [] => some []
  | .int .u8 n :: es => (bytesD es).map (UInt8.ofNat n.toNat :: ·)
  | _ :: _ => none

def TK.isU8 : TK → Bool
  | .int .u8 => true
  | _ => false

def convD (T : TypeId → TI) (s d : TI) : D → Option D
  | .int _ n => match s.k, d.k with
    | .int _, .int k => some (.int k (k.wrap n))
    | _, _ => none
  | .str x => match s.k, d.k with
    | .str, .str => some (.str x)
    | _, _ => none
  | .sl sz es => match s.k, d.k with
    | .slice e _ _ _, .str => if sz = 1 ∧ (T e).k.isU8 = true then (bytesD es).map .str else none
    | _, _ => none
  | _ => none

/-- The value of one cell or a struct's cells, as the type says. -/
def mkD (ag : Bool) (cs : List D) : D := if ag then .agg cs else cs.headD .undef

/-- A new variable's zero value; a variable's value. -/
def zeroD (ti : TI) : Option D := if 0 < ti.size ∧ ti.zero.length = ti.size ∧ (ti.agg = true ∨ ti.size = 1) ∧ ti.zero.all D.one then some (mkD ti.agg ti.zero) else none
/-- an interface value -/
def mkIfc (ti : TI) (t : TypeId) (x : D) : Option D := match ti.k with
  | .none | .ifc => none
  | _ => some (.ifc t x)
/-- What an interface value holds, if it is of a type. -/
def tassD (ti : TI) (t : TypeId) (ok : Bool) (x : D) : Option D := match ti.k with
  | .none | .ifc => none
  | _ => match x with
    | .ifc t' v => if t' = t then some (if ok then .tup [v, .bool true] else v) else if ok && !ti.zero.isEmpty then some (.tup [.undef, .bool false]) else none
    | .raw .nilIface => if ok && !ti.zero.isEmpty then some (.tup [.undef, .bool false]) else none
    | _ => none

/-- What an operation yields that changes no variable of the activation's own. -/
def valD (P : Program) (σ : Env) (bx : Bxs) : Op → Option D
  | .move x | .assign x => some (ev σ x)
  | .pick c a b => pickV (ev σ c) (ev σ a) (ev σ b)
  | .binOp op t x y _ => binV (tiOf P t) op (ev σ x) (ev σ y) (isNil y)
  | .unOp op _ x => unD op (ev σ x)
  | .fieldAddr t x i => fieldAddrD (tiOf P t) (ev σ x) i
  | .field t x i => fieldD (tiOf P t) (ev σ x) i
  | .indexAddr t x ix => atInt (ev σ ix) (indexAddrD (tiOf P t) (ev σ x))
  | .index t x ix => atInt (ev σ ix) (indexD (tiOf P t) (ev σ x))
  | .load t a => loadD (tiOf P t) bx (ev σ a)
  | .extract x i => atTup (ev σ x) i
  | .slice t x lo hi none => optV (optInt σ lo) (optInt σ hi) (sliceD (tiOf P t) (ev σ x))
  | .build t ps => buildD (tiOf P t) (ps.toList.map fun p => (p.1, ev σ p.2))
  | .buildSlice t n ps => buildSliceD (tiOf P) (tiOf P t) n (ps.toList.map fun p => (p.1, ev σ p.2))
  | .nilCheck x => nilD (ev σ x)
  | .makeInterface t x => mkIfc (tiOf P t) t (ev σ x)
  | .typeAssert x _ t ok => tassD (tiOf P t) t ok (ev σ x)
  | .makeFunc f first caps => if first.size = 0 then some (.fn f (caps.toList.map (ev σ))) else none
  | .convert s d x => convD (tiOf P) (tiOf P s) (tiOf P d) (ev σ x)
  | .call { callee := .builtin b, args, argTypes } => biD b (argTypes.toList.map (tiOf P)) (args.toList.map (ev σ))
  | _ => none


mutual
/-- no memory at all behind it -/
def D.bare : D → Bool
  | .agg ds | .tup ds | .fn _ ds => D.bareL ds
  | .ifc _ d => d.bare
  | .loc .. | .osl .. | .sl .. | .cref .. | .undef | .glo => false
  | _ => true
def D.bareL : List D → Bool
  | [] => true
  | d :: ds => d.bare && D.bareL ds
end

mutual
/-- A datum with the contents of the activation's own variables in place of their places. -/
def outD (bx : Bxs) : D → Option D
  | .loc t e i j => if (bx t).ep = e ∧ (bx t).k ≠ 0 then match (bx t).es[i]? with
      | some d => if d.pure then some (.cref d j) else some (.cref d.veil j)
      | none => none
    else none
  | .osl t e sz o n => if (bx t).ep = e ∧ (bx t).k ≠ 0 ∧ (bx t).sz = sz ∧ o + n ≤ (bx t).es.length then
      (if D.pureL (((bx t).es.drop o).take n) then some (.sl sz (((bx t).es.drop o).take n)) else none) else none
  | .agg ds => (outL bx ds).map .agg
  | .tup ds => (outL bx ds).map .tup
  | .fn f ds => (outL bx ds).map (.fn f)
  | .ifc t d => (outD bx d).map (.ifc t)
  | d => some d
def outL (bx : Bxs) : List D → Option (List D)
  | [] => some []
  | d :: ds => consO (outD bx d) (outL bx ds)
end

mutual
/-- The variables that a datum names are not written any more. -/
def frzD (bx : Bxs) : D → Bxs
  | .loc t _ _ _ | .osl t _ _ _ _ => upd bx t { bx t with k := if (bx t).k = 1 then 2 else (bx t).k }
  | .agg ds | .tup ds | .fn _ ds => frzL bx ds
  | .ifc _ d => frzD bx d
  | _ => bx
def frzL (bx : Bxs) : List D → Bxs
  | [] => bx
  | d :: ds => frzL (frzD bx d) ds
end

/-- a variable's value -/
def boxD (ti : TI) (v : D) : Option D := if 0 < ti.size ∧ v.cells.length = ti.size ∧ v.cells.all D.one then some v else none

def put (σ : Env) (dst : Option Tmp) (v : D) : Env :=
  match dst with
  | some d => upd σ d v
  | none => σ

def bindD {α : Type} (x : Option α) (f : α → Prop) (_ : Tok f := ⟨⟩) : Prop :=
  match x with
  | some v => f v
  | none => False

/-- What a slice of some element size holds. -/
def elemsD (bx : Bxs) (esz : Nat) : D → Option (List D)
  | .nilsl => some []
  | .sl sz es => if sz = esz then some es else none
  | .osl t e sz o n => if sz = esz ∧ (bx t).ep = e ∧ (bx t).k ≠ 0 ∧ (bx t).sz = sz ∧ o + n ≤ (bx t).es.length then some (((bx t).es.drop o).take n) else none
  | _ => none

def slO (x : D) (bx : Bxs) : Option (D × Bxs) := match x with
  | .nilsl => some (x, bx)
  | .osl .. => some (x, bx)
  | .sl .. => some (x, bx)
  | _ => none
def appO (lo d el esz bytes : Nat) (bx : Bxs) (t : Nat) (b : Bx) (e sz o n : Nat) (ys : List D) : Option (D × Bxs) :=
  if lo ≤ t ∧ sz = esz ∧ o = 0 ∧ b.ep = e ∧ b.k = 1 ∧ b.sz = sz ∧ b.ty = el ∧ n ≤ b.es.length ∧ (n + ys.length) * bytes ≤ 140737488355328 ∧ 0 < esz ∧ 0 < bytes then
    some (.osl d ((bx d).ep + 1) esz 0 (n + ys.length), upd (upd bx t { b with k := 0 }) d ⟨(bx d).ep + 1, 1, esz, el, b.es.take n ++ ys⟩) else none
def appX (lo d el esz bytes : Nat) (bx : Bxs) (x : D) (ys : List D) : Option (D × Bxs) := match x with
  | .nilsl => if ys.length * bytes ≤ 140737488355328 ∧ 0 < esz ∧ 0 < bytes then
      some (.osl d ((bx d).ep + 1) esz 0 ys.length, upd bx d ⟨(bx d).ep + 1, 1, esz, el, ys⟩) else none
  | .osl t e sz o n => appO lo d el esz bytes bx t (bx t) e sz o n ys
  | _ => none
/-- append: the new value, the new variables -/
def appendD (lo : Nat) (T : TypeId → TI) (ti : TI) (dst : Option Tmp) (bx : Bxs) (x : D) (ys : List D) : Option (D × Bxs) :=
  match ti.k, dst with
  | .slice el esz bytes _, some d => if ys = [] then slO x bx else if (T el).zero.length = esz then appX lo d el esz bytes bx x ys else none
  | _, _ => none

def appK (lo : Nat) (T : TypeId → TI) (ti : TI) (dst : Option Tmp) (bx : Bxs) (x y : D) : Option (D × Bxs) := match ti.k with
  | .slice _ esz _ _ => if esz = 0 then none else (elemsD bx esz y).bind fun ys => appendD lo T ti dst bx x ys
  | _ => none
def appD (lo : Nat) (T : TypeId → TI) (t t' : TypeId) (dst : Option Tmp) (bx : Bxs) (x y : D) : Option (D × Bxs) :=
  if t = t' then appK lo T (T t) dst bx x y else none
def appLD (lo : Nat) (T : TypeId → TI) (ts : List TypeId) (dst : Option Tmp) (bx : Bxs) (xs : List D) : Option (D × Bxs) := match ts, xs with
  | [t, t'], [x, y] => appD lo T t t' dst bx x y
  | _, _ => none

def bxSet (bx : Bxs) (t : Nat) (b : Bx) (e i j : Nat) (cs : List D) : Option Bxs := if b.ep = e ∧ b.k = 1 then
    match b.es[i]? with
    | some d0 => (setD d0 j cs).map fun d' => upd bx t { b with es := b.es.set i d' }
    | none => none
  else none

/-- A store: into a variable of the activation's own. -/
def storeD (lo : Nat) (ti : TI) (bx : Bxs) (a v : D) : Option Bxs :=
  match a with
  | .loc t e i j => if lo ≤ t ∧ v.cells.length = ti.size ∧ 0 < ti.size ∧ v.cells.all D.one then bxSet bx t (bx t) e i j v.cells else none
  | _ => none

/-- What a step reads and writes of the activation's own variables: nothing; one slot; any. -/
inductive Cl where
  | n
  | r (t : Nat)
  | w (t : Nat)
  | ra
  | wa
  | pan (d : D)

def Cl.rd : Cl → Nat → Bool
  | .n, _ => false
  | .r t, s | .w t, s => s == t
  | _, _ => true
def Cl.wr : Cl → Nat → Bool
  | .w t, s => s == t
  | .wa, _ | .pan _, _ => true
  | _, _ => false

def slotR : D → Cl
  | .loc t _ _ _ => .r t
  | _ => .n
def slotW : D → Cl
  | .loc t _ _ _ => .w t
  | _ => .wa

def apart : Cl → Cl → Prop
  | .n, _ | _, .n => True
  | .r _, .r _ | .ra, .r _ | .r _, .ra | .ra, .ra => True
  | .r s, .w t | .w s, .r t | .w s, .w t => s ≠ t
  | _, _ => False
def apartO : Option Cl → Option Cl → Prop
  | some a, some b => apart a b
  | _, _ => False
/-- Pairs of steps (counted from the region's end) touch nothing in common. -/
def chk : List (Nat × Nat) → List Cl → Prop
  | [], _ => True
  | (i, j) :: ps, acc => apartO acc[i]? acc[j]? ∧ chk ps acc
def lookT : List (Nat × List (Nat × Nat)) → Nat → List (Nat × Nat)
  | [], _ => []
  | (k, ps) :: r, id => if k = id then ps else lookT r id

/-- THE CONTRACTS OF THE CALLED FUNCTIONS, stated in XVk: on plain data; with the caller's variables at hand (from which slot on the callee may lay its own; what it comes to; what it panics with); of the functions that are ranged over (what they yield; how many slots they take). -/
structure Orac where
  to : FuncId → List D → D → Prop
  toB : FuncId → Nat → List D → Bxs → (D → Bxs → Prop) → (D → Bxs → Prop) → Prop
  it : FuncId → List D → List (List D) → Nat → Prop

/-- An activation's constants: the contracts; the pairs of steps of a region that come in no fixed order and might meet in a variable; its slots begin at base; whom it calls begins at nxt; it leaves the slots below lo alone; what it is to yield, if it is ranged over, and the slot that counts; whether it may panic; whether it may defer. -/
structure Calc where
  o : Orac
  tab : List (Nat × List (Nat × Nat))
  base : Nat
  nxt : Nat
  lo : Nat
  yl : Option (List (List D) × Nat × Nat)
  pn : Bool
  df : Bool

/-- Without steps of more than one end: for regions whose order is drawn. -/
def Calc.det (C : Calc) : Calc := ⟨⟨C.o.to, fun _ _ _ _ _ _ => False, fun _ _ _ _ => False⟩, C.tab, C.base, C.nxt, C.lo, none, false, false⟩

/-- The slots below n alone. -/
def cutB (n : Nat) (bx : Bxs) : Bxs := fun s => if s < n then bx s else .none
/-- The slots from lo up to hi out of bx, the others out of bx1. -/
def mixB (lo hi : Nat) (bx bx1 : Bxs) : Bxs := fun s => if lo ≤ s ∧ s < hi then bx s else bx1 s

/-- A call of a function. -/
def callD (C : Calc) (f : FuncId) (ds : List D) (bx : Bxs) (K : Cl → D → Bxs → Prop) (_ : Tok (K .n .undef bx) := ⟨⟩) : Prop :=
  (∃ d, D.pureL ds = true ∧ C.o.to f ds d ∧ K .n d bx) ∨
  (∃ ds' d, outL bx ds = some ds' ∧ C.o.to f ds' d ∧ d.bare = true ∧ K .ra d bx) ∨
  (∃ ds' d, C.lo = 0 ∧ outL bx ds = some ds' ∧ C.o.to f ds' d ∧ K .wa d (frzL bx ds)) ∨
  (∃ Post Pan, C.lo = 0 ∧ C.o.toB f C.nxt ds bx Post Pan ∧ (∀ d bx', Post d bx' → K .wa d bx') ∧ ∀ d bx', Pan d bx' → K (.pan d) .undef bx')

/-- What is ranged over is handed one more of what it is to yield: the round turns what it will of the others' variables. -/
def yieldD (C : Calc) (l : Nat) (ds : List D) (bx : Bxs) (K : Cl → D → Bxs → Prop) (_ : Tok (K .n .undef bx) := ⟨⟩) : Prop := match C.yl with
  | some (items, gs, l') => (l' = l ∧ D.pureL ds = true ∧ items[(bx gs).sz]? = some ds) ∧ ∀ bx1 : Bxs,
      K .wa (.bool true) (upd (mixB C.lo C.nxt bx bx1) gs { bx gs with sz := (bx gs).sz + 1 }) ∧
      K .wa (.bool false) (upd (mixB C.lo C.nxt bx bx1) gs { bx gs with sz := items.length + 1 })
  | none => False

def callV (C : Calc) (d : D) (ds : List D) (bx : Bxs) (K : Cl → D → Bxs → Prop) (_ : Tok (K .n .undef bx) := ⟨⟩) : Prop := match d with
  | .fn (.func f) caps => callD C f (ds ++ caps) bx K
  | .fn (.yield l) [] => yieldD C l ds bx K
  | _ => False

/-- The slot of the record of the deferred calls. -/
def dfS : Nat := 1000000000

/-- A panic with a value. -/
def panV (d : D) (f : D → Prop) (_ : Tok (f .undef) := ⟨⟩) : Prop := match d with
  | .ifc t v => f (.ifc t v)
  | _ => False

/-- One more deferred call. -/
def pushD : D → D → List D → D
  | .any l, fo, args => .any (.tup (fo :: args) :: l)
  | _, fo, args => .any [.tup (fo :: args)]

/-- A new slice: cells of an element, its type, the elements. -/
def mkslD (T : TypeId → TI) (ti : TI) (l c : D) : Option (Nat × TypeId × List D) := match ti.k, l, c with
  | .slice el esz bytes _, .int _ n, .int _ m => if 0 ≤ n ∧ n ≤ m ∧ m * bytes ≤ 140737488355328 ∧ 0 < esz ∧ 0 < bytes ∧ (T el).size = esz then (zeroD (T el)).map fun z => (esz, el, List.replicate n.toNat z) else none
  | _, _, _ => none

/-- A slice literal that is the activation's own variable: cells of an element, its type, the elements. -/
def litXD (T : TypeId → TI) (ti : TI) (len : Nat) (ps : List (Nat × D)) : Option (Nat × TypeId × List D) :=
  match ti.k with
  | .slice e esz _ _ => if ps.map (·.1) = List.range len ∧ ps.all (fun p => p.2.cells.length == esz && p.2.cells.all D.one) = true ∧ 0 < esz ∧ len * esz ≤ 65536 ∧ (T e).zero.length = esz then some (esz, e, ps.map (·.2)) else none
  | _ => none
/-- which slice literals are: named in the table, by the temporary -/
def litIn : List (Nat × List (Nat × Nat)) → Nat → Bool
  | [], _ => false
  | (k, _) :: r, d => if k = 1000000 + d then true else litIn r d
def litOwn (tab : List (Nat × List (Nat × Nat))) : Option Tmp → Bool
  | some d => litIn tab d
  | none => false

def slotO (b : Nat) : Option Tmp → Option Nat
  | some d => some (b + d)
  | none => none

/-- A step that looks and yields; or a slice literal that is the activation's own. -/
def stepE (P : Program) (C : Calc) (dst : Option Tmp) (op : Op) (σ : Env) (bx : Bxs) (K : Cl → Env → Bxs → Prop) : Prop := match op with
  | .buildSlice T n ps => if litOwn C.tab dst = true then (match dst with
    | some d => bindD (litXD (tiOf P) (tiOf P T) n (ps.toList.map fun p => (p.1, ev σ p.2))) fun r => K (.w (C.base + d)) (upd σ d (.osl (C.base + d) ((bx (C.base + d)).ep + 1) r.1 0 r.2.2.length)) (upd bx (C.base + d) ⟨(bx (C.base + d)).ep + 1, 1, r.1, r.2.1, r.2.2⟩)
    | none => False) else bindD (valD P σ bx (.buildSlice T n ps)) fun v => K .n (put σ dst v) bx
  | op => bindD (valD P σ bx op) fun v => K .n (put σ dst v) bx

def stepD (P : Program) (C : Calc) (o : Oper) (σ : Env) (bx : Bxs) (K : Cl → Env → Bxs → Prop) : Prop :=
  match o.op with
  | .alloc T => match o.dst with
    | some d => bindD (zeroD (tiOf P T)) fun z => bindD (some (tiOf P T).size) fun s => K (.w (C.base + d)) (upd σ d (.loc (C.base + d) ((bx (C.base + d)).ep + 1) 0 0)) (upd bx (C.base + d) ⟨(bx (C.base + d)).ep + 1, 1, s, T, [z]⟩)
    | none => False
  | .box T x => match o.dst with
    | some d => bindD (boxD (tiOf P T) (ev σ x)) fun v => bindD (some (tiOf P T).size) fun s => K (.w (C.base + d)) (upd σ d (.loc (C.base + d) ((bx (C.base + d)).ep + 1) 0 0)) (upd bx (C.base + d) ⟨(bx (C.base + d)).ep + 1, 1, s, T, [v]⟩)
    | none => False
  | .store T a x => bindD (storeD C.lo (tiOf P T) bx (ev σ a) (ev σ x)) fun bx' => bindD (some (slotW (ev σ a))) fun c => K c (put σ o.dst (.raw undef)) bx'
  | .load T a => bindD (loadD (tiOf P T) bx (ev σ a)) fun v => bindD (some (slotR (ev σ a))) fun c => K c (put σ o.dst v) bx
  | .call { callee := .builtin .append, args, argTypes } =>
    bindD (appLD C.lo (tiOf P) argTypes.toList (slotO C.base o.dst) bx (args.toList.map (ev σ))) fun r => K .wa (put σ o.dst r.1) r.2
  | .call { callee := .value fo, args, argTypes := _ } => callV C (ev σ fo) (args.toList.map (ev σ)) bx fun c d bx' => K c (put σ o.dst d) bx'
  | .panic x => C.pn = true ∧ panV (ev σ x) fun d => K (.pan d) σ bx
  | .defer { callee := .value fo, args, argTypes := _ } => C.df = true ∧ (match ev σ fo with | .fn (.func f) caps => K .n (put (upd σ dfS (pushD (σ dfS) (.fn (.func f) caps) (args.toList.map (ev σ)))) o.dst (.raw undef)) bx | _ => False)
  | .makeSlice T l c => match o.dst with
    | some d => bindD (mkslD (tiOf P) (tiOf P T) (ev σ l) (ev σ c)) fun r => K (.w (C.base + d)) (upd σ d (.osl (C.base + d) ((bx (C.base + d)).ep + 1) r.1 0 r.2.2.length)) (upd bx (C.base + d) ⟨(bx (C.base + d)).ep + 1, 1, r.1, r.2.1, r.2.2⟩)
    | none => False
  | op => stepE P C o.dst op σ bx K

/-- A panic ends the region. -/
def contC (c : Cl) (x y : Prop) (_ : Tok (x ∧ y) := ⟨⟩) : Prop := match c with
  | .pan _ => x
  | _ => y

def opsR (P : Program) (C : Calc) (full : List Oper) : List Oper → List Cl → Env → Bxs → (List Cl → Env → Bxs → Prop) → Prop
  | [], acc, σ, bx, K => K acc σ bx
  | o :: rest, acc, σ, bx, K =>
    match o.guard with
    | none => stepD P C o σ bx fun c σ' bx' => contC c (K (c :: acc) σ' bx') (opsR P C full rest (c :: acc) σ' bx' K)
    | some (j, want) => bindD (guardO full[j]? σ) fun g =>
      gK g want (stepD P C o σ bx fun c σ' bx' => contC c (K (c :: acc) σ' bx') (opsR P C full rest (c :: acc) σ' bx' K))
        (opsR P C full rest (.n :: acc) (put σ o.dst (.raw undef)) bx K)

def opsD (P : Program) (C : Calc) (full l : List Oper) (acc : List Cl) (σ : Env) (bx : Bxs) (K : List Cl → Env → Bxs → Prop) (_ : Tok (full, l) := ⟨⟩) (_ : Tok (K acc σ bx) := ⟨⟩) : Prop := opsR P C full l acc σ bx K

/-- Which of two operations of a region come in a fixed order. -/
def ordered (b : Array Nat) (i j : Nat) : Bool := (b.getD (max i j) 0).testBit (min i j)

/-- An operation's temporaries: written, looked at. -/
def tmpsOf (full : List Oper) (o : Oper) : List Tmp :=
  o.dst.toList ++ o.looksAt full.toArray

/-- The class of an operation at its worst. -/
def wcls : Op → Nat
  | .load .. => 1
  | .alloc .. | .box .. | .store .. | .makeSlice .. | .buildSlice .. => 2
  | .call { callee := .builtin .append, .. } => 2
  | .call { callee := .value _, .. } => 2
  | _ => 0

/-- WHATEVER ORDER A REGION DRAWS, IT COMES TO ONE END: a temporary's writer is ordered with whoever names it; whoever writes a variable is ordered with whoever reads or writes one, or the two are looked at (counted from the end). -/
def commOk (full : List Oper) (ps : List (Nat × Nat)) : Bool :=
  let b := Region.before full.toArray
  full.zipIdx.all fun (o, j) => o.after.toList.all (fun e => !Region.binds .any e || decide (e.on < j)) &&
    full.zipIdx.all fun (o', i) => i == j || ordered b i j ||
      ((match o'.dst with | some d => !(tmpsOf full o).contains d | none => true) &&
       (match o.dst with | some d => !(tmpsOf full o').contains d | none => true) &&
       (!(wcls o.op == 2 && wcls o'.op != 0) || ps.contains (full.length - 1 - j, full.length - 1 - i) || ps.contains (full.length - 1 - i, full.length - 1 - j)))

/-- Every temporary that is written exists; no region's order matters. -/
def codeOk1 (tab : List (Nat × List (Nat × Nat))) (N : Nat) : Code → Bool
  | .region id ops draw => ops.toList.all (fun o => match o.dst with | some d => decide (d < N) | none => true) && (!draw || commOk ops.toList (lookT tab id))
  | .seq a b => codeOk1 tab N a && codeOk1 tab N b
  | .cond _ x y => codeOk1 tab N x && codeOk1 tab N y
  | .block _ c => codeOk1 tab N c
  | .loop c => codeOk1 tab N c
  | .scope c => codeOk1 tab N c
  | .rangeFunc _ ps a b => ps.toList.all (fun t => decide (t < N)) && codeOk1 tab N a && codeOk1 tab N b
  | _ => true

/-- How a piece of code is left. -/
inductive DX where
  | normal
  | exit (id : Nat)
  | goto (l : Nat)
  | ret
  | pan (d : D)

/-- behind a region -/
def regQ (Q : DX → Env → Bxs → Prop) (acc : List Cl) (σ : Env) (bx : Bxs) : Prop := match acc with
  | .pan d :: _ => Q (.pan d) σ bx
  | _ => Q .normal σ bx

def codeOk (tab : List (Nat × List (Nat × Nat))) (N : Nat) (c : Code) : Bool := decide (N ≤ 1000000000) && codeOk1 tab N c

def thenQ (K : Env → Bxs → Prop) (Q : DX → Env → Bxs → Prop) : DX → Env → Bxs → Prop
  | .normal, σ, bx => K σ bx
  | e, σ, bx => Q e σ bx

def blockQ (id : Nat) (Q : DX → Env → Bxs → Prop) : DX → Env → Bxs → Prop
  | .exit id', σ, bx => if id' = id then Q .normal σ bx else Q (.exit id') σ bx
  | e, σ, bx => Q e σ bx

/-- No jump to a label leaves a scope. -/
def scopeQ (Q : DX → Env → Bxs → Prop) : DX → Env → Bxs → Prop
  | .goto _, _, _ => False
  | e, σ, bx => Q e σ bx

/-- What is ranged over. -/
def rangeD (C : Calc) (d : D) (K : List (List D) → Nat → Prop) : Prop := ∃ f caps items ext, d = .fn (.func f) caps ∧ D.pureL caps = true ∧ C.o.it f caps items ext ∧ K items ext

def bindPs (σ : Env) : List Tmp → List D → Env
  | t :: ts, d :: ds => bindPs (upd σ t d) ts ds
  | _, _ => σ

/-- The end of a round. -/
def roundQ (nxt ext : Nat) (J : Nat → Bxs → Prop) (n : Nat) (Q : DX → Env → Bxs → Prop) (σ : Env) (bx1 : Bxs) : DX → Env → Bxs → Prop := fun e _ bx' =>
  (∀ s, nxt ≤ s → s < nxt + ext → bx' s = bx1 s) ∧ match e with
    | .normal => J (n + 1) (cutB nxt bx')
    | .ret => ∀ bx2, cutB nxt bx2 = cutB nxt bx' → Q .ret σ bx2
    | .exit id => ∀ bx2, cutB nxt bx2 = cutB nxt bx' → Q (.exit id) σ bx2
    | _ => False

def noQ : DX → Env → Bxs → Prop := fun _ _ _ => False

set_option linter.unusedVariables false in
def cR (P : Program) : Calc → Code → (DX → Env → Bxs → Prop) → Env → Bxs → Prop
  | C, .skip, Q, σ, bx => Q .normal σ bx
  | C, .region _ ops false, Q, σ, bx => opsD P C ops.toList ops.toList [] σ bx fun acc σ' bx' => regQ Q acc σ' bx'
  | C, .region id ops true, Q, σ, bx => opsD P C.det ops.toList ops.toList [] σ bx fun acc σ' bx' => chk (lookT C.tab id) acc ∧ Q .normal σ' bx'
  | C, .seq a b, Q, σ, bx => cR P C a (thenQ (cR P C b Q) Q) σ bx
  | C, .cond c x y, Q, σ, bx => condC (ev σ c) (cR P C x Q σ bx) (cR P C y Q σ bx)
  | C, .block id c, Q, σ, bx => cR P C c (blockQ id Q) σ bx
  | C, .loop c, Q, σ, bx => ∃ (I : Env → Bxs → Prop) (μ : Env → Bxs → Nat), I σ bx ∧ ∀ σ bx, I σ bx → cR P C c (thenQ (fun σ' bx' => I σ' bx' ∧ μ σ' bx' < μ σ bx) Q) σ bx
  | C, .scope c, Q, σ, bx => cR P C c (scopeQ Q) σ bx
  | C, .exit id, Q, σ, bx => Q (.exit id) σ bx
  | C, .ret, Q, σ, bx => Q .ret σ bx
  | C, .label _, Q, σ, bx => Q .normal σ bx
  | C, .rangeFunc g ps assign body, Q, σ, bx => C.lo = 0 ∧ C.yl = none ∧ rangeD C (ev σ g) fun items ext => ∃ J : Nat → Bxs → Prop, J 0 (cutB C.nxt bx) ∧
      (∀ n it bx1, items[n]? = some it → J n (cutB C.nxt bx1) → it.length = ps.size ∧
        cR P ⟨C.o, C.tab, C.base, C.nxt + ext, C.lo, C.yl, false, false⟩ assign (thenQ (cR P ⟨C.o, C.tab, C.base, C.nxt + ext, C.lo, C.yl, false, false⟩ body (roundQ C.nxt ext J n Q σ bx1)) noQ) (bindPs σ ps.toList it) bx1) ∧
      ∀ bx1, J items.length (cutB C.nxt bx1) → Q .normal σ bx1
  | _, _, _, _, _ => False

def cD (P : Program) (C : Calc) (c : Code) (Q : DX → Env → Bxs → Prop) (σ : Env) (bx : Bxs) (_ : Tok c := ⟨⟩) (_ : Tok (Q .normal σ bx) := ⟨⟩) : Prop := cR P C c Q σ bx

/-- What the results hold. -/
def resD (P : Program) (σ : Env) (bx : Bxs) : ResultVar → Option D
  | .tmp t => some (σ t)
  | .cell a T => loadD (tiOf P T) bx (σ a)

def resL (P : Program) (σ : Env) (bx : Bxs) : List ResultVar → Option (List D)
  | [] => some []
  | r :: rs => consO (resD P σ bx r) (resL P σ bx rs)

def tupD : List D → D
  | [d] => d
  | ds => .tup ds

/-- d says no more of a value than r does -/
inductive Weak : D → D → Prop where
  | refl (d : D) : Weak d d
  | nil (sz : Nat) : Weak .nilsl (.sl sz [])
  | tup {ds ds' : List D} (hl : ds.length = ds'.length) (h : ∀ (i : Nat) x x', ds[i]? = some x → ds'[i]? = some x' → Weak x x') : Weak (.tup ds) (.tup ds')
  | agg {ds ds' : List D} (hl : ds.length = ds'.length) (h : ∀ (i : Nat) x x', ds[i]? = some x → ds'[i]? = some x' → Weak x x') : Weak (.agg ds) (.agg ds')

def retQ (P : Program) (rv : List ResultVar) (d : D) : DX → Env → Bxs → Prop
  | .normal, σ, bx | .ret, σ, bx => bindD (resL P σ bx rv) fun rs => bindD (outD bx (tupD rs)) fun r => Weak r d
  | _, _, _ => False

def argsF : Nat → List D → Env
  | _, [] => fun _ => .raw undef
  | n, d :: ds => upd (argsF (n + 1) ds) n d

/-- The function's text, called with data, comes to a datum. -/
def fnD (P : Program) (O : Orac) (tab : List (Nat × List (Nat × Nat))) (fn : Func) (ds : List D) (d : D) : Prop :=
  ∃ c, fn.body = some c ∧ codeOk tab fn.ntmps c = true ∧ cD P ⟨O, tab, 0, fn.ntmps, 0, none, false, false⟩ c (retQ P fn.results.toList d) (argsF 0 ds) (fun _ => .none)

def retB (P : Program) (rv : List ResultVar) (Post Pan : D → Bxs → Prop) : DX → Env → Bxs → Prop
  | .normal, σ, bx | .ret, σ, bx => bindD (resL P σ bx rv) fun rs => Post (tupD rs) bx
  | .pan d, _, bx => Pan d bx
  | _, _, _ => False

/-- The same where it has its caller's variables at hand. -/
def fnB (P : Program) (O : Orac) (tab : List (Nat × List (Nat × Nat))) (fn : Func) (base : Nat) (ds : List D) (bx : Bxs) (Post Pan : D → Bxs → Prop) : Prop :=
  ∃ c, fn.body = some c ∧ codeOk tab fn.ntmps c = true ∧ cD P ⟨O, tab, base, base + fn.ntmps, 0, none, true, false⟩ c (retB P fn.results.toList Post Pan) (argsF 0 ds) bx

def retI (gs n : Nat) : DX → Env → Bxs → Prop
  | .normal, _, bx | .ret, _, bx => n ≤ (bx gs).sz
  | _, _, _ => False

/-- A function that is ranged over yields the items, one after the other, as long as it is asked for more. -/
def fnI (P : Program) (O : Orac) (tab : List (Nat × List (Nat × Nat))) (fn : Func) (caps : List D) (items : List (List D)) : Prop :=
  ∃ c, fn.body = some c ∧ codeOk tab fn.ntmps c = true ∧ fn.results.toList = [] ∧ ∀ (gs l : Nat) (bx : Bxs), (bx gs).k = 0 → (bx gs).sz = 0 →
    cD P ⟨O, tab, gs + 1, gs + 1 + fn.ntmps, gs + 1, some (items, gs, l), false, false⟩ c (retI gs items.length) (argsF 0 (.fn (.yield l) [] :: caps)) bx

end Go.V
