/-
  The data level: plain data in place of values in memory, a weakest precondition over the model's own code that speaks of plain data alone. Definitions and the rules by which it is evaluated.
  The data level's rules of evaluation, one for each form of code and operation: laid for simp under go_sem. None is proved by rfl alone: else the kernel would compute what simp has computed.
  How a value in memory represents a datum; how that is kept while the world grows.
  The two levels held together: an activation's temporaries and world, and the data that they stand for.
  Each operation that yields a datum and writes no variable of the activation's own does so in the model.
  Each operation that yields a datum, the second part.
  Each operation that yields a datum, the third part; all of them together.
-/
import Derived.Test.YtgcbdhnkigmfpaaGreatDoorVG
namespace Go.V
universe u
open Go.RowKit

abbrev Env := Nat → D
abbrev Bxs := Nat → Bx

def Bx.none : Bx := ⟨0, 0, 0, 0, []⟩

def upd {α : Type} (σ : Nat → α) (t : Nat) (v : α) : Nat → α := fun x => if x = t then v else σ x

theorem upd_apply {α : Type} (σ : Nat → α) (t : Nat) (v : α) (x : Nat) : upd σ t v x = if x = t then v else σ x := Eq.trans rfl rfl
theorem upd_same {α : Type} (σ : Nat → α) (t : Nat) (v : α) : upd σ t v t = v := by simp [upd]

def ofC : Value → D
  | .int k n => .int k n
  | .bool b => .bool b
  | .string s => .str s.data.toList
  | .slice none 0 0 => .nilsl
  | x => .raw x

def ofV : Value → D
  | .agg cs => .agg (cs.toList.map ofC)
  | x => ofC x

/-- a variable of a package: what it holds, if that is laid -/
def evG (g : Nat) : Option D → D
  | some d => .cref d 0
  | none => .raw (.pointer (some ⟨g, 0, none⟩))

def ev (σ : Env) : Operand → D
  | .tmp t => σ t
  | .const v => ofV v
  | .global g => evG g (glob g)
  | .func f => .fn (.func f) []

inductive TK where
  | none
  | bool
  | int (k : IntKind)
  | str
  | slice (e esz bytes : Nat) (eagg : Bool)
  | arr (n esz : Nat) (eagg : Bool)
  | struct (fs : List (Nat × Nat × Bool)) (eq : List Nat)
  | ifc
  | map (kt et : TypeId)
  | other
  deriving Inhabited

structure TI where
  k : TK
  size : Nat
  agg : Bool
  zero : List D
  deriving Inhabited

def aggT (P : Program) (t : TypeId) : Bool :=
  match P.underlying t with
  | some (.struct _) | some (.array ..) => true
  | _ => false

def flatT (P : Program) (t : TypeId) : Bool :=
  match P.underlying t with
  | some .bool | some (.int _) | some .string => true
  | _ => false

/-- 1: bool, 2: an integer, 3: a string, 0: other -/
def kindT (P : Program) (t : TypeId) : Nat :=
  match P.underlying t with
  | some .bool => 1
  | some (.int _) => 2
  | some .string => 3
  | _ => 0

def sizeT (P : Program) (t : TypeId) : Nat := if (P.underlying t).isSome then ((P.info? t).map (·.size)).getD 0 else 0

def tiOf (P : Program) (t : TypeId) : TI := {
  k := (match P.underlying t with
    | some .bool => .bool
    | some (.int k) => .int k
    | some .string => .str
    | some (.slice e) => .slice e (sizeT P e) (((P.info? e).map (·.bytes)).getD 0) (aggT P e)
    | some (.array n e) => .arr n (sizeT P e) (aggT P e)
    | some (.struct fs) => .struct (fs.toList.map fun f => (f.offset, sizeT P f.type, aggT P f.type)) (if fs.toList.all (fun f => f.name != "_" && flatT P f.type && sizeT P f.type == 1) && !P.stoodInHeld t && !P.eqGuardType P.depth t && (fs.toList.map (·.offset)) == List.range fs.size && sizeT P t == fs.size then fs.toList.map fun f => kindT P f.type else [])
    | some (.interface _) => .ifc
    | some (.map kt et) => .map kt et
    | some _ => .other
    | none => .none)
  size := sizeT P t
  agg := aggT P t
  zero := (((P.info? t).bind (·.zero)).map fun z => z.cells.toList.map ofC).getD [] }

/-- k cells from the j-th on, as one value. -/
def pickD (d : D) (j : Nat) (ag : Bool) (k : Nat) : Option D :=
  if ag then (if j + k ≤ d.cells.length then some (.agg ((d.cells.drop j).take k)) else none) else d.cells[j]?

/-- The cells cs written at the j-th. -/
def setD (d : D) (j : Nat) (cs : List D) : Option D :=
  if j + cs.length ≤ d.cells.length then
    match d with
    | .agg ds => some (.agg (ds.take j ++ cs ++ ds.drop (j + cs.length)))
    | _ => match cs with
      | [c] => some c
      | _ => none
  else none

def eqC : D → D → Option Bool
  | .int k a, .int k' b => if k = k' then some (a == b) else none
  | .bool a, .bool b => some (a == b)
  | .str a, .str b => some (a == b)
  | _, _ => none

def eqL : List D → List D → Option Bool
  | [], [] => some true
  | a :: as, b :: bs => match eqC a b with
    | some true => eqL as bs
    | some false => match eqL as bs with
      | some _ => some false
      | none => none
    | none => none
  | _, _ => none

def kindsOk : List Nat → List D → Bool
  | [], [] => true
  | 1 :: ks, .bool _ :: ds => kindsOk ks ds
  | 2 :: ks, .int _ _ :: ds => kindsOk ks ds
  | 3 :: ks, .str _ :: ds => kindsOk ks ds
  | _, _ => false

def eqD (ti : TI) (x y : D) : Option Bool :=
  match ti.k, x, y with
  | .struct _ (k :: ks), .agg a, .agg b => if kindsOk (k :: ks) a then eqL a b else none
  | .bool, .bool a, .bool b => some (a == b)
  | _, _, _ => none

def cmpD (op : BinOp) (a b : Int) : Option D :=
  match op with
  | .eql => some (.bool (a == b))
  | .neq => some (.bool (a != b))
  | .lss => some (.bool (decide (a < b)))
  | .leq => some (.bool (decide (a ≤ b)))
  | .gtr => some (.bool (decide (b < a)))
  | .geq => some (.bool (decide (b ≤ a)))
  | _ => none

def intD (op : BinOp) (k : IntKind) (a b : Int) : Option D :=
  match op with
  | .add => some (.int k (k.wrap (a + b)))
  | .sub => some (.int k (k.wrap (a - b)))
  | .mul => some (.int k (k.wrap (a * b)))
  | .quo => if b = 0 then none else some (.int k (k.wrap (a.tdiv b)))
  | .rem => if b = 0 then none else some (.int k (a.tmod b))
  | op => cmpD op a b

def strD (op : BinOp) (a b : List UInt8) : Option D :=
  match op with
  | .add => if a.length + b.length ≤ 9223372036854775807 then some (.str (a ++ b)) else none
  | .eql => some (.bool (a == b))
  | .neq => some (.bool (!(a == b)))
  | .lss => some (.bool (Op.bytesLess a b))
  | .leq => some (.bool (Op.bytesLess a b || a == b))
  | .gtr => some (.bool (!(Op.bytesLess a b || a == b)))
  | .geq => some (.bool (!Op.bytesLess a b))
  | _ => none

def binE (ti : TI) (op : BinOp) (a b : D) : Option D :=
  match op with
  | .eql => (eqD ti a b).map .bool
  | .neq => (eqD ti a b).map fun x => .bool (!x)
  | _ => none

/-- A slice held against nil. -/
def nilS (op : BinOp) (x : D) : Option D := match op, x with
  | .eql, .nilsl => some (.bool true)
  | .neq, .nilsl => some (.bool false)
  | .eql, .osl .. => some (.bool false)
  | .neq, .osl .. => some (.bool true)
  | .eql, .sl _ es => some (if es.isEmpty then .abool else .bool false)
  | .neq, .sl _ es => some (if es.isEmpty then .abool else .bool true)
  | _, _ => none
def nilK (ti : TI) (op : BinOp) (x : D) : Option D := match ti.k with
  | .slice .. => nilS op x
  | _ => none

def binD (ti : TI) (op : BinOp) : D → D → Option D
  | .int k a, .int k' b => if k = k' then intD op k a b else none
  | .str a, .str b => strD op a b
  | x, .nilsl => nilK ti op x
  | a, b => binE ti op a b

/-- Held against the literal nil. -/
def isNil : Operand → Bool
  | .const .nilIface => true
  | _ => false
def nilE : D → Option Bool
  | .ifc _ _ => some false
  | .raw .nilIface => some true
  | _ => none
def nilB (ti : TI) (op : BinOp) (x : D) : Option D :=
  match ti.k, op with
  | .ifc, .eql => (nilE x).map .bool
  | .ifc, .neq => (nilE x).map fun b => .bool (!b)
  | _, _ => none
def binV (ti : TI) (op : BinOp) (x y : D) (c : Bool) : Option D := if c then nilB ti op x else binD ti op x y

def unD (op : UnOp) : D → Option D
  | .bool b => match op with
    | .not => some (.bool (!b))
    | _ => none
  | .int k n => match op with
    | .neg => some (.int k (k.wrap (0 - n)))
    | _ => none
  | _ => none

def shiftD : D → Nat → Option D
  | .loc t e i j, o => some (.loc t e i (j + o))
  | .cref d j, o => some (.cref d (j + o))
  | _, _ => none

def fieldAddrD (ti : TI) (x : D) (i : Nat) : Option D :=
  match ti.k with
  | .struct fs _ => match fs[i]? with
    | some (off, sz, _) => if sz = 0 then none else shiftD x off
    | none => none
  | _ => none

def fieldD (ti : TI) (x : D) (i : Nat) : Option D :=
  match ti.k, x with
  | .struct fs _, .agg ds => match fs[i]? with
    | some (off, sz, ag) => if sz = 0 then none else pickD (.agg ds) off ag sz
    | none => none
  | _, _ => none

def indexAddrD (ti : TI) (x : D) (n : Int) : Option D :=
  match ti.k with
  | .slice _ esz _ _ => match x with
    | .sl sz es => if 0 ≤ n ∧ sz = esz ∧ 0 < esz then (es[n.toNat]?).map fun d => .cref d 0 else none
    | .osl t e sz o len => if 0 ≤ n ∧ n < len ∧ sz = esz ∧ 0 < esz then some (.loc t e (o + n.toNat) 0) else none
    | _ => none
  | .arr len esz _ => if 0 ≤ n ∧ n < len ∧ 1 < len ∧ 0 < esz then shiftD x (n.toNat * esz) else none
  | _ => none

def indexD (ti : TI) (x : D) (n : Int) : Option D :=
  match ti.k, x with
  | .str, .str s => if 0 ≤ n then (s[n.toNat]?).map fun b => .int .u8 (b.toNat : Int) else none
  | .arr len esz ag, .agg ds => if 0 ≤ n ∧ n < len ∧ 0 < esz then pickD (.agg ds) (n.toNat * esz) ag esz else none
  | _, _ => none

def loadD (ti : TI) (bx : Bxs) : D → Option D
  | .loc t e i j => if (bx t).ep = e ∧ lv (bx t).k ∧ 0 < ti.size then ((bx t).es[i]?).bind fun d => pickD d j ti.agg ti.size else none
  | .cref d j => if 0 < ti.size then pickD d j ti.agg ti.size else none
  | _ => none

def consO (x : Option D) (xs : Option (List D)) : Option (List D) := match x, xs with
  | some x, some xs => some (x :: xs)
  | _, _ => none

def condD (b : Bool) (x y : Prop) (_ : Tok (x ∧ y) := ⟨⟩) : Prop := if b then x else y
def condC (d : D) (x y : Prop) (_ : Tok (x ∧ y) := ⟨⟩) : Prop := match d with
  | .bool t => condD t x y
  | .abool => x ∧ y
  | _ => False
def guardV (d : D) : Option (Option Bool) := match d with
  | .bool b => some (some b)
  | .raw (.tuple vs) => if vs.size = 0 then some none else none
  | _ => none
def guardO (x : Option Oper) (σ : Env) : Option (Option Bool) := match x with
  | some o => match o.dst with
    | some d => guardV (σ d)
    | none => none
  | none => none
def gK (g : Option Bool) (want : Bool) (x y : Prop) (_ : Tok (x ∧ y) := ⟨⟩) : Prop := if g = some want then x else y
def pickV (d a b : D) : Option D := match d with
  | .bool t => some (if t then a else b)
  | _ => none
def atInt (d : D) (f : Int → Option D) : Option D := match d with
  | .int _ n => f n
  | _ => none
def atTup (d : D) (i : Nat) : Option D := match d with
  | .tup ds => ds[i]?
  | _ => none
def optV (a b : Option (Option Int)) (f : Option Int → Option Int → Option D) : Option D := match a, b with
  | some l, some h => f l h
  | _, _ => none
def intO (d : D) : Option (Option Int) := match d with
  | .int _ n => some (some n)
  | _ => none
def nilD (d : D) : Option D := match d with
  | .loc t e i j => some (.loc t e i j)
  | .cref d j => some (.cref d j)
  | _ => none
def minD : List D → Option D
  | [.int k a, .int k' b] => if k = k' then some (.int k (if b < a then b else a)) else none
  | _ => none
def maxD : List D → Option D
  | [.int k a, .int k' b] => if k = k' then some (.int k (if a < b then b else a)) else none
  | _ => none

def optInt (σ : Env) : Option Operand → Option (Option Int)
  | none => some none
  | some x => intO (ev σ x)

/-- lo, hi of a slice expression over something of a length. -/
def cutD (len : Nat) (lo hi : Option Int) : Option (Nat × Nat) :=
  let h : Int := hi.getD len
  let l : Int := lo.getD 0
  if 0 ≤ l ∧ l ≤ h ∧ h ≤ len then some (l.toNat, h.toNat) else none

def sliceD (ti : TI) (x : D) (lo hi : Option Int) : Option D :=
  match ti.k, x with
  | .str, .str s => (cutD s.length lo hi).map fun p => .str ((s.drop p.1).take (p.2 - p.1))
  | .slice _ esz _ _, .sl sz es => if sz = esz ∧ 0 < esz then (cutD es.length lo hi).map fun p => .sl sz ((es.drop p.1).take (p.2 - p.1)) else none
  | .slice _ esz _ _, .osl t e sz o n => if sz = esz ∧ 0 < esz then (cutD n lo hi).map fun p => .osl t e sz (o + p.1) (p.2 - p.1) else none
  | _, _ => none

/-- a struct out of its parts -/
def buildL (fs : List (Nat × Nat × Bool)) : List D → List (Nat × D) → Option (List D)
  | cs, [] => some cs
  | cs, (i, d) :: ps => match fs[i]? with
    | some (off, sz, _) => if d.cells.length = sz ∧ off + sz ≤ cs.length ∧ d.cells.all D.one then buildL fs (cs.take off ++ d.cells ++ cs.drop (off + sz)) ps else none
    | none => none

def buildD (ti : TI) (ps : List (Nat × D)) : Option D :=
  match ti.k with
  | .struct fs _ => if ti.zero.length = ti.size ∧ 0 < ti.size ∧ fs.all (fun f => decide (0 < f.2.1)) = true then (buildL fs ti.zero ps).map .agg else none
  | .arr n esz ag => if ti.zero.length = ti.size ∧ 0 < ti.size ∧ 0 < esz then (buildL ((List.range n).map fun i => (i * esz, esz, ag)) ti.zero ps).map .agg else none
  | _ => none

mutual
/-- no place of the activation's own in it -/
def D.pure : D → Bool
  | .agg ds | .tup ds | .fn _ ds | .bfn _ ds => D.pureL ds
  | .ifc _ d => d.pure
  | .loc .. | .osl .. | .omap .. => false
  | _ => true
def D.pureL : List D → Bool
  | [] => true
  | d :: ds => d.pure && D.pureL ds
end

/-- cells that lead to the activation's own variables are hidden -/
def D.veilC (c : D) : D := if c.pure then c else .undef
def D.veil : D → D
  | .agg ds => .agg (ds.map D.veilC)
  | d => D.veilC d

/-- a slice literal: every element given, in order -/
def buildSliceD (T : TypeId → TI) (ti : TI) (len : Nat) (ps : List (Nat × D)) : Option D :=
  match ti.k with
  | .slice e esz _ _ => if ps.map (·.1) = List.range len ∧ ps.all (fun p => p.2.cells.length == esz && p.2.cells.all D.one && p.2.pure) = true ∧ 0 < esz ∧ len * esz ≤ 65536 ∧ (T e).zero.length = esz then some (.sl esz (ps.map (·.2))) else none
  | _ => none

def lenD : TK → D → Option Nat
  | .str, .str s => some s.length
  | .slice _ _ _ _, .sl _ es => some es.length
  | .slice _ _ _ _, .nilsl => some 0
  | .slice _ _ _ _, .osl _ _ _ _ n => some n
  | .arr n _ _, _ => some n
  | _, _ => none

def biD (b : Builtin) (tis : List TI) (xs : List D) : Option D :=
  match b, tis, xs with
  | .len, [ti], [x] => (lenD ti.k x).map fun n : Nat => D.int .i64 (n : Int)
  | .min, _, xs => minD xs
  | .max, _, xs => maxD xs
  | _, _, _ => none

/-- bytes -/
def bytesD : List D → Option (List UInt8)
  | [] => some []
  | .int .u8 n :: es => (bytesD es).map (UInt8.ofNat n.toNat :: ·)
  | _ :: _ => none

def TK.isU8 : TK → Bool
  | .int .u8 => true
  | _ => false

def convD (T : TypeId → TI) (s d : TI) : D → Option D
  | .int _ n => match s.k, d.k with
    | .int _, .int k => some (.int k (k.wrap n))
    | _, _ => none
  | .str x => match s.k, d.k with
    | .str, .str => some (.str x)
    | _, _ => none
  | .sl sz es => match s.k, d.k with
    | .slice e _ _ _, .str => if sz = 1 ∧ (T e).k.isU8 = true then (bytesD es).map .str else none
    | _, _ => none
  | _ => none

/-- The value of one cell or a struct's cells, as the type says. -/
def mkD (ag : Bool) (cs : List D) : D := if ag then .agg cs else cs.headD .undef

/-- A new variable's zero value; a variable's value. -/
def zeroD (ti : TI) : Option D := if 0 < ti.size ∧ ti.zero.length = ti.size ∧ (ti.agg = true ∨ ti.size = 1) ∧ ti.zero.all D.one then some (mkD ti.agg ti.zero) else none
/-- an interface value -/
def mkIfc (ti : TI) (t : TypeId) (x : D) : Option D := match ti.k with
  | .none | .ifc => none
  | _ => some (.ifc t x)
/-- What an interface value holds, if it is of a type. -/
def tassD (ti : TI) (t : TypeId) (ok : Bool) (x : D) : Option D := match ti.k with
  | .none | .ifc => none
  | _ => match x with
    | .ifc t' v => if t' = t then some (if ok then .tup [v, .bool true] else v) else if ok && !ti.zero.isEmpty then some (.tup [.undef, .bool false]) else none
    | .raw .nilIface => if ok && !ti.zero.isEmpty then some (.tup [.undef, .bool false]) else none
    | _ => none

/-- a method's value: its receiver is bound -/
def bfnD (f : Fn) (ds : List D) : Option D := match f with
  | .func g => some (.bfn g ds)
  | _ => none

/-- What an operation yields that changes no variable of the activation's own. -/
def valD (P : Program) (σ : Env) (bx : Bxs) : Op → Option D
  | .move x | .assign x => some (ev σ x)
  | .pick c a b => pickV (ev σ c) (ev σ a) (ev σ b)
  | .binOp op t x y _ => binV (tiOf P t) op (ev σ x) (ev σ y) (isNil y)
  | .unOp op _ x => unD op (ev σ x)
  | .fieldAddr t x i => fieldAddrD (tiOf P t) (ev σ x) i
  | .field t x i => fieldD (tiOf P t) (ev σ x) i
  | .indexAddr t x ix => atInt (ev σ ix) (indexAddrD (tiOf P t) (ev σ x))
  | .index t x ix => atInt (ev σ ix) (indexD (tiOf P t) (ev σ x))
  | .load t a => loadD (tiOf P t) bx (ev σ a)
  | .extract x i => atTup (ev σ x) i
  | .slice t x lo hi none => optV (optInt σ lo) (optInt σ hi) (sliceD (tiOf P t) (ev σ x))
  | .build t ps => buildD (tiOf P t) (ps.toList.map fun p => (p.1, ev σ p.2))
  | .buildSlice t n ps => buildSliceD (tiOf P) (tiOf P t) n (ps.toList.map fun p => (p.1, ev σ p.2))
  | .nilCheck x => nilD (ev σ x)
  | .makeInterface t x => mkIfc (tiOf P t) t (ev σ x)
  | .typeAssert x _ t ok => tassD (tiOf P t) t ok (ev σ x)
  | .makeFunc f first caps => if first.size = 0 then some (.fn f (caps.toList.map (ev σ))) else if caps.size = 0 then bfnD f (first.toList.map (ev σ)) else none
  | .convert s d x => convD (tiOf P) (tiOf P s) (tiOf P d) (ev σ x)
  | .call { callee := .builtin b, args, argTypes } => biD b (argTypes.toList.map (tiOf P)) (args.toList.map (ev σ))
  | _ => none


mutual
/-- no memory at all behind it -/
def D.bare : D → Bool
  | .agg ds | .tup ds | .fn _ ds | .bfn _ ds => D.bareL ds
  | .ifc _ d => d.bare
  | .loc .. | .osl .. | .omap .. | .sl .. | .cref .. | .undef | .glo => false
  | _ => true
def D.bareL : List D → Bool
  | [] => true
  | d :: ds => d.bare && D.bareL ds
end

mutual
/-- A datum with the contents of the activation's own variables in place of their places. -/
def outD (bx : Bxs) : D → Option D
  | .loc t e i j => if (bx t).ep = e ∧ lv (bx t).k then match (bx t).es[i]? with
      | some d => if d.pure then some (.cref d j) else some (.cref d.veil j)
      | none => none
    else none
  | .osl t e sz o n => if (bx t).ep = e ∧ lv (bx t).k ∧ (bx t).sz = sz ∧ o + n ≤ (bx t).es.length then
      (if D.pureL (((bx t).es.drop o).take n) then some (.sl sz (((bx t).es.drop o).take n)) else none) else none
  | .agg ds => (outL bx ds).map .agg
  | .tup ds => (outL bx ds).map .tup
  | .fn f ds => (outL bx ds).map (.fn f)
  | .bfn f ds => (outL bx ds).map (.bfn f)
  | .ifc t d => (outD bx d).map (.ifc t)
  | .omap .. => none
  | d => some d
def outL (bx : Bxs) : List D → Option (List D)
  | [] => some []
  | d :: ds => consO (outD bx d) (outL bx ds)
end

mutual
/-- The variables that a datum names are not written any more. -/
def frzD (bx : Bxs) : D → Bxs
  | .loc t _ _ _ | .osl t _ _ _ _ => upd bx t { bx t with k := if (bx t).k = 1 then 2 else (bx t).k }
  | .agg ds | .tup ds | .fn _ ds | .bfn _ ds => frzL bx ds
  | .ifc _ d => frzD bx d
  | _ => bx
def frzL (bx : Bxs) : List D → Bxs
  | [] => bx
  | d :: ds => frzL (frzD bx d) ds
end

/-- a variable's value -/
def boxD (ti : TI) (v : D) : Option D := if 0 < ti.size ∧ v.cells.length = ti.size ∧ v.cells.all D.one then some v else none

def put (σ : Env) (dst : Option Tmp) (v : D) : Env :=
  match dst with
  | some d => upd σ d v
  | none => σ

def bindD {α : Type} (x : Option α) (f : α → Prop) (_ : Tok f := ⟨⟩) : Prop :=
  match x with
  | some v => f v
  | none => False

/-- What a slice of some element size holds. -/
def elemsD (bx : Bxs) (esz : Nat) : D → Option (List D)
  | .nilsl => some []
  | .sl sz es => if sz = esz then some es else none
  | .osl t e sz o n => if sz = esz ∧ (bx t).ep = e ∧ lv (bx t).k ∧ (bx t).sz = sz ∧ o + n ≤ (bx t).es.length then some (((bx t).es.drop o).take n) else none
  | _ => none

def slO (x : D) (bx : Bxs) : Option (D × Bxs) := match x with
  | .nilsl => some (x, bx)
  | .osl .. => some (x, bx)
  | .sl .. => some (x, bx)
  | _ => none
def appO (lo d el esz bytes : Nat) (bx : Bxs) (t : Nat) (b : Bx) (e sz o n : Nat) (ys : List D) : Option (D × Bxs) :=
  if lo ≤ t ∧ sz = esz ∧ o = 0 ∧ b.ep = e ∧ b.k = 1 ∧ b.sz = sz ∧ b.ty = el ∧ n ≤ b.es.length ∧ (n + ys.length) * bytes ≤ 140737488355328 ∧ 0 < esz ∧ 0 < bytes then
    some (.osl d ((bx d).ep + 1) esz 0 (n + ys.length), upd (upd bx t { b with k := 0 }) d ⟨(bx d).ep + 1, 1, esz, el, b.es.take n ++ ys⟩) else none
def appX (lo d el esz bytes : Nat) (bx : Bxs) (x : D) (ys : List D) : Option (D × Bxs) := match x with
  | .nilsl => if ys.length * bytes ≤ 140737488355328 ∧ 0 < esz ∧ 0 < bytes then
      some (.osl d ((bx d).ep + 1) esz 0 ys.length, upd bx d ⟨(bx d).ep + 1, 1, esz, el, ys⟩) else none
  | .osl t e sz o n => appO lo d el esz bytes bx t (bx t) e sz o n ys
  | _ => none
/-- append: the new value, the new variables -/
def appendD (lo : Nat) (T : TypeId → TI) (ti : TI) (dst : Option Tmp) (bx : Bxs) (x : D) (ys : List D) : Option (D × Bxs) :=
  match ti.k, dst with
  | .slice el esz bytes _, some d => if ys = [] then slO x bx else if (T el).zero.length = esz then appX lo d el esz bytes bx x ys else none
  | _, _ => none

def appK (lo : Nat) (T : TypeId → TI) (ti : TI) (dst : Option Tmp) (bx : Bxs) (x y : D) : Option (D × Bxs) := match ti.k with
  | .slice _ esz _ _ => if esz = 0 then none else (elemsD bx esz y).bind fun ys => appendD lo T ti dst bx x ys
  | _ => none
def appD (lo : Nat) (T : TypeId → TI) (t t' : TypeId) (dst : Option Tmp) (bx : Bxs) (x y : D) : Option (D × Bxs) :=
  if t = t' then appK lo T (T t) dst bx x y else none
def appLD (lo : Nat) (T : TypeId → TI) (ts : List TypeId) (dst : Option Tmp) (bx : Bxs) (xs : List D) : Option (D × Bxs) := match ts, xs with
  | [t, t'], [x, y] => appD lo T t t' dst bx x y
  | _, _ => none

def bxSet (bx : Bxs) (t : Nat) (b : Bx) (e i j : Nat) (cs : List D) : Option Bxs := if b.ep = e ∧ b.k = 1 then
    match b.es[i]? with
    | some d0 => (setD d0 j cs).map fun d' => upd bx t { b with es := b.es.set i d' }
    | none => none
  else none

/-- A store: into a variable of the activation's own. -/
def storeD (lo : Nat) (ti : TI) (bx : Bxs) (a v : D) : Option Bxs :=
  match a with
  | .loc t e i j => if lo ≤ t ∧ v.cells.length = ti.size ∧ 0 < ti.size ∧ v.cells.all D.one then bxSet bx t (bx t) e i j v.cells else none
  | _ => none

/-- What a step reads and writes of the activation's own variables: nothing; one slot; any. -/
inductive Cl where
  | n
  | r (t : Nat)
  | w (t : Nat)
  | ra
  | wa
  | pan (d : D)

def Cl.rd : Cl → Nat → Bool
  | .n, _ => false
  | .r t, s | .w t, s => s == t
  | _, _ => true
def Cl.wr : Cl → Nat → Bool
  | .w t, s => s == t
  | .wa, _ | .pan _, _ => true
  | _, _ => false

def slotR : D → Cl
  | .loc t _ _ _ => .r t
  | _ => .n
def slotW : D → Cl
  | .loc t _ _ _ => .w t
  | _ => .wa

def apart : Cl → Cl → Prop
  | .n, _ | _, .n => True
  | .r _, .r _ | .ra, .r _ | .r _, .ra | .ra, .ra => True
  | .r s, .w t | .w s, .r t | .w s, .w t => s ≠ t
  | _, _ => False
def apartO : Option Cl → Option Cl → Prop
  | some a, some b => apart a b
  | _, _ => False
/-- Pairs of steps (counted from the region's end) touch nothing in common. -/
def chk : List (Nat × Nat) → List Cl → Prop
  | [], _ => True
  | (i, j) :: ps, acc => apartO acc[i]? acc[j]? ∧ chk ps acc
def lookT : List (Nat × List (Nat × Nat)) → Nat → List (Nat × Nat)
  | [], _ => []
  | (k, ps) :: r, id => if k = id then ps else lookT r id

/-- THE CONTRACTS OF THE CALLED FUNCTIONS, stated in XVk: on plain data; with the caller's variables at hand (from which slot on the callee may lay its own; what it comes to; what it panics with); of the functions that are ranged over (what they yield; how many slots they take). -/
structure Orac where
  to : FuncId → List D → D → Prop
  toB : FuncId → Nat → List D → Bxs → (D → Bxs → Prop) → (D → Bxs → Prop) → Prop
  it : FuncId → List D → List (List D) → Nat → Prop

/-- An activation's constants: the contracts; the pairs of steps of a region that come in no fixed order and might meet in a variable; its slots begin at base; whom it calls begins at nxt; it leaves the slots below lo alone; what it is to yield, if it is ranged over, and the slot that counts; whether it may panic; whether it may defer. -/
structure Calc where
  o : Orac
  tab : List (Nat × List (Nat × Nat))
  base : Nat
  nxt : Nat
  lo : Nat
  yl : Option (List (List D) × Nat × Nat)
  pn : Bool
  df : Bool

/-- Without steps of more than one end: for regions whose order is drawn. -/
def Calc.det (C : Calc) : Calc := ⟨⟨C.o.to, fun _ _ _ _ _ _ => False, fun _ _ _ _ => False⟩, C.tab, C.base, C.nxt, C.lo, none, false, false⟩

mutual
/-- no memory behind it, as it may stand in a map -/
def D.simple : D → Bool
  | .int .. | .bool _ | .str _ | .raw _ | .nilsl => true
  | .agg ds | .fn _ ds => D.simpleL ds
  | _ => false
def D.simpleL : List D → Bool
  | [] => true
  | d :: ds => d.simple && D.simpleL ds
end

/-- Are two keys the same? -/
def sameK : TK → D → D → Option Bool
  | .int _, .int k a, .int k' b => if k = k' then some (a == b) else none
  | .str, .str a, .str b => some (a == b)
  | .bool, .bool a, .bool b => some (a == b)
  | _, _, _ => none
/-- Is it a key of the type? -/
def keyOk : TK → D → Bool
  | .int j, .int k _ => decide (k = j)
  | .str, .str _ => true
  | .bool, .bool _ => true
  | _, _ => false
/-- where a key stands among a map's entries, and with what -/
def findM (tk : TK) (k : D) : List D → Nat → Option (Option (Nat × D))
  | [], _ => some none
  | .tup [k', v, _] :: es, i => match sameK tk k k' with
    | some true => some (some (i, v))
    | some false => findM tk k es (i + 1)
    | none => none
  | _, _ => none
def putE (k v : D) : D → D
  | .tup [_, _, b] => .tup [k, v, b]
  | d => d
/-- an entry laid into a map (its clock, its entries) -/
def updM (tk : TK) (k v : D) (c : Int) (es : List D) : Option (List D) := match findM tk k es 0 with
  | some (some (i, _)) => some (.int .i64 c :: es.modify i (putE k v))
  | some none => some (.int .i64 (c + 1) :: (es ++ [.tup [k, v, .int .i64 c]]))
  | none => none
def delM (tk : TK) (k : D) (c : Int) (es : List D) : Option (List D) := match findM tk k es 0 with
  | some (some (i, _)) => some (.int .i64 c :: es.eraseIdx i)
  | some none => some (.int .i64 c :: es)
  | none => none
/-- a map of the activation's own: its slot, its clock, its entries -/
def mapB1 (t : Nat) : List D → Option (Nat × Int × List D)
  | .int .i64 c :: es => some (t, c, es)
  | _ => none
def mapAt (bx : Bxs) : D → Option (Nat × Int × List D)
  | .omap t e => if (bx t).ep = e ∧ (bx t).k = 3 then mapB1 t (bx t).es else none
  | _ => none
/-- one's place in a map: its slot, the map, since when, at what clock the last step was, the stamps that were met -/
def iterB1 (t : Nat) : List D → Option (Nat × D × Int × Int × List D)
  | .omap m k :: .int .i64 s :: .int .i64 l :: seen => some (t, .omap m k, s, l, seen)
  | _ => none
def iterAt (bx : Bxs) : D → Option (Nat × D × Int × Int × List D)
  | .loc t e 0 0 => if (bx t).ep = e ∧ (bx t).k = 3 then iterB1 t (bx t).es else none
  | _ => none
def intOf : D → Int
  | .int _ n => n
  | _ => 0
def bornOf : D → Int
  | .tup [_, _, .int .i64 n] => n
  | _ => 0
/-- a type's zero value -/
def zeroV (P : Program) (t : TypeId) : Option D := ((P.info? t).bind (·.zero)).map ofV
def valO (Z : Option D) (ok : Bool) : Option (Option (Nat × D)) → Option D
  | some (some (_, v)) => some (if ok then .tup [v, .bool true] else v)
  | some none => Z.map fun z => if ok then .tup [z, .bool false] else z
  | none => none
/-- What a map holds for a key. -/
def lookO (P : Program) (T : TypeId → TI) (ti : TI) (bx : Bxs) (m k : D) (ok : Bool) : Option D := match ti.k with
  | .map kt et => if keyOk (T kt).k k = true then (mapAt bx m).bind fun r => valO (zeroV P et) ok (findM (T kt).k k r.2.2 0) else none
  | _ => none
def slotM : D → Cl
  | .omap t _ => .r t
  | _ => .n
def setM (bx : Bxs) (t : Nat) (es : List D) : Bxs := upd bx t { bx t with es := es }
def updO (T : TypeId → TI) (ti : TI) (bx : Bxs) (m k v : D) : Option Bxs := match ti.k with
  | .map kt _ => if keyOk (T kt).k k = true ∧ v.simple = true then (mapAt bx m).bind fun r => (updM (T kt).k k v r.2.1 r.2.2).map (setM bx r.1) else none
  | _ => none
def delO (T : TypeId → TI) (ti : TI) (bx : Bxs) (m k : D) : Option Bxs := match ti.k with
  | .map kt _ => if keyOk (T kt).k k = true then (mapAt bx m).bind fun r => (delM (T kt).k k r.2.1 r.2.2).map (setM bx r.1) else none
  | _ => none
def delLO (T : TypeId → TI) (ts : List TypeId) (bx : Bxs) (xs : List D) : Option Bxs := match ts, xs with
  | t :: _, [m, k] => delO T (T t) bx m k
  | _, _ => none
def lenO (bx : Bxs) (xs : List D) : Option D := match xs with
  | [m] => (mapAt bx m).map fun r => .int .i64 (r.2.2.length : Int)
  | _ => none
def rngO (ti : TI) (bx : Bxs) (x : D) : Option (List D) := match ti.k with
  | .map _ _ => (mapAt bx x).map fun r => [x, .int .i64 r.2.1, .int .i64 r.2.1]
  | _ => none
def entryO1 (seen : List D) (es : List D) : Option D := match seen.getLast? with
  | some s => match es.find? fun e => bornOf e == intOf s with
    | some (.tup [k, v, _]) => some (.tup [k, v])
    | _ => none
  | none => none
def entryO (bx : Bxs) (x : D) : Option D := (iterAt bx x).bind fun i => (mapAt bx i.2.1).bind fun r => if r.2.1 = i.2.2.2.1 then entryO1 i.2.2.2.2 r.2.2 else none
/-- what is left of a map's entries -/
def leftM (seen es : List D) : List D := es.filter fun e => !(seen.map intOf).contains (bornOf e)
/-- One step through a map: whichever entry of those that are left; it may be over where no old one is left. -/
def nextD (bx : Bxs) (x : D) (K : D → Bxs → Prop) (_ : Tok (K .undef bx) := ⟨⟩) : Prop := bindD (iterAt bx x) fun i => bindD (mapAt bx i.2.1) fun r =>
  (i.2.2.2.2 = [] ∨ r.2.2 = [] ∨ ∃ e ∈ r.2.2, bornOf e < i.2.2.2.1) ∧
  (∀ k v b, .tup [k, v, .int .i64 b] ∈ leftM i.2.2.2.2 r.2.2 → K (.tup [.bool true, k, v]) (setM bx i.1 (i.2.1 :: .int .i64 i.2.2.1 :: .int .i64 r.2.1 :: (i.2.2.2.2 ++ [.int .i64 b])))) ∧
  ((∀ e ∈ leftM i.2.2.2.2 r.2.2, i.2.2.1 ≤ bornOf e) → K (.tup [.bool false]) bx)

/-- The slots below n alone. -/
def cutB (n : Nat) (bx : Bxs) : Bxs := fun s => if s < n then bx s else .none
/-- The slots from lo up to hi out of bx, the others out of bx1. -/
def mixB (lo hi : Nat) (bx bx1 : Bxs) : Bxs := fun s => if lo ≤ s ∧ s < hi then bx s else bx1 s

/-- d says no more of a value than r does -/
inductive Weak : D → D → Prop where
  | refl (d : D) : Weak d d
  | nil (sz : Nat) : Weak .nilsl (.sl sz [])
  | tup {ds ds' : List D} (hl : ds.length = ds'.length) (h : ∀ (i : Nat) x x', ds[i]? = some x → ds'[i]? = some x' → Weak x x') : Weak (.tup ds) (.tup ds')
  | agg {ds ds' : List D} (hl : ds.length = ds'.length) (h : ∀ (i : Nat) x x', ds[i]? = some x → ds'[i]? = some x' → Weak x x') : Weak (.agg ds) (.agg ds')
  | sl {sz : Nat} {ds ds' : List D} (hl : ds.length = ds'.length) (hz : ∀ (i : Nat) x x', ds[i]? = some x → ds'[i]? = some x' → x.cells.length = x'.cells.length)
      (h : ∀ (i : Nat) x x' (j : Nat) c c', ds[i]? = some x → ds'[i]? = some x' → x.cells[j]? = some c → x'.cells[j]? = some c' → Weak c c') : Weak (.sl sz ds) (.sl sz ds')

/-- A call of a function. -/
def callD (C : Calc) (f : FuncId) (ds : List D) (bx : Bxs) (K : Cl → D → Bxs → Prop) (_ : Tok (K .n .undef bx) := ⟨⟩) : Prop :=
  (∃ d, D.pureL ds = true ∧ C.o.to f ds d ∧ K .n d bx) ∨
  (∃ ds' d, outL bx ds = some ds' ∧ C.o.to f ds' d ∧ d.bare = true ∧ K .ra d bx) ∨
  (∃ ds' d, C.lo = 0 ∧ outL bx ds = some ds' ∧ C.o.to f ds' d ∧ K .wa d (frzL bx ds)) ∨
  (∃ Post Pan, C.lo = 0 ∧ C.o.toB f C.nxt ds bx Post Pan ∧ (∀ d bx', Post d bx' → K .wa d bx' ∨ ∃ r r', outD bx' d = some r ∧ Weak r r' ∧ K .wa r' (frzL bx' [d])) ∧ ∀ d bx', Pan d bx' → K (.pan d) .undef bx')

/-- What is ranged over is handed one more of what it is to yield: the round turns what it will of the others' variables. -/
def yieldD (C : Calc) (l : Nat) (ds : List D) (bx : Bxs) (K : Cl → D → Bxs → Prop) (_ : Tok (K .n .undef bx) := ⟨⟩) : Prop := match C.yl with
  | some (items, gs, l') => (l' = l ∧ D.pureL ds = true ∧ items[(bx gs).sz]? = some ds) ∧ ∀ bx1 : Bxs,
      K .wa (.bool true) (upd (mixB C.lo C.nxt bx bx1) gs { bx gs with sz := (bx gs).sz + 1 }) ∧
      K .wa (.bool false) (upd (mixB C.lo C.nxt bx bx1) gs { bx gs with sz := items.length + 1 })
  | none => False

def callV (C : Calc) (d : D) (ds : List D) (bx : Bxs) (K : Cl → D → Bxs → Prop) (_ : Tok (K .n .undef bx) := ⟨⟩) : Prop := match d with
  | .fn (.func f) caps => callD C f (ds ++ caps) bx K
  | .fn (.yield l) [] => yieldD C l ds bx K
  | .bfn f fs => callD C f (fs ++ ds) bx K
  | _ => False

/-- The slot of the record of the deferred calls. -/
def dfS : Nat := 1000000000

/-- A panic with a value. -/
def panV (d : D) (f : D → Prop) (_ : Tok (f .undef) := ⟨⟩) : Prop := match d with
  | .ifc t v => f (.ifc t v)
  | _ => False

/-- One more deferred call. -/
def pushD : D → D → List D → D
  | .any l, fo, args => .any (.tup (fo :: args) :: l)
  | _, fo, args => .any [.tup (fo :: args)]

/-- A new slice: cells of an element, its type, the elements. -/
def mkslD (T : TypeId → TI) (ti : TI) (l c : D) : Option (Nat × TypeId × List D) := match ti.k, l, c with
  | .slice el esz bytes _, .int _ n, .int _ m => if 0 ≤ n ∧ n ≤ m ∧ m * bytes ≤ 140737488355328 ∧ 0 < esz ∧ 0 < bytes ∧ (T el).size = esz then (zeroD (T el)).map fun z => (esz, el, List.replicate n.toNat z) else none
  | _, _, _ => none

/-- A slice literal that is the activation's own variable: cells of an element, its type, the elements. -/
def litXD (T : TypeId → TI) (ti : TI) (len : Nat) (ps : List (Nat × D)) : Option (Nat × TypeId × List D) :=
  match ti.k with
  | .slice e esz _ _ => if ps.map (·.1) = List.range len ∧ ps.all (fun p => p.2.cells.length == esz && p.2.cells.all D.one) = true ∧ 0 < esz ∧ len * esz ≤ 65536 ∧ (T e).zero.length = esz then some (esz, e, ps.map (·.2)) else none
  | _ => none
/-- which slice literals are: named in the table, by the temporary -/
def litIn : List (Nat × List (Nat × Nat)) → Nat → Bool
  | [], _ => false
  | (k, _) :: r, d => if k = 1000000 + d then true else litIn r d
def litOwn (tab : List (Nat × List (Nat × Nat))) : Option Tmp → Bool
  | some d => litIn tab d
  | none => false

def slotO (b : Nat) : Option Tmp → Option Nat
  | some d => some (b + d)
  | none => none

/-- a step that works on a map -/
def TK.isMap : TK → Bool
  | .map .. => true
  | _ => false
def mapOp (P : Program) : Op → Bool
  | .makeMap .. | .mapUpdate .. | .range .. | .next .. | .entry .. => true
  | .call { callee := .builtin b, args := _, argTypes } => match b with
    | .delete => true
    | .len => match argTypes.toList with
      | [T] => (tiOf P T).k.isMap
      | _ => false
    | _ => false
  | _ => false
def mapS (P : Program) (C : Calc) (dst : Option Tmp) (op : Op) (σ : Env) (bx : Bxs) (K : Cl → Env → Bxs → Prop) : Prop := match op with
  | .makeMap T none => match dst with
    | some d => K .wa (upd σ d (.omap (C.base + d) ((bx (C.base + d)).ep + 1))) (upd bx (C.base + d) ⟨(bx (C.base + d)).ep + 1, 3, 0, T, [.int .i64 0]⟩)
    | none => False
  | .mapUpdate T m k v => bindD (updO (tiOf P) (tiOf P T) bx (ev σ m) (ev σ k) (ev σ v)) fun bx' => K .wa (put σ dst (.raw undef)) bx'
  | .range T x => match dst with
    | some d => bindD (rngO (tiOf P T) bx (ev σ x)) fun es => K .wa (upd σ d (.loc (C.base + d) ((bx (C.base + d)).ep + 1) 0 0)) (upd bx (C.base + d) ⟨(bx (C.base + d)).ep + 1, 3, 0, 0, es⟩)
    | none => False
  | .next it false => nextD bx (ev σ it) fun v bx' => K .wa (put σ dst v) bx'
  | .entry it => bindD (entryO bx (ev σ it)) fun v => K .wa (put σ dst v) bx
  | .call { callee := .builtin b, args, argTypes } => match b with
    | .delete => bindD (delLO (tiOf P) argTypes.toList bx (args.toList.map (ev σ))) fun bx' => K .wa (put σ dst (.raw (.tuple #[]))) bx'
    | .len => bindD (lenO bx (args.toList.map (ev σ))) fun v => K .wa (put σ dst v) bx
    | _ => False
  | _ => False

/-- append onto a slice that may begin behind its variable's beginning: what it comes to in a new place, and in place. -/
def appQ (lo d el esz bytes : Nat) (bx : Bxs) (x : D) (ys : List D) : Option ((D × Bxs) × (D × Bxs)) := match x with
  | .osl t e sz o n => if lo ≤ t ∧ sz = esz ∧ (bx t).ep = e ∧ (bx t).k = 1 ∧ (bx t).sz = sz ∧ (bx t).ty = el ∧ o + n ≤ (bx t).es.length ∧ (n + ys.length) * bytes ≤ 140737488355328 ∧ 0 < esz ∧ 0 < bytes then
      some ((.osl d ((bx d).ep + 1) esz 0 (n + ys.length), upd (upd bx t { bx t with k := 0 }) d ⟨(bx d).ep + 1, 1, esz, el, ((bx t).es.drop o).take n ++ ys⟩),
        (.osl d ((bx d).ep + 1) esz o (n + ys.length), upd (upd bx t { bx t with k := 0 }) d ⟨(bx d).ep + 1, 1, esz, el, (bx t).es.take (o + n) ++ ys⟩)) else none
  | _ => none
def appQK (lo : Nat) (T : TypeId → TI) (ti : TI) (dst : Option Tmp) (bx : Bxs) (x y : D) : Option ((D × Bxs) × (D × Bxs)) := match ti.k, dst with
  | .slice el esz bytes _, some d => if (T el).zero.length = esz then (elemsD bx esz y).bind fun ys => if ys = [] then none else appQ lo d el esz bytes bx x ys else none
  | _, _ => none
def appQL (lo : Nat) (T : TypeId → TI) (ts : List TypeId) (dst : Option Tmp) (bx : Bxs) (xs : List D) : Option ((D × Bxs) × (D × Bxs)) := match ts, xs with
  | [t, t'], [x, y] => if t = t' then appQK lo T (T t) dst bx x y else none
  | _, _ => none
/-- The appends that are taken so are named in the table. -/
def appIn (tab : List (Nat × List (Nat × Nat))) : Option Tmp → Bool
  | some d => litIn tab (2000000 + d)
  | none => false

/-- A step that looks and yields; or a slice literal that is the activation's own. -/
def stepE (P : Program) (C : Calc) (dst : Option Tmp) (op : Op) (σ : Env) (bx : Bxs) (K : Cl → Env → Bxs → Prop) : Prop := match op with
  | .buildSlice T n ps => if litOwn C.tab dst = true then (match dst with
    | some d => bindD (litXD (tiOf P) (tiOf P T) n (ps.toList.map fun p => (p.1, ev σ p.2))) fun r => K (.w (C.base + d)) (upd σ d (.osl (C.base + d) ((bx (C.base + d)).ep + 1) r.1 0 r.2.2.length)) (upd bx (C.base + d) ⟨(bx (C.base + d)).ep + 1, 1, r.1, r.2.1, r.2.2⟩)
    | none => False) else bindD (valD P σ bx (.buildSlice T n ps)) fun v => K .n (put σ dst v) bx
  | .lookup T m k ok => bindD (lookO P (tiOf P) (tiOf P T) bx (ev σ m) (ev σ k) ok) fun v => bindD (some (slotM (ev σ m))) fun c => K c (put σ dst v) bx
  | op => if mapOp P op = true then C.pn = true ∧ C.lo = 0 ∧ mapS P C dst op σ bx K else bindD (valD P σ bx op) fun v => K .n (put σ dst v) bx

def stepD (P : Program) (C : Calc) (o : Oper) (σ : Env) (bx : Bxs) (K : Cl → Env → Bxs → Prop) : Prop :=
  match o.op with
  | .alloc T => match o.dst with
    | some d => bindD (zeroD (tiOf P T)) fun z => bindD (some (tiOf P T).size) fun s => K (.w (C.base + d)) (upd σ d (.loc (C.base + d) ((bx (C.base + d)).ep + 1) 0 0)) (upd bx (C.base + d) ⟨(bx (C.base + d)).ep + 1, 1, s, T, [z]⟩)
    | none => False
  | .box T x => match o.dst with
    | some d => bindD (boxD (tiOf P T) (ev σ x)) fun v => bindD (some (tiOf P T).size) fun s => K (.w (C.base + d)) (upd σ d (.loc (C.base + d) ((bx (C.base + d)).ep + 1) 0 0)) (upd bx (C.base + d) ⟨(bx (C.base + d)).ep + 1, 1, s, T, [v]⟩)
    | none => False
  | .store T a x => bindD (storeD C.lo (tiOf P T) bx (ev σ a) (ev σ x)) fun bx' => bindD (some (slotW (ev σ a))) fun c => K c (put σ o.dst (.raw undef)) bx'
  | .load T a => bindD (loadD (tiOf P T) bx (ev σ a)) fun v => bindD (some (slotR (ev σ a))) fun c => K c (put σ o.dst v) bx
  | .call { callee := .builtin .append, args, argTypes } => if appIn C.tab o.dst = true then (C.pn = true ∧ bindD (appQL C.lo (tiOf P) argTypes.toList (slotO C.base o.dst) bx (args.toList.map (ev σ))) fun r => K .wa (put σ o.dst r.1.1) r.1.2 ∧ K .wa (put σ o.dst r.2.1) r.2.2) else
    bindD (appLD C.lo (tiOf P) argTypes.toList (slotO C.base o.dst) bx (args.toList.map (ev σ))) fun r => K .wa (put σ o.dst r.1) r.2
  | .call { callee := .value fo, args, argTypes := _ } => callV C (ev σ fo) (args.toList.map (ev σ)) bx fun c d bx' => K c (put σ o.dst d) bx'
  | .panic x => C.pn = true ∧ panV (ev σ x) fun d => K (.pan d) σ bx
  | .defer { callee := .value fo, args, argTypes := _ } => C.df = true ∧ (match ev σ fo with | .fn (.func f) caps => K .n (put (upd σ dfS (pushD (σ dfS) (.fn (.func f) caps) (args.toList.map (ev σ)))) o.dst (.raw undef)) bx | _ => False)
  | .makeSlice T l c => match o.dst with
    | some d => bindD (mkslD (tiOf P) (tiOf P T) (ev σ l) (ev σ c)) fun r => K (.w (C.base + d)) (upd σ d (.osl (C.base + d) ((bx (C.base + d)).ep + 1) r.1 0 r.2.2.length)) (upd bx (C.base + d) ⟨(bx (C.base + d)).ep + 1, 1, r.1, r.2.1, r.2.2⟩)
    | none => False
  | op => stepE P C o.dst op σ bx K

/-- A panic ends the region. -/
def contC (c : Cl) (x y : Prop) (_ : Tok (x ∧ y) := ⟨⟩) : Prop := match c with
  | .pan _ => x
  | _ => y

def opsR (P : Program) (C : Calc) (full : List Oper) : List Oper → List Cl → Env → Bxs → (List Cl → Env → Bxs → Prop) → Prop
  | [], acc, σ, bx, K => K acc σ bx
  | o :: rest, acc, σ, bx, K =>
    match o.guard with
    | none => stepD P C o σ bx fun c σ' bx' => contC c (K (c :: acc) σ' bx') (opsR P C full rest (c :: acc) σ' bx' K)
    | some (j, want) => bindD (guardO full[j]? σ) fun g =>
      gK g want (stepD P C o σ bx fun c σ' bx' => contC c (K (c :: acc) σ' bx') (opsR P C full rest (c :: acc) σ' bx' K))
        (opsR P C full rest (.n :: acc) (put σ o.dst (.raw undef)) bx K)

def opsD (P : Program) (C : Calc) (full l : List Oper) (acc : List Cl) (σ : Env) (bx : Bxs) (K : List Cl → Env → Bxs → Prop) (_ : Tok (full, l) := ⟨⟩) (_ : Tok (K acc σ bx) := ⟨⟩) : Prop := opsR P C full l acc σ bx K

/-- Which of two operations of a region come in a fixed order. -/
def ordered (b : Array Nat) (i j : Nat) : Bool := (b.getD (max i j) 0).testBit (min i j)

/-- An operation's temporaries: written, looked at. -/
def tmpsOf (full : List Oper) (o : Oper) : List Tmp :=
  o.dst.toList ++ o.looksAt full.toArray

/-- The class of an operation at its worst. -/
def wcls : Op → Nat
  | .load .. | .lookup .. => 1
  | .alloc .. | .box .. | .store .. | .makeSlice .. | .buildSlice .. => 2
  | .call { callee := .builtin .append, .. } => 2
  | .call { callee := .value _, .. } => 2
  | _ => 0

/-- WHATEVER ORDER A REGION DRAWS, IT COMES TO ONE END: a temporary's writer is ordered with whoever names it; whoever writes a variable is ordered with whoever reads or writes one, or the two are looked at (counted from the end). -/
def commOk (full : List Oper) (ps : List (Nat × Nat)) : Bool :=
  let b := Region.before full.toArray
  full.zipIdx.all fun (o, j) => o.after.toList.all (fun e => !Region.binds .any e || decide (e.on < j)) &&
    full.zipIdx.all fun (o', i) => i == j || ordered b i j ||
      ((match o'.dst with | some d => !(tmpsOf full o).contains d | none => true) &&
       (match o.dst with | some d => !(tmpsOf full o').contains d | none => true) &&
       (!(wcls o.op == 2 && wcls o'.op != 0) || ps.contains (full.length - 1 - j, full.length - 1 - i) || ps.contains (full.length - 1 - i, full.length - 1 - j)))

/-! REGIONS WHOSE ORDER IS DRAWN, taken step by step in every order that matters: steps that only look come first, of the others each that may come next. -/
inductive Sch where
  | fin
  | stop
  | light (i : Nat) (n : Sch)
  | load (i s : Nat) (n : Sch)
  | both (i : Nat) (keep : List Nat) (a r : Sch)

def lightOp (o : Oper) : Bool := match o.op with
  | .move .. | .assign .. | .pick .. | .binOp .. | .unOp .. | .fieldAddr .. | .field .. | .indexAddr .. | .index .. | .extract .. | .slice .. | .build .. | .nilCheck .. | .makeInterface .. | .typeAssert .. | .makeFunc .. | .convert .. => true
  | _ => false
def loadOp (o : Oper) : Bool := match o.op with
  | .load .. => true
  | _ => false

def rdy (full : List Oper) (L : Nat → Bool) (i : Nat) : Bool := !L i && match full[i]? with
  | some o => o.after.toList.all fun e => !Region.binds .any e || L e.on
  | none => false

def addN (L : Nat → Bool) (i : Nat) : Nat → Bool := fun k => k == i || L k

def okS (full : List Oper) : (Nat → Bool) → List (Nat × Nat) → List Nat → Sch → Bool
  | L, _, cov, .fin => cov.isEmpty && (List.range full.length).all fun j => !rdy full L j
  | L, _, cov, .stop => !cov.isEmpty && (List.range full.length).all fun j => !rdy full L j || cov.contains j
  | L, F, cov, .light i n => cov.isEmpty && rdy full L i && (match full[i]? with | some o => lightOp o | none => false) && okS full (addN L i) F [] n
  | L, F, cov, .load i s n => cov.isEmpty && rdy full L i && (match full[i]? with | some o => loadOp o | none => false) && okS full (addN L i) ((i, s) :: F) [] n
  | L, F, cov, .both i keep a r => rdy full L i && (F.all fun p => ordered (Region.before full.toArray) p.1 i || keep.contains p.2) && okS full (addN L i) F [] a && okS full L F (i :: cov) r

/-- No operation hangs on a guard; a temporary's writer is ordered with whoever names it. -/
def tmpOk (full : List Oper) : Bool :=
  let b := Region.before full.toArray
  full.zipIdx.all fun (o, j) => o.guard.isNone && o.after.toList.all (fun e => !Region.binds .any e || decide (e.on < j)) &&
    full.zipIdx.all fun (o', i) => i == j || ordered b i j ||
      ((match o'.dst with | some d => !(tmpsOf full o).contains d | none => true) &&
       (match o.dst with | some d => !(tmpsOf full o').contains d | none => true))

def okT (full : List Oper) (t : Sch) : Bool := tmpOk full && okS full (fun _ => false) [] [] t

def atOp (x : Option Oper) (f : Oper → Prop) (_ : Tok f := ⟨⟩) : Prop := match x with
  | some o => f o
  | none => False
def keepD (base : Nat) (bx bx' : Bxs) : List Nat → Prop
  | [] => True
  | s :: l => bx' (base + s) = bx (base + s) ∧ keepD base bx bx' l
def panQ (Pn : D → Bxs → Prop) (c : Cl) (bx : Bxs) (_ : Tok (Pn .undef bx) := ⟨⟩) : Prop := match c with
  | .pan d => Pn d bx
  | _ => False
def isR (c : Cl) (t : Nat) : Prop := c = .n ∨ c = .r t
def loadS (P : Program) (base s : Nat) (o : Oper) (σ : Env) (bx : Bxs) (f : Env → Prop) (_ : Tok (f σ) := ⟨⟩) : Prop := match o.op with
  | .load T a => isR (slotR (ev σ a)) (base + s) ∧ bindD (loadD (tiOf P T) bx (ev σ a)) fun v => f (put σ o.dst v)
  | _ => False

def schR (P : Program) (C : Calc) (full : List Oper) (Pn : D → Bxs → Prop) (Q : Env → Bxs → Prop) : Sch → Env → Bxs → Prop
  | .fin, σ, bx => Q σ bx
  | .stop, _, _ => True
  | .light i n, σ, bx => atOp full[i]? fun o => bindD (valD P σ bx o.op) fun v => schR P C full Pn Q n (put σ o.dst v) bx
  | .load i s n, σ, bx => atOp full[i]? fun o => loadS P C.base s o σ bx fun σ' => schR P C full Pn Q n σ' bx
  | .both i keep a r, σ, bx => (atOp full[i]? fun o => stepD P C o σ bx fun c σ' bx' => contC c (panQ Pn c bx') (keepD C.base bx bx' keep ∧ schR P C full Pn Q a σ' bx')) ∧ schR P C full Pn Q r σ bx

def schD (P : Program) (C : Calc) (full : List Oper) (t : Sch) (Pn : D → Bxs → Prop) (Q : Env → Bxs → Prop) (σ : Env) (bx : Bxs) (_ : Tok full := ⟨⟩) (_ : Tok (Q σ bx) := ⟨⟩) : Prop := schR P C full Pn Q t σ bx

/-- some schedule that takes in every order -/
def drawD (P : Program) (C : Calc) (full : List Oper) (Pn : D → Bxs → Prop) (Q : Env → Bxs → Prop) (σ : Env) (bx : Bxs) (_ : Tok full := ⟨⟩) (_ : Tok (Q σ bx) := ⟨⟩) : Prop := ∃ t, okT full t = true ∧ schD P ⟨C.o, C.tab, C.base, C.nxt, C.lo, none, false, false⟩ full t Pn Q σ bx

/-- The regions that are taken so are named in the table. -/
def drawIn (tab : List (Nat × List (Nat × Nat))) (id : Nat) : Bool := litIn tab (1000000 + id)

/-- Every temporary that is written exists; no region's order matters. -/
def codeOk1 (tab : List (Nat × List (Nat × Nat))) (N : Nat) : Code → Bool
  | .region id ops draw => ops.toList.all (fun o => match o.dst with | some d => decide (d < N) | none => true) && (!draw || drawIn tab id || commOk ops.toList (lookT tab id))
  | .seq a b => codeOk1 tab N a && codeOk1 tab N b
  | .cond _ x y => codeOk1 tab N x && codeOk1 tab N y
  | .block _ c => codeOk1 tab N c
  | .loop c => codeOk1 tab N c
  | .scope c => codeOk1 tab N c
  | .rangeFunc _ ps a b => ps.toList.all (fun t => decide (t < N)) && codeOk1 tab N a && codeOk1 tab N b
  | _ => true

/-- How a piece of code is left. -/
inductive DX where
  | normal
  | exit (id : Nat)
  | goto (l : Nat)
  | ret
  | pan (d : D)

/-- behind a region -/
def regQ (Q : DX → Env → Bxs → Prop) (acc : List Cl) (σ : Env) (bx : Bxs) : Prop := match acc with
  | .pan d :: _ => Q (.pan d) σ bx
  | _ => Q .normal σ bx

def codeOk (tab : List (Nat × List (Nat × Nat))) (N : Nat) (c : Code) : Bool := decide (N ≤ 1000000000) && codeOk1 tab N c

def thenQ (K : Env → Bxs → Prop) (Q : DX → Env → Bxs → Prop) : DX → Env → Bxs → Prop
  | .normal, σ, bx => K σ bx
  | e, σ, bx => Q e σ bx

def blockQ (id : Nat) (Q : DX → Env → Bxs → Prop) : DX → Env → Bxs → Prop
  | .exit id', σ, bx => if id' = id then Q .normal σ bx else Q (.exit id') σ bx
  | e, σ, bx => Q e σ bx

/-- No jump to a label leaves a scope. -/
def scopeQ (Q : DX → Env → Bxs → Prop) : DX → Env → Bxs → Prop
  | .goto _, _, _ => False
  | e, σ, bx => Q e σ bx

/-- What is ranged over. -/
def rangeD (C : Calc) (d : D) (K : List (List D) → Nat → Prop) : Prop := ∃ f caps items ext, d = .fn (.func f) caps ∧ D.pureL caps = true ∧ C.o.it f caps items ext ∧ K items ext

def bindPs (σ : Env) : List Tmp → List D → Env
  | t :: ts, d :: ds => bindPs (upd σ t d) ts ds
  | _, _ => σ

/-- The end of a round. -/
def roundQ (nxt ext : Nat) (J : Nat → Bxs → Prop) (n : Nat) (Q : DX → Env → Bxs → Prop) (σ : Env) (bx1 : Bxs) : DX → Env → Bxs → Prop := fun e _ bx' =>
  (∀ s, nxt ≤ s → s < nxt + ext → bx' s = bx1 s) ∧ match e with
    | .normal => J (n + 1) (cutB nxt bx')
    | .ret => ∀ bx2, cutB nxt bx2 = cutB nxt bx' → Q .ret σ bx2
    | .exit id => ∀ bx2, cutB nxt bx2 = cutB nxt bx' → Q (.exit id) σ bx2
    | _ => False

def noQ : DX → Env → Bxs → Prop := fun _ _ _ => False

/-- What lies in the s-th variable is looked at as plain data: the variables that it names are written no more. -/
def melt (bx : Bxs) (s : Nat) (es : List D) : Bxs := upd (frzL bx (bx s).es) s { frzL bx (bx s).es s with es := es }
/-- At the beginning of a round. -/
def Melt (C : Calc) (bx bx' : Bxs) : Prop := bx' = bx ∨ (C.lo = 0 ∧ ∃ s es, (bx s).k = 1 ∧ outL bx (bx s).es = some es ∧ bx' = melt bx s es)

set_option linter.unusedVariables false in
def cR (P : Program) : Calc → Code → (DX → Env → Bxs → Prop) → Env → Bxs → Prop
  | C, .skip, Q, σ, bx => Q .normal σ bx
  | C, .region _ ops false, Q, σ, bx => opsD P C ops.toList ops.toList [] σ bx fun acc σ' bx' => regQ Q acc σ' bx'
  | C, .region id ops true, Q, σ, bx => if drawIn C.tab id = true then drawD P C ops.toList (fun d bx => ∀ σ, Q (.pan d) σ bx) (Q .normal) σ bx else opsD P C.det ops.toList ops.toList [] σ bx fun acc σ' bx' => chk (lookT C.tab id) acc ∧ Q .normal σ' bx'
  | C, .seq a b, Q, σ, bx => cR P C a (thenQ (cR P C b Q) Q) σ bx
  | C, .cond c x y, Q, σ, bx => condC (ev σ c) (cR P C x Q σ bx) (cR P C y Q σ bx)
  | C, .block id c, Q, σ, bx => cR P C c (blockQ id Q) σ bx
  | C, .loop c, Q, σ, bx => ∃ (I : Env → Bxs → Prop) (μ : Env → Bxs → Nat), I σ bx ∧ ∀ σ bx, I σ bx → ∃ bx0, Melt C bx bx0 ∧ cR P C c (thenQ (fun σ' bx' => I σ' bx' ∧ μ σ' bx' < μ σ bx) Q) σ bx0
  | C, .scope c, Q, σ, bx => cR P C c (scopeQ Q) σ bx
  | C, .exit id, Q, σ, bx => Q (.exit id) σ bx
  | C, .ret, Q, σ, bx => Q .ret σ bx
  | C, .label _, Q, σ, bx => Q .normal σ bx
  | C, .rangeFunc g ps assign body, Q, σ, bx => C.lo = 0 ∧ C.yl = none ∧ rangeD C (ev σ g) fun items ext => ∃ J : Nat → Bxs → Prop, J 0 (cutB C.nxt bx) ∧
      (∀ n it bx1, items[n]? = some it → J n (cutB C.nxt bx1) → it.length = ps.size ∧
        cR P ⟨C.o, C.tab, C.base, C.nxt + ext, C.lo, C.yl, false, false⟩ assign (thenQ (cR P ⟨C.o, C.tab, C.base, C.nxt + ext, C.lo, C.yl, false, false⟩ body (roundQ C.nxt ext J n Q σ bx1)) noQ) (bindPs σ ps.toList it) bx1) ∧
      ∀ bx1, J items.length (cutB C.nxt bx1) → Q .normal σ bx1
  | _, _, _, _, _ => False

def cD (P : Program) (C : Calc) (c : Code) (Q : DX → Env → Bxs → Prop) (σ : Env) (bx : Bxs) (_ : Tok c := ⟨⟩) (_ : Tok (Q .normal σ bx) := ⟨⟩) : Prop := cR P C c Q σ bx

/-- What the results hold. -/
def resD (P : Program) (σ : Env) (bx : Bxs) : ResultVar → Option D
  | .tmp t => some (σ t)
  | .cell a T => loadD (tiOf P T) bx (σ a)

def resL (P : Program) (σ : Env) (bx : Bxs) : List ResultVar → Option (List D)
  | [] => some []
  | r :: rs => consO (resD P σ bx r) (resL P σ bx rs)

def tupD : List D → D
  | [d] => d
  | ds => .tup ds

def retQ (P : Program) (rv : List ResultVar) (d : D) : DX → Env → Bxs → Prop
  | .normal, σ, bx | .ret, σ, bx => bindD (resL P σ bx rv) fun rs => bindD (outD bx (tupD rs)) fun r => Weak r d
  | _, _, _ => False

def argsF : Nat → List D → Env
  | _, [] => fun _ => .raw undef
  | n, d :: ds => upd (argsF (n + 1) ds) n d

/-- The function's text, called with data, comes to a datum. -/
def fnD (P : Program) (O : Orac) (tab : List (Nat × List (Nat × Nat))) (fn : Func) (ds : List D) (d : D) : Prop :=
  ∃ c, fn.body = some c ∧ codeOk tab fn.ntmps c = true ∧ cD P ⟨O, tab, 0, fn.ntmps, 0, none, false, false⟩ c (retQ P fn.results.toList d) (argsF 0 ds) (fun _ => .none)

def retB (P : Program) (rv : List ResultVar) (Post Pan : D → Bxs → Prop) : DX → Env → Bxs → Prop
  | .normal, σ, bx | .ret, σ, bx => bindD (resL P σ bx rv) fun rs => Post (tupD rs) bx
  | .pan d, _, bx => Pan d bx
  | _, _, _ => False

/-- The same where it has its caller's variables at hand. -/
def fnB (P : Program) (O : Orac) (tab : List (Nat × List (Nat × Nat))) (fn : Func) (base : Nat) (ds : List D) (bx : Bxs) (Post Pan : D → Bxs → Prop) : Prop :=
  ∃ c, fn.body = some c ∧ codeOk tab fn.ntmps c = true ∧ cD P ⟨O, tab, base, base + fn.ntmps, 0, none, true, false⟩ c (retB P fn.results.toList Post Pan) (argsF 0 ds) bx

def retI (gs n : Nat) : DX → Env → Bxs → Prop
  | .normal, _, bx | .ret, _, bx => n ≤ (bx gs).sz
  | _, _, _ => False

/-- A function that is ranged over yields the items, one after the other, as long as it is asked for more. -/
def fnI (P : Program) (O : Orac) (tab : List (Nat × List (Nat × Nat))) (fn : Func) (caps : List D) (items : List (List D)) : Prop :=
  ∃ c, fn.body = some c ∧ codeOk tab fn.ntmps c = true ∧ fn.results.toList = [] ∧ ∀ (gs l : Nat) (bx : Bxs), (bx gs).k = 0 → (bx gs).sz = 0 →
    cD P ⟨O, tab, gs + 1, gs + 1 + fn.ntmps, gs + 1, some (items, gs, l), false, false⟩ c (retI gs items.length) (argsF 0 (.fn (.yield l) [] :: caps)) bx

end Go.V

namespace Go.V
open Go.RowKit

theorem ite_and2 {α : Type} (p q : Prop) [Decidable p] [Decidable q] (x y : α) : (if p ∧ q then x else y) = if p then (if q then x else y) else y := by
  by_cases hp : p <;> by_cases hq : q <;> simp [hp, hq]

variable {P : Program} {C : Calc} {Q : DX → Env → Bxs → Prop} {σ : Env} {bx : Bxs}

set_option linter.unusedSimpArgs false
attribute [go_sem] Nat.le_add_right Bool.false_eq_true eq_self decide_true decide_false Nat.zero_le Nat.le_refl upd_same List.take_succ_cons List.take_zero List.drop_succ_cons List.drop_zero List.getElem?_cons_zero List.getElem?_cons_succ List.length_cons List.length_nil Option.map_some Option.map_none Option.bind_some List.length_map List.getElem?_map Int.toNat_natCast List.map_cons List.map_nil List.cons_append List.nil_append List.append_nil Nat.zero_add Nat.add_zero List.set_cons_zero List.set_cons_succ Bool.not_not Bool.not_true Bool.not_false Int.natCast_zero

@[go_sem] theorem upd_ap {α : Type} (σ : Nat → α) (t : Nat) (v : α) (x : Nat) : upd σ t v x = if x = t then v else σ x := Eq.trans rfl rfl

@[go_sem] theorem bindD_some {α : Type} (v : α) (f : α → Prop) : bindD (some v) f = f v := Eq.trans rfl rfl
@[go_sem] theorem bindD_none {α : Type} (f : α → Prop) : bindD none f = False := Eq.trans rfl rfl

@[go_sem] theorem condD_true (x y : Prop) : condD true x y = x := by simp [condD]
@[go_sem] theorem condD_false (x y : Prop) : condD false x y = y := by simp [condD]
@[go_sem] theorem condD_not (b : Bool) (x y : Prop) : condD (!b) x y = condD b y x := by cases b <;> simp [condD]
theorem condD_split {b : Bool} {x y : Prop} (h1 : b = true → x) (h2 : b = false → y) : condD b x y := by
  cases b
  · exact h2 rfl
  · exact h1 rfl


/-! Code -/
@[go_sem ↓] theorem cD_skip : cD P C .skip Q σ bx = Q .normal σ bx := Eq.trans rfl rfl
@[go_sem ↓] theorem cD_region_f (id : Nat) (l : List Oper) : cD P C (.region id l.toArray false) Q σ bx = opsD P C l l [] σ bx fun acc σ' bx' => regQ Q acc σ' bx' := by
  simp [cD, cR, opsD]
@[go_sem ↓] theorem cD_region_t (id : Nat) (l : List Oper) : cD P C (.region id l.toArray true) Q σ bx = if drawIn C.tab id = true then drawD P C l (fun d bx => ∀ σ, Q (.pan d) σ bx) (fun σ bx => Q .normal σ bx) σ bx else opsD P C.det l l [] σ bx fun acc σ' bx' => chk (lookT C.tab id) acc ∧ Q .normal σ' bx' := by
  simp [cD, cR, opsD]
@[go_sem] theorem drawIn_lit (tab : List (Nat × List (Nat × Nat))) (id : Nat) : drawIn tab id = litIn tab (1000000 + id) := Eq.trans rfl rfl
theorem draw_by {full : List Oper} {Pn : D → Bxs → Prop} {Q : Env → Bxs → Prop} (t : Sch) (h : okT full t = true) (hs : schD P ⟨C.o, C.tab, C.base, C.nxt, C.lo, none, false, false⟩ full t Pn Q σ bx) : drawD P C full Pn Q σ bx := ⟨t, h, hs⟩
@[go_sem ↓] theorem schD_fin {full : List Oper} {Pn : D → Bxs → Prop} {Q : Env → Bxs → Prop} : schD P C full .fin Pn Q σ bx = Q σ bx := Eq.trans rfl rfl
@[go_sem ↓] theorem schD_stop {full : List Oper} {Pn : D → Bxs → Prop} {Q : Env → Bxs → Prop} : schD P C full .stop Pn Q σ bx = True := Eq.trans rfl rfl
@[go_sem ↓] theorem schD_light {full : List Oper} {Pn : D → Bxs → Prop} {Q : Env → Bxs → Prop} (i : Nat) (n : Sch) : schD P C full (.light i n) Pn Q σ bx = atOp full[i]? fun o => bindD (valD P σ bx o.op) fun v => schD P C full n Pn Q (put σ o.dst v) bx := Eq.trans rfl rfl
@[go_sem ↓] theorem schD_load {full : List Oper} {Pn : D → Bxs → Prop} {Q : Env → Bxs → Prop} (i s : Nat) (n : Sch) : schD P C full (.load i s n) Pn Q σ bx = atOp full[i]? fun o => loadS P C.base s o σ bx fun σ' => schD P C full n Pn Q σ' bx := Eq.trans rfl rfl
@[go_sem ↓] theorem schD_both {full : List Oper} {Pn : D → Bxs → Prop} {Q : Env → Bxs → Prop} (i : Nat) (keep : List Nat) (a r : Sch) : schD P C full (.both i keep a r) Pn Q σ bx = ((atOp full[i]? fun o => stepD P C o σ bx fun c σ' bx' => contC c (panQ Pn c bx') (keepD C.base bx bx' keep ∧ schD P C full a Pn Q σ' bx')) ∧ schD P C full r Pn Q σ bx) := Eq.trans rfl rfl
@[go_sem] theorem atOp_some (o : Oper) (f : Oper → Prop) : atOp (some o) f = f o := Eq.trans rfl rfl
@[go_sem] theorem keepD_nil (b : Nat) (bx bx' : Bxs) : keepD b bx bx' [] = True := Eq.trans rfl rfl
@[go_sem] theorem keepD_cons (b s : Nat) (bx bx' : Bxs) (l : List Nat) : keepD b bx bx' (s :: l) = (bx' (b + s) = bx (b + s) ∧ keepD b bx bx' l) := Eq.trans rfl rfl
@[go_sem] theorem panQ_pan (Pn : D → Bxs → Prop) (d : D) (bx : Bxs) : panQ Pn (.pan d) bx = Pn d bx := Eq.trans rfl rfl
@[go_sem] theorem isR_n (t : Nat) : isR .n t = True := by simp [isR]
@[go_sem] theorem isR_r (s t : Nat) : isR (.r s) t = (s = t) := by simp [isR]
@[go_sem] theorem isR_loc (s e i j t : Nat) : isR (slotR (.loc s e i j)) t = (s = t) := by simp [isR, slotR]
@[go_sem] theorem isR_cref (d : D) (j t : Nat) : isR (slotR (.cref d j)) t = True := by simp [isR, slotR]
@[go_sem ↓] theorem loadS_eq {dst : Option Tmp} {T : TypeId} {a : Operand} {ty pos af g} (base s : Nat) (f : Env → Prop) : loadS P base s ⟨dst, .load T a, ty, pos, af, g⟩ σ bx f = (isR (slotR (ev σ a)) (base + s) ∧ bindD (loadD (tiOf P T) bx (ev σ a)) fun v => f (put σ dst v)) := Eq.trans rfl rfl
@[go_sem ↓] theorem cD_seq (a b : Code) : cD P C (.seq a b) Q σ bx = cD P C a (thenQ (fun σ bx => cD P C b Q σ bx) Q) σ bx := Eq.trans rfl rfl
@[go_sem] theorem condC_bool (t : Bool) (x y : Prop) : condC (.bool t) x y = condD t x y := Eq.trans rfl rfl
@[go_sem ↓] theorem cD_cond (c : Operand) (x y : Code) : cD P C (.cond c x y) Q σ bx = condC (ev σ c) (cD P C x Q σ bx) (cD P C y Q σ bx) := Eq.trans rfl rfl
@[go_sem ↓] theorem cD_block (id : Nat) (c : Code) : cD P C (.block id c) Q σ bx = cD P C c (blockQ id Q) σ bx := Eq.trans rfl rfl
@[go_sem ↓] theorem cD_scope (c : Code) : cD P C (.scope c) Q σ bx = cD P C c (scopeQ Q) σ bx := Eq.trans rfl rfl
@[go_sem ↓] theorem scopeQ_normal : scopeQ Q .normal σ bx = Q .normal σ bx := Eq.trans rfl rfl
@[go_sem ↓] theorem scopeQ_ret : scopeQ Q .ret σ bx = Q .ret σ bx := Eq.trans rfl rfl
@[go_sem ↓] theorem scopeQ_exit (id : Nat) : scopeQ Q (.exit id) σ bx = Q (.exit id) σ bx := Eq.trans rfl rfl
@[go_sem ↓] theorem cD_exit (id : Nat) : cD P C (.exit id) Q σ bx = Q (.exit id) σ bx := Eq.trans rfl rfl
@[go_sem ↓] theorem cD_ret : cD P C .ret Q σ bx = Q .ret σ bx := Eq.trans rfl rfl
@[go_sem ↓] theorem cD_label (l : Nat) : cD P C (.label l) Q σ bx = Q .normal σ bx := Eq.trans rfl rfl
theorem cD_loop {c : Code} (I : Env → Bxs → Prop) (μ : Env → Bxs → Nat) (h0 : I σ bx) (h : ∀ σ bx, I σ bx → cD P C c (thenQ (fun σ' bx' => I σ' bx' ∧ μ σ' bx' < μ σ bx) Q) σ bx) :
    cD P C (.loop c) Q σ bx := ⟨I, μ, h0, fun σ bx hi => ⟨bx, .inl rfl, h σ bx hi⟩⟩

@[go_sem ↓] theorem regQ_nil : regQ Q [] σ bx = Q .normal σ bx := Eq.trans rfl rfl
@[go_sem ↓] theorem regQ_n (acc : List Cl) : regQ Q (.n :: acc) σ bx = Q .normal σ bx := Eq.trans rfl rfl
@[go_sem ↓] theorem regQ_r (t : Nat) (acc : List Cl) : regQ Q (.r t :: acc) σ bx = Q .normal σ bx := Eq.trans rfl rfl
@[go_sem ↓] theorem regQ_w (t : Nat) (acc : List Cl) : regQ Q (.w t :: acc) σ bx = Q .normal σ bx := Eq.trans rfl rfl
@[go_sem ↓] theorem regQ_ra (acc : List Cl) : regQ Q (.ra :: acc) σ bx = Q .normal σ bx := Eq.trans rfl rfl
@[go_sem ↓] theorem regQ_wa (acc : List Cl) : regQ Q (.wa :: acc) σ bx = Q .normal σ bx := Eq.trans rfl rfl
@[go_sem ↓] theorem regQ_pan (d : D) (acc : List Cl) : regQ Q (.pan d :: acc) σ bx = Q (.pan d) σ bx := Eq.trans rfl rfl
@[go_sem ↓] theorem contC_n (x y : Prop) : contC .n x y = y := Eq.trans rfl rfl
@[go_sem ↓] theorem contC_r (t : Nat) (x y : Prop) : contC (.r t) x y = y := Eq.trans rfl rfl
@[go_sem ↓] theorem contC_w (t : Nat) (x y : Prop) : contC (.w t) x y = y := Eq.trans rfl rfl
@[go_sem ↓] theorem contC_ra (x y : Prop) : contC .ra x y = y := Eq.trans rfl rfl
@[go_sem ↓] theorem contC_wa (x y : Prop) : contC .wa x y = y := Eq.trans rfl rfl
@[go_sem ↓] theorem contC_pan (d : D) (x y : Prop) : contC (.pan d) x y = x := Eq.trans rfl rfl
@[go_sem] theorem contC_slotR_loc (t e i j : Nat) (x y : Prop) : contC (slotR (.loc t e i j)) x y = y := Eq.trans rfl rfl
@[go_sem ↓] theorem thenQ_pan (K : Env → Bxs → Prop) (d : D) : thenQ K Q (.pan d) σ bx = Q (.pan d) σ bx := Eq.trans rfl rfl
@[go_sem ↓] theorem blockQ_pan (id : Nat) (d : D) : blockQ id Q (.pan d) σ bx = Q (.pan d) σ bx := Eq.trans rfl rfl
@[go_sem ↓] theorem scopeQ_pan (d : D) : scopeQ Q (.pan d) σ bx = Q (.pan d) σ bx := Eq.trans rfl rfl
@[go_sem ↓] theorem thenQ_normal (K : Env → Bxs → Prop) : thenQ K Q .normal σ bx = K σ bx := Eq.trans rfl rfl
@[go_sem ↓] theorem thenQ_ret (K : Env → Bxs → Prop) : thenQ K Q .ret σ bx = Q .ret σ bx := Eq.trans rfl rfl
@[go_sem ↓] theorem thenQ_exit (K : Env → Bxs → Prop) (id : Nat) : thenQ K Q (.exit id) σ bx = Q (.exit id) σ bx := Eq.trans rfl rfl
@[go_sem ↓] theorem blockQ_normal (id : Nat) : blockQ id Q .normal σ bx = Q .normal σ bx := Eq.trans rfl rfl
@[go_sem ↓] theorem blockQ_ret (id : Nat) : blockQ id Q .ret σ bx = Q .ret σ bx := Eq.trans rfl rfl
@[go_sem ↓] theorem blockQ_exit (id id' : Nat) : blockQ id Q (.exit id') σ bx = if id' = id then Q .normal σ bx else Q (.exit id') σ bx := Eq.trans rfl rfl

theorem condD_dec {p : Prop} [Decidable p] {x y : Prop} (h1 : p → x) (h2 : ¬ p → y) : condD (decide p) x y := by
  by_cases h : p
  · simp only [h, decide_true, condD_true]; exact h1 h
  · simp only [h, decide_false, condD_false]; exact h2 h
theorem condD_yes {p : Prop} [Decidable p] {x y : Prop} (h : p) (h1 : x) : condD (decide p) x y := condD_dec (fun _ => h1) (fun n => absurd h n)
theorem condD_no {p : Prop} [Decidable p] {x y : Prop} (h : ¬ p) (h1 : y) : condD (decide p) x y := condD_dec (fun n => absurd n h) (fun _ => h1)
attribute [go_sem] decide_true decide_false not_true_eq_false not_false_eq_true

@[go_sem] theorem ev_global (g : Nat) : ev σ (.global g) = evG g (glob g) := Eq.trans rfl rfl
@[go_sem] theorem evG_some (g : Nat) (d : D) : evG g (some d) = .cref d 0 := Eq.trans rfl rfl
@[go_sem] theorem evG_none (g : Nat) : evG g none = .raw (.pointer (some ⟨g, 0, none⟩)) := Eq.trans rfl rfl
@[go_sem] theorem argsF_nil (n : Nat) : argsF n [] = fun _ => .raw undef := Eq.trans rfl rfl
@[go_sem] theorem argsF_cons (n : Nat) (d : D) (ds : List D) : argsF n (d :: ds) = upd (argsF (n + 1) ds) n d := Eq.trans rfl rfl
theorem fn_intro {O : Orac} {tab : List (Nat × List (Nat × Nat))} {fn : Func} {ds : List D} {d : D} (c : Code) (rv : List ResultVar) (n : Nat) (hc : fn.body = some c) (hr : fn.results = rv.toArray) (hn : fn.ntmps = n) (hok : codeOk tab n c = true)
    (h : cD P ⟨O, tab, 0, n, 0, none, false, false⟩ c (retQ P rv d) (argsF 0 ds) (fun _ => .none)) : fnD P O tab fn ds d := by
  subst hn
  refine ⟨c, hc, hok, ?_⟩
  rw [hr]
  simpa using h
theorem fnB_intro {O : Orac} {tab : List (Nat × List (Nat × Nat))} {fn : Func} {base : Nat} {ds : List D} {bx : Bxs} {Post Pan : D → Bxs → Prop} (c : Code) (rv : List ResultVar) (n : Nat) (hc : fn.body = some c) (hr : fn.results = rv.toArray) (hn : fn.ntmps = n) (hok : codeOk tab n c = true)
    (h : cD P ⟨O, tab, base, base + n, 0, none, true, false⟩ c (retB P rv Post Pan) (argsF 0 ds) bx) : fnB P O tab fn base ds bx Post Pan := by
  subst hn
  refine ⟨c, hc, hok, ?_⟩
  rw [hr]
  simpa using h
theorem fnI_intro {O : Orac} {tab : List (Nat × List (Nat × Nat))} {fn : Func} {caps : List D} {items : List (List D)} (c : Code) (n : Nat) (hc : fn.body = some c) (hr : fn.results = #[]) (hn : fn.ntmps = n) (hok : codeOk tab n c = true)
    (h : ∀ (gs l : Nat) (bx : Bxs), (bx gs).k = 0 → (bx gs).sz = 0 → cD P ⟨O, tab, gs + 1, gs + 1 + n, gs + 1, some (items, gs, l), false, false⟩ c (retI gs items.length) (argsF 0 (.fn (.yield l) [] :: caps)) bx) : fnI P O tab fn caps items := by
  subst hn
  refine ⟨c, hc, hok, by rw [hr], h⟩
@[go_sem ↓] theorem retB_pan (rv : List ResultVar) (Post Pan : D → Bxs → Prop) (d : D) : retB P rv Post Pan (.pan d) σ bx = Pan d bx := Eq.trans rfl rfl
@[go_sem ↓] theorem retB_ret (rv : List ResultVar) (Post Pan : D → Bxs → Prop) : retB P rv Post Pan .ret σ bx = bindD (resL P σ bx rv) fun rs => Post (tupD rs) bx := Eq.trans rfl rfl
@[go_sem ↓] theorem retB_normal (rv : List ResultVar) (Post Pan : D → Bxs → Prop) : retB P rv Post Pan .normal σ bx = bindD (resL P σ bx rv) fun rs => Post (tupD rs) bx := Eq.trans rfl rfl
@[go_sem ↓] theorem retI_ret (gs n : Nat) : retI gs n .ret σ bx = (n ≤ (bx gs).sz) := Eq.trans rfl rfl
@[go_sem ↓] theorem retI_normal (gs n : Nat) : retI gs n .normal σ bx = (n ≤ (bx gs).sz) := Eq.trans rfl rfl
@[go_sem] theorem callV_func (f : Nat) (caps ds : List D) (K : Cl → D → Bxs → Prop) : callV C (.fn (.func f) caps) ds bx K = callD C f (ds ++ caps) bx K := Eq.trans rfl rfl
@[go_sem] theorem callV_bfn (f : Nat) (fs ds : List D) (K : Cl → D → Bxs → Prop) : callV C (.bfn f fs) ds bx K = callD C f (fs ++ ds) bx K := Eq.trans rfl rfl
@[go_sem] theorem callV_yield (l : Nat) (ds : List D) (K : Cl → D → Bxs → Prop) : callV C (.fn (.yield l) []) ds bx K = yieldD C l ds bx K := Eq.trans rfl rfl
@[go_sem] theorem bindPs_nil : bindPs σ [] [] = σ := Eq.trans rfl rfl
@[go_sem] theorem bindPs_cons (t : Nat) (ts : List Nat) (d : D) (ds : List D) : bindPs σ (t :: ts) (d :: ds) = bindPs (upd σ t d) ts ds := Eq.trans rfl rfl
@[go_sem] theorem cutB_at (n s : Nat) : cutB n bx s = if s < n then bx s else .none := Eq.trans rfl rfl
@[go_sem] theorem mixB_at (lo hi s : Nat) (bx1 : Bxs) : mixB lo hi bx bx1 s = if lo ≤ s then (if s < hi then bx s else bx1 s) else bx1 s := by
  unfold mixB; by_cases h1 : lo ≤ s <;> by_cases h2 : s < hi <;> simp [h1, h2]
/-- One more is yielded. -/
theorem yield_step {items : List (List D)} {gs l : Nat} {ds : List D} {K : Cl → D → Bxs → Prop} (hy : C.yl = some (items, gs, l)) (hp : D.pureL ds = true) (hi : items[(bx gs).sz]? = some ds)
    (hk : ∀ bx1 : Bxs, K .wa (.bool true) (upd (mixB C.lo C.nxt bx bx1) gs { bx gs with sz := (bx gs).sz + 1 }) ∧ K .wa (.bool false) (upd (mixB C.lo C.nxt bx bx1) gs { bx gs with sz := items.length + 1 })) : yieldD C l ds bx K := by
  unfold yieldD
  rw [hy]
  exact ⟨⟨rfl, hp, hi⟩, hk⟩
/-- A range over a function. -/
theorem cD_range {pn df : Bool} {o : Orac} {tab : List (Nat × List (Nat × Nat))} {base nxt : Nat} {g : Operand} {ps : List Tmp} {assign body : Code} (f : FuncId) (caps : List D) (items : List (List D)) (ext : Nat) (J : Nat → Bxs → Prop) (hg : ev σ g = .fn (.func f) caps) (hp : D.pureL caps = true) (hit : o.it f caps items ext)
    (h0 : J 0 (cutB nxt bx)) (hr : ∀ n it bx1, items[n]? = some it → J n (cutB nxt bx1) → it.length = ps.length ∧
      cD P ⟨o, tab, base, nxt + ext, 0, none, false, false⟩ assign (thenQ (fun σ' bx' => cD P ⟨o, tab, base, nxt + ext, 0, none, false, false⟩ body (roundQ nxt ext J n Q σ bx1) σ' bx') noQ) (bindPs σ ps it) bx1)
    (hq : ∀ bx1, J items.length (cutB nxt bx1) → Q .normal σ bx1) : cD P ⟨o, tab, base, nxt, 0, none, pn, df⟩ (.rangeFunc g ps.toArray assign body) Q σ bx :=
  ⟨rfl, rfl, f, caps, items, ext, hg, hp, hit, J, h0, fun n it bx1 h1 h2 => by have := hr n it bx1 h1 h2; exact ⟨by simpa using this.1, by simpa only [cD] using this.2⟩, hq⟩
/-- The end of a round. -/
@[go_sem ↓] theorem roundQ_normal (nxt ext n : Nat) (J : Nat → Bxs → Prop) (σ' : Env) (bx1 : Bxs) : roundQ nxt ext J n Q σ bx1 .normal σ' bx = ((∀ s, nxt ≤ s → s < nxt + ext → bx s = bx1 s) ∧ J (n + 1) (cutB nxt bx)) := Eq.trans rfl rfl
@[go_sem ↓] theorem roundQ_ret (nxt ext n : Nat) (J : Nat → Bxs → Prop) (σ' : Env) (bx1 : Bxs) : roundQ nxt ext J n Q σ bx1 .ret σ' bx = ((∀ s, nxt ≤ s → s < nxt + ext → bx s = bx1 s) ∧ ∀ bx2, cutB nxt bx2 = cutB nxt bx → Q .ret σ bx2) := Eq.trans rfl rfl
@[go_sem ↓] theorem roundQ_exit (nxt ext n id : Nat) (J : Nat → Bxs → Prop) (σ' : Env) (bx1 : Bxs) : roundQ nxt ext J n Q σ bx1 (.exit id) σ' bx = ((∀ s, nxt ≤ s → s < nxt + ext → bx s = bx1 s) ∧ ∀ bx2, cutB nxt bx2 = cutB nxt bx → Q (.exit id) σ bx2) := Eq.trans rfl rfl
/-- what holds of a slot below, from what holds of the slots below -/
theorem cut_at {n s : Nat} {bx bx2 : Bxs} (h : cutB n bx2 = cutB n bx) (hs : s < n) : bx2 s = bx s := by
  have := congrFun h s
  simpa [cutB, hs] using this
@[go_sem ↓] theorem retQ_ret (rv : List ResultVar) (d : D) : retQ P rv d .ret σ bx = bindD (resL P σ bx rv) fun rs => bindD (outD bx (tupD rs)) fun r => Weak r d := Eq.trans rfl rfl
@[go_sem ↓] theorem retQ_normal (rv : List ResultVar) (d : D) : retQ P rv d .normal σ bx = bindD (resL P σ bx rv) fun rs => bindD (outD bx (tupD rs)) fun r => Weak r d := Eq.trans rfl rfl
@[go_sem] theorem consO_some (x : D) (xs : List D) : consO (some x) (some xs) = some (x :: xs) := Eq.trans rfl rfl
@[go_sem] theorem resL_nil : resL P σ bx [] = some [] := Eq.trans rfl rfl
@[go_sem] theorem resL_cons (r : ResultVar) (rs : List ResultVar) : resL P σ bx (r :: rs) = consO (resD P σ bx r) (resL P σ bx rs) := Eq.trans rfl rfl
@[go_sem] theorem resD_tmp (t : Nat) : resD P σ bx (.tmp t) = some (σ t) := Eq.trans rfl rfl
@[go_sem] theorem resD_cell (t T : Nat) : resD P σ bx (.cell t T) = loadD (tiOf P T) bx (σ t) := Eq.trans rfl rfl
@[go_sem] theorem tupD_one (d : D) : tupD [d] = d := Eq.trans rfl rfl
@[go_sem] theorem tupD_two (d e : D) (ds : List D) : tupD (d :: e :: ds) = .tup (d :: e :: ds) := Eq.trans rfl rfl
@[go_sem] theorem tupD_nil : tupD [] = .tup [] := Eq.trans rfl rfl
@[go_sem] theorem outL_nil : outL bx [] = some [] := by simp [outL]
@[go_sem] theorem outL_cons (d : D) (ds : List D) : outL bx (d :: ds) = consO (outD bx d) (outL bx ds) := by simp only [outL]
@[go_sem] theorem outD_int (k : IntKind) (n : Int) : outD bx (.int k n) = some (.int k n) := by simp [outD]
@[go_sem] theorem outD_bool (b : Bool) : outD bx (.bool b) = some (.bool b) := by simp [outD]
@[go_sem] theorem outD_str (b : List UInt8) : outD bx (.str b) = some (.str b) := by simp [outD]
@[go_sem] theorem outD_raw (b : Value) : outD bx (.raw b) = some (.raw b) := by simp [outD]
@[go_sem] theorem outD_nilsl : outD bx .nilsl = some .nilsl := by simp [outD]
@[go_sem] theorem outD_sl (sz : Nat) (es : List D) : outD bx (.sl sz es) = some (.sl sz es) := by simp [outD]
@[go_sem] theorem outD_cref (d : D) (j : Nat) : outD bx (.cref d j) = some (.cref d j) := by simp [outD]
@[go_sem] theorem outD_agg (ds : List D) : outD bx (.agg ds) = (outL bx ds).map .agg := by simp only [outD]
@[go_sem] theorem outD_tup (ds : List D) : outD bx (.tup ds) = (outL bx ds).map .tup := by simp only [outD]
@[go_sem] theorem outD_bfn (f : FuncId) (ds : List D) : outD bx (.bfn f ds) = (outL bx ds).map (.bfn f) := by simp only [outD]
@[go_sem] theorem outD_fn (f : Fn) (ds : List D) : outD bx (.fn f ds) = (outL bx ds).map (.fn f) := by simp only [outD]
def outP (b : Bx) (e i j : Nat) : Option D := if b.ep = e ∧ lv b.k then match b.es[i]? with
      | some d => if d.pure then some (.cref d j) else some (.cref d.veil j)
      | none => none
    else none
@[go_sem] theorem outD_loc (t e i j : Nat) : outD bx (.loc t e i j) = outP (bx t) e i j := by
  simp only [outD, outP] <;> split <;> first | (cases (bx t).es[i]? <;> rfl) | rfl
def outP1 (x : Option D) (j : Nat) : Option D := match x with
  | some d => if d.pure then some (.cref d j) else some (.cref d.veil j)
  | none => none
@[go_sem] theorem outP_live (e sz ty i j : Nat) (es : List D) : outP ⟨e, 1, sz, ty, es⟩ e i j = outP1 es[i]? j := by
  unfold outP outP1
  cases es[i]? <;> simp [lv1, lv2]
@[go_sem] theorem outP_frz (e sz ty i j : Nat) (es : List D) : outP ⟨e, 2, sz, ty, es⟩ e i j = outP1 es[i]? j := by
  unfold outP outP1
  cases es[i]? <;> simp [lv1, lv2]
@[go_sem] theorem outP1_some (d : D) (j : Nat) : outP1 (some d) j = if d.pure then some (.cref d j) else some (.cref d.veil j) := Eq.trans rfl rfl
@[go_sem] theorem veil_agg (ds : List D) : (D.agg ds).veil = .agg (ds.map D.veilC) := Eq.trans rfl rfl
@[go_sem] theorem veilC_eq (c : D) : D.veilC c = if c.pure then c else .undef := Eq.trans rfl rfl
@[go_sem] theorem veil_osl (t e sz o n : Nat) : (D.osl t e sz o n).veil = .undef := Eq.trans rfl rfl
@[go_sem] theorem veil_loc (t e i j : Nat) : (D.loc t e i j).veil = .undef := Eq.trans rfl rfl
@[go_sem] theorem none_ep : Bx.none.ep = 0 := Eq.trans rfl rfl
@[go_sem] theorem none_k : Bx.none.k = 0 := Eq.trans rfl rfl
def outB (b : Bx) (e sz o n : Nat) : Option D := if b.ep = e ∧ lv b.k ∧ b.sz = sz ∧ o + n ≤ b.es.length then
      (if D.pureL ((b.es.drop o).take n) then some (.sl sz ((b.es.drop o).take n)) else none) else none
@[go_sem] theorem outD_osl (t e sz o n : Nat) : outD bx (.osl t e sz o n) = outB (bx t) e sz o n := by simp only [outD, outB]
theorem outB_all (e k sz ty n : Nat) (es : List D) (hk : lv k) (hn : n = es.length) (hp : D.pureL es = true) : outB ⟨e, k, sz, ty, es⟩ e sz 0 n = some (.sl sz es) := by
  simp [outB, hk, hn, hp]
@[go_sem] theorem pure_int (k : IntKind) (n : Int) : D.pure (.int k n) = true := by simp [D.pure]
@[go_sem] theorem pure_bool (b : Bool) : D.pure (.bool b) = true := by simp [D.pure]
@[go_sem] theorem pure_str (b : List UInt8) : D.pure (.str b) = true := by simp [D.pure]
@[go_sem] theorem pure_raw (b : Value) : D.pure (.raw b) = true := by simp [D.pure]
@[go_sem] theorem pure_nilsl : D.pure .nilsl = true := by simp [D.pure]
@[go_sem] theorem pure_sl (sz : Nat) (es : List D) : D.pure (.sl sz es) = true := by simp [D.pure]
@[go_sem] theorem pure_cref (d : D) (j : Nat) : D.pure (.cref d j) = true := by simp [D.pure]
@[go_sem] theorem pure_agg (ds : List D) : D.pure (.agg ds) = D.pureL ds := by simp only [D.pure]
@[go_sem] theorem pure_bfn (f : FuncId) (ds : List D) : D.pure (.bfn f ds) = D.pureL ds := by simp only [D.pure]
@[go_sem] theorem pure_fn (f : Fn) (ds : List D) : D.pure (.fn f ds) = D.pureL ds := by simp only [D.pure]
@[go_sem] theorem pureL_nil : D.pureL [] = true := by simp [D.pureL]
@[go_sem] theorem pureL_cons (d : D) (ds : List D) : D.pureL (d :: ds) = (d.pure && D.pureL ds) := by simp only [D.pureL]
theorem pureL_map {α : Type} (f : α → D) (l : List α) (h : ∀ x, (f x).pure = true) : D.pureL (l.map f) = true := by
  induction l with
  | nil => simp [D.pureL]
  | cons x l ih => simp [D.pureL, h, ih]

/-- ways that meet again: what holds behind the first piece -/
theorem seq_cut {a b : Code} (M : Env → Bxs → Prop) (h1 : cD P C a (thenQ M Q) σ bx) (hm : ∀ (c : Code) (Q Q' : DX → Env → Bxs → Prop) (σ : Env) (bx : Bxs), (∀ e σ bx, Q e σ bx → Q' e σ bx) → cD P C c Q σ bx → cD P C c Q' σ bx)
    (h2 : ∀ σ bx, M σ bx → cD P C b Q σ bx) : cD P C (.seq a b) Q σ bx := by
  refine hm a _ _ σ bx (fun e σ bx h => ?_) h1
  cases e <;> first | exact h2 _ _ h | exact h

/-! Operations: the frame -/
variable {full rest : List Oper} {acc : List Cl} {K : List Cl → Env → Bxs → Prop} {dst : Option Tmp} {ty : TypeId} {pos : String} {af : Array Edge} {g : Option (Nat × Bool)} {K1 : Cl → Env → Bxs → Prop}

@[go_sem ↓] theorem opsD_nil : opsD P C full [] acc σ bx K = K acc σ bx := Eq.trans rfl rfl
@[go_sem ↓] theorem opsD_none (op : Op) : opsD P C full (⟨dst, op, ty, pos, af, none⟩ :: rest) acc σ bx K =
    stepD P C ⟨dst, op, ty, pos, af, none⟩ σ bx fun c σ' bx' => contC c (K (c :: acc) σ' bx') (opsD P C full rest (c :: acc) σ' bx' K) := Eq.trans rfl rfl
@[go_sem] theorem gK_none (want : Bool) (x y : Prop) : gK none want x y = y := by simp [gK]
@[go_sem] theorem gK_true (b : Bool) (x y : Prop) : gK (some b) true x y = condD b x y := by cases b <;> simp [gK, condD]
@[go_sem] theorem gK_false (b : Bool) (x y : Prop) : gK (some b) false x y = condD b y x := by cases b <;> simp [gK, condD]
@[go_sem ↓] theorem opsD_some (op : Op) (j : Nat) (want : Bool) : opsD P C full (⟨dst, op, ty, pos, af, some (j, want)⟩ :: rest) acc σ bx K =
    bindD (guardO full[j]? σ) fun g => gK g want (stepD P C ⟨dst, op, ty, pos, af, some (j, want)⟩ σ bx fun c σ' bx' => contC c (K (c :: acc) σ' bx') (opsD P C full rest (c :: acc) σ' bx' K))
      (opsD P C full rest (.n :: acc) (put σ dst (.raw undef)) bx K) := Eq.trans rfl rfl
@[go_sem] theorem guardV_bool (b : Bool) : guardV (.bool b) = some (some b) := Eq.trans rfl rfl
@[go_sem] theorem guardV_undef : guardV (.raw undef) = some none := by simp [guardV, undef]
@[go_sem] theorem guardO_some (op : Op) (d : Nat) : guardO (some ⟨some d, op, ty, pos, af, g⟩) σ = guardV (σ d) := Eq.trans rfl rfl
@[go_sem] theorem slotR_loc (t e i j : Nat) : slotR (.loc t e i j) = .r t := Eq.trans rfl rfl
@[go_sem] theorem slotR_cref (d : D) (j : Nat) : slotR (.cref d j) = .n := Eq.trans rfl rfl
@[go_sem] theorem slotW_loc (t e i j : Nat) : slotW (.loc t e i j) = .w t := Eq.trans rfl rfl
section
variable (o : Orac) (tab : List (Nat × List (Nat × Nat))) (base nxt lo : Nat) (yl : Option (List (List D) × Nat × Nat)) (pn df : Bool)
@[go_sem] theorem calc_pn : (Calc.mk o tab base nxt lo yl pn df).pn = pn := Eq.trans rfl rfl
@[go_sem] theorem calc_df : (Calc.mk o tab base nxt lo yl pn df).df = df := Eq.trans rfl rfl
@[go_sem] theorem calc_o : (Calc.mk o tab base nxt lo yl pn df).o = o := Eq.trans rfl rfl
@[go_sem] theorem calc_tab : (Calc.mk o tab base nxt lo yl pn df).tab = tab := Eq.trans rfl rfl
@[go_sem] theorem calc_base : (Calc.mk o tab base nxt lo yl pn df).base = base := Eq.trans rfl rfl
@[go_sem] theorem calc_nxt : (Calc.mk o tab base nxt lo yl pn df).nxt = nxt := Eq.trans rfl rfl
@[go_sem] theorem calc_lo : (Calc.mk o tab base nxt lo yl pn df).lo = lo := Eq.trans rfl rfl
@[go_sem] theorem calc_det : (Calc.mk o tab base nxt lo yl pn df).det = ⟨⟨o.to, fun _ _ _ _ _ _ => False, fun _ _ _ _ => False⟩, tab, base, nxt, lo, none, false, false⟩ := Eq.trans rfl rfl
@[go_sem] theorem calc_yl : (Calc.mk o tab base nxt lo yl pn df).yl = yl := Eq.trans rfl rfl
end
@[go_sem] theorem orac_to (a : FuncId → List D → D → Prop) (b : FuncId → Nat → List D → Bxs → (D → Bxs → Prop) → (D → Bxs → Prop) → Prop) (c : FuncId → List D → List (List D) → Nat → Prop) : (Orac.mk a b c).to = a := Eq.trans rfl rfl
@[go_sem] theorem slot_ne1 (a c : Nat) : (a = a + 1 + c) = False := by simp; omega
@[go_sem] theorem slot_ne2 (a c : Nat) : (a + 1 + c = a) = False := by simp; omega
@[go_sem] theorem slot_le (a : Nat) : (a + 1 ≤ a) = False := by simp
@[go_sem] theorem slot_lt (a c n : Nat) : (a + 1 + c < a + 1 + n) = (c < n) := by simp
@[go_sem] theorem slotO_some (b d : Nat) : slotO b (some d) = some (b + d) := Eq.trans rfl rfl
@[go_sem] theorem slotO_none (b : Nat) : slotO b none = none := Eq.trans rfl rfl
@[go_sem] theorem lookT_nil (id : Nat) : lookT [] id = [] := Eq.trans rfl rfl
@[go_sem] theorem lookT_cons (k id : Nat) (ps : List (Nat × Nat)) (r : List (Nat × List (Nat × Nat))) : lookT ((k, ps) :: r) id = if k = id then ps else lookT r id := Eq.trans rfl rfl
@[go_sem] theorem chk_nil (acc : List Cl) : chk [] acc = True := Eq.trans rfl rfl
@[go_sem] theorem chk_cons (i j : Nat) (ps : List (Nat × Nat)) (acc : List Cl) : chk ((i, j) :: ps) acc = (apartO acc[i]? acc[j]? ∧ chk ps acc) := Eq.trans rfl rfl
@[go_sem] theorem apartO_some (a b : Cl) : apartO (some a) (some b) = apart a b := Eq.trans rfl rfl
@[go_sem] theorem apart_n1 (b : Cl) : apart .n b = True := Eq.trans (by cases b <;> rfl) rfl
@[go_sem] theorem apart_n2 (b : Cl) : apart b .n = True := Eq.trans (by cases b <;> rfl) rfl
@[go_sem] theorem apart_rr (s t : Nat) : apart (.r s) (.r t) = True := Eq.trans rfl rfl
@[go_sem] theorem apart_ar (t : Nat) : apart .ra (.r t) = True := Eq.trans rfl rfl
@[go_sem] theorem apart_raa (t : Nat) : apart (.r t) .ra = True := Eq.trans rfl rfl
@[go_sem] theorem apart_aa : apart .ra .ra = True := Eq.trans rfl rfl
@[go_sem] theorem apart_rw (s t : Nat) : apart (.r s) (.w t) = ¬ s = t := Eq.trans rfl rfl
@[go_sem] theorem apart_wr (s t : Nat) : apart (.w s) (.r t) = ¬ s = t := Eq.trans rfl rfl
@[go_sem] theorem apart_ww (s t : Nat) : apart (.w s) (.w t) = ¬ s = t := Eq.trans rfl rfl
attribute [go_sem] not_false_eq_true
@[go_sem ↓] theorem put_some (d : Nat) (v : D) : put σ (some d) v = upd σ d v := Eq.trans rfl rfl
@[go_sem ↓] theorem put_none (v : D) : put σ none v = σ := Eq.trans rfl rfl
@[go_sem ↓] theorem ev_tmp (t : Nat) : ev σ (.tmp t) = σ t := Eq.trans rfl rfl
@[go_sem ↓] theorem ev_const (v : Value) : ev σ (.const v) = ofV v := Eq.trans rfl rfl
@[go_sem ↓] theorem ev_func (f : Nat) : ev σ (.func f) = .fn (.func f) [] := Eq.trans rfl rfl
@[go_sem] theorem ofV_int (k : IntKind) (n : Int) : ofV (.int k n) = .int k n := Eq.trans rfl rfl
@[go_sem] theorem ofV_bool (b : Bool) : ofV (.bool b) = .bool b := Eq.trans rfl rfl
@[go_sem] theorem ofV_string (l : List UInt8) : ofV (.string ⟨l.toArray⟩) = .str l := Eq.trans rfl rfl
@[go_sem] theorem ofV_nil : ofV (.slice none 0 0) = .nilsl := Eq.trans rfl rfl

/-! Maps -/
@[go_sem] theorem condC_abool (x y : Prop) : condC .abool x y = (x ∧ y) := Eq.trans rfl rfl
@[go_sem] theorem binD_nil (ti : TI) (op : BinOp) (x : D) : binD ti op x .nilsl = nilK ti op x := by cases x <;> rfl
@[go_sem] theorem nilK_slice (e sz b size : Nat) (g ag : Bool) (z : List D) (op : BinOp) (x : D) : nilK ⟨.slice e sz b g, size, ag, z⟩ op x = nilS op x := Eq.trans rfl rfl
@[go_sem] theorem nilS_nil : nilS .eql .nilsl = some (.bool true) := Eq.trans rfl rfl
@[go_sem] theorem nilS_osl (t e sz o n : Nat) : nilS .eql (.osl t e sz o n) = some (.bool false) := Eq.trans rfl rfl
@[go_sem] theorem nilS_sl (sz : Nat) (es : List D) : nilS .eql (.sl sz es) = some (if es.isEmpty then .abool else .bool false) := Eq.trans rfl rfl
@[go_sem] theorem one_omap (t e : Nat) : D.one (.omap t e) = true := Eq.trans rfl rfl
@[go_sem] theorem keyOk_str (s : List UInt8) : keyOk .str (.str s) = true := Eq.trans rfl rfl
@[go_sem] theorem keyOk_bool (b : Bool) : keyOk .bool (.bool b) = true := Eq.trans rfl rfl
@[go_sem] theorem keyOk_int (k : IntKind) (n : Int) : keyOk (.int k) (.int k n) = true := by simp [keyOk]
@[go_sem] theorem mapB1_eq (t : Nat) (c : Int) (es : List D) : mapB1 t (.int .i64 c :: es) = some (t, c, es) := Eq.trans rfl rfl
@[go_sem] theorem iterB1_eq (t m k : Nat) (s l : Int) (es : List D) : iterB1 t (.omap m k :: .int .i64 s :: .int .i64 l :: es) = some (t, .omap m k, s, l, es) := Eq.trans rfl rfl
def mapA2 (t e : Nat) (b : Bx) : Option (Nat × Int × List D) := if b.ep = e ∧ b.k = 3 then mapB1 t b.es else none
@[go_sem] theorem mapAt_eq (t e : Nat) : mapAt bx (.omap t e) = mapA2 t e (bx t) := Eq.trans rfl rfl
@[go_sem] theorem mapA2_eq (t e sz ty : Nat) (es : List D) : mapA2 t e ⟨e, 3, sz, ty, es⟩ = mapB1 t es := by simp [mapA2]
def iterA2 (t e : Nat) (b : Bx) : Option (Nat × D × Int × Int × List D) := if b.ep = e ∧ b.k = 3 then iterB1 t b.es else none
@[go_sem] theorem iterAt_eq (t e : Nat) : iterAt bx (.loc t e 0 0) = iterA2 t e (bx t) := Eq.trans rfl rfl
@[go_sem] theorem iterA2_eq (t e sz ty : Nat) (es : List D) : iterA2 t e ⟨e, 3, sz, ty, es⟩ = iterB1 t es := by simp [iterA2]
@[go_sem] theorem lookO_map (T : TypeId → TI) (kt et size : Nat) (ag ok : Bool) (z : List D) (m k : D) : lookO P T ⟨.map kt et, size, ag, z⟩ bx m k ok = if keyOk (T kt).k k = true then (mapAt bx m).bind fun r => valO (zeroV P et) ok (findM (T kt).k k r.2.2 0) else none := Eq.trans rfl rfl
@[go_sem] theorem valO_some (Z : Option D) (i : Nat) (v : D) : valO Z true (some (some (i, v))) = some (.tup [v, .bool true]) := Eq.trans rfl rfl
@[go_sem] theorem valO_some1 (Z : Option D) (i : Nat) (v : D) : valO Z false (some (some (i, v))) = some v := Eq.trans rfl rfl
@[go_sem] theorem valO_none (Z : Option D) : valO Z true (some none) = Z.map fun z => .tup [z, .bool false] := Eq.trans rfl rfl
@[go_sem] theorem valO_none1 (Z : Option D) : valO Z false (some none) = Z := by cases Z <;> rfl
@[go_sem] theorem slotM_omap (t e : Nat) : slotM (.omap t e) = .r t := Eq.trans rfl rfl
@[go_sem] theorem updO_map (T : TypeId → TI) (kt et size : Nat) (ag : Bool) (z : List D) (m k v : D) : updO T ⟨.map kt et, size, ag, z⟩ bx m k v = if keyOk (T kt).k k = true then (if v.simple = true then ((mapAt bx m).bind fun r => (updM (T kt).k k v r.2.1 r.2.2).map (setM bx r.1)) else none) else none := by
  simp only [updO, ite_and2]
@[go_sem] theorem delO_map (T : TypeId → TI) (kt et size : Nat) (ag : Bool) (z : List D) (m k : D) : delO T ⟨.map kt et, size, ag, z⟩ bx m k = if keyOk (T kt).k k = true then (mapAt bx m).bind fun r => (delM (T kt).k k r.2.1 r.2.2).map (setM bx r.1) else none := Eq.trans rfl rfl
@[go_sem] theorem simple_int (k : IntKind) (n : Int) : D.simple (.int k n) = true := Eq.trans rfl rfl
@[go_sem] theorem simple_bool (b : Bool) : D.simple (.bool b) = true := Eq.trans rfl rfl
@[go_sem] theorem simple_str (s : List UInt8) : D.simple (.str s) = true := Eq.trans rfl rfl
@[go_sem] theorem simple_agg (ds : List D) : D.simple (.agg ds) = D.simpleL ds := Eq.trans rfl rfl
@[go_sem] theorem simple_fn (f : Fn) (ds : List D) : D.simple (.fn f ds) = D.simpleL ds := Eq.trans rfl rfl
@[go_sem] theorem simpleL_nil : D.simpleL [] = true := Eq.trans rfl rfl
@[go_sem] theorem simpleL_cons (d : D) (ds : List D) : D.simpleL (d :: ds) = (d.simple && D.simpleL ds) := Eq.trans rfl rfl
@[go_sem] theorem lenO_one (m : D) : lenO bx [m] = (mapAt bx m).map fun r => .int .i64 (r.2.2.length : Int) := Eq.trans rfl rfl
@[go_sem] theorem rngO_map (kt et size : Nat) (ag : Bool) (z : List D) (x : D) : rngO ⟨.map kt et, size, ag, z⟩ bx x = (mapAt bx x).map fun r => [x, .int .i64 r.2.1, .int .i64 r.2.1] := Eq.trans rfl rfl
@[go_sem ↓] theorem step_lookup (T : Nat) (m k : Operand) (ok : Bool) : stepD P C ⟨dst, .lookup T m k ok, ty, pos, af, g⟩ σ bx K1 = bindD (lookO P (tiOf P) (tiOf P T) bx (ev σ m) (ev σ k) ok) fun v => bindD (some (slotM (ev σ m))) fun c => K1 c (put σ dst v) bx := Eq.trans rfl rfl
@[go_sem ↓] theorem step_makeMap (T d : Nat) : stepD P C ⟨some d, .makeMap T none, ty, pos, af, g⟩ σ bx K1 = (C.pn = true ∧ C.lo = 0 ∧ bindD (some (C.base + d)) fun s => K1 .wa (upd σ d (.omap s ((bx s).ep + 1))) (upd bx s ⟨(bx s).ep + 1, 3, 0, T, [.int .i64 0]⟩)) := Eq.trans rfl rfl
@[go_sem ↓] theorem step_mapUpdate (T : Nat) (m k v : Operand) : stepD P C ⟨dst, .mapUpdate T m k v, ty, pos, af, g⟩ σ bx K1 = (C.pn = true ∧ C.lo = 0 ∧ bindD (updO (tiOf P) (tiOf P T) bx (ev σ m) (ev σ k) (ev σ v)) fun bx' => K1 .wa (put σ dst (.raw undef)) bx') := Eq.trans rfl rfl
@[go_sem ↓] theorem step_range (T d : Nat) (x : Operand) : stepD P C ⟨some d, .range T x, ty, pos, af, g⟩ σ bx K1 = (C.pn = true ∧ C.lo = 0 ∧ bindD (rngO (tiOf P T) bx (ev σ x)) fun es => K1 .wa (upd σ d (.loc (C.base + d) ((bx (C.base + d)).ep + 1) 0 0)) (upd bx (C.base + d) ⟨(bx (C.base + d)).ep + 1, 3, 0, 0, es⟩)) := Eq.trans rfl rfl
@[go_sem ↓] theorem step_next (it : Operand) : stepD P C ⟨dst, .next it false, ty, pos, af, g⟩ σ bx K1 = (C.pn = true ∧ C.lo = 0 ∧ nextD bx (ev σ it) fun v bx' => K1 .wa (put σ dst v) bx') := Eq.trans rfl rfl
@[go_sem ↓] theorem step_entry (it : Operand) : stepD P C ⟨dst, .entry it, ty, pos, af, g⟩ σ bx K1 = (C.pn = true ∧ C.lo = 0 ∧ bindD (entryO bx (ev σ it)) fun v => K1 .wa (put σ dst v) bx) := Eq.trans rfl rfl
@[go_sem ↓] theorem step_delete (T T' : Nat) (x y : Operand) : stepD P C ⟨dst, .call { callee := .builtin .delete, args := #[x, y], argTypes := #[T, T'] }, ty, pos, af, g⟩ σ bx K1 = (C.pn = true ∧ C.lo = 0 ∧ bindD (delO (tiOf P) (tiOf P T) bx (ev σ x) (ev σ y)) fun bx' => K1 .wa (put σ dst (.raw (.tuple #[]))) bx') := Eq.trans rfl rfl

/-! Operations: each -/
@[go_sem ↓] theorem stepD_makeSlice (T d : Nat) (l c : Operand) : stepD P C ⟨some d, .makeSlice T l c, ty, pos, af, g⟩ σ bx K1 = bindD (mkslD (tiOf P) (tiOf P T) (ev σ l) (ev σ c)) fun r => K1 (.w (C.base + d)) (upd σ d (.osl (C.base + d) ((bx (C.base + d)).ep + 1) r.1 0 r.2.2.length)) (upd bx (C.base + d) ⟨(bx (C.base + d)).ep + 1, 1, r.1, r.2.1, r.2.2⟩) := Eq.trans rfl rfl
@[go_sem] theorem mkslD_eq (T : TypeId → TI) (el esz bytes size : Nat) (g ag : Bool) (z : List D) (k k' : IntKind) (n m : Int) (h1 : 0 < esz) (h2 : 0 < bytes) : mkslD T ⟨.slice el esz bytes g, size, ag, z⟩ (.int k n) (.int k' m) = if 0 ≤ n then (if n ≤ m then (if m * bytes ≤ 140737488355328 then (if (T el).size = esz then (zeroD (T el)).map fun z => (esz, el, List.replicate n.toNat z) else none) else none) else none) else none := by
  simp only [mkslD, h1, h2, true_and, ite_and2]
@[go_sem] theorem bytesD_nil : bytesD [] = some [] := Eq.trans rfl rfl
@[go_sem] theorem bytesD_cons (n : Int) (es : List D) : bytesD (.int .u8 n :: es) = (bytesD es).map (UInt8.ofNat n.toNat :: ·) := Eq.trans rfl rfl
@[go_sem] theorem convD_bytes (T : TypeId → TI) (e z0 b s s' : Nat) (g0 g g' : Bool) (z z' : List D) (es : List D) : convD T ⟨.slice e z0 b g0, s, g, z⟩ ⟨.str, s', g', z'⟩ (.sl 1 es) = if (T e).k.isU8 = true then (bytesD es).map .str else none := by
  simp [convD]
@[go_sem] theorem isU8_u8 : TK.isU8 (.int .u8) = true := Eq.trans rfl rfl
@[go_sem ↓] theorem stepD_alloc (T d : Nat) : stepD P C ⟨some d, .alloc T, ty, pos, af, g⟩ σ bx K1 = bindD (zeroD (tiOf P T)) fun z => bindD (some (tiOf P T).size) fun s =>
    K1 (.w (C.base + d)) (upd σ d (.loc (C.base + d) ((bx (C.base + d)).ep + 1) 0 0)) (upd bx (C.base + d) ⟨(bx (C.base + d)).ep + 1, 1, s, T, [z]⟩) := Eq.trans rfl rfl
@[go_sem ↓] theorem stepD_box (T d : Nat) (x : Operand) : stepD P C ⟨some d, .box T x, ty, pos, af, g⟩ σ bx K1 = bindD (boxD (tiOf P T) (ev σ x)) fun v => bindD (some (tiOf P T).size) fun s =>
    K1 (.w (C.base + d)) (upd σ d (.loc (C.base + d) ((bx (C.base + d)).ep + 1) 0 0)) (upd bx (C.base + d) ⟨(bx (C.base + d)).ep + 1, 1, s, T, [v]⟩) := Eq.trans rfl rfl
@[go_sem] theorem zeroD_eq (k : TK) (size : Nat) (ag : Bool) (z : List D) (h : 0 < size) : zeroD ⟨k, size, ag, z⟩ = if z.length = size then (if z.all D.one then (if ag then some (mkD ag z) else if size = 1 then some (mkD ag z) else none) else none) else none := by
  unfold zeroD
  cases h2 : z.all D.one <;> by_cases h1 : z.length = size <;> by_cases h3 : size = 1 <;> cases ag <;> simp_all
@[go_sem] theorem boxD_eq (k : TK) (size : Nat) (ag : Bool) (z : List D) (v : D) (h : 0 < size) : boxD ⟨k, size, ag, z⟩ v = if v.cells.length = size then (if v.cells.all D.one then some v else none) else none := by
  unfold boxD
  cases h2 : v.cells.all D.one <;> by_cases h1 : v.cells.length = size <;> simp_all
@[go_sem] theorem one_int (k : IntKind) (n : Int) : D.one (.int k n) = true := Eq.trans rfl rfl
@[go_sem] theorem one_bool (b : Bool) : D.one (.bool b) = true := Eq.trans rfl rfl
@[go_sem] theorem one_str (s : List UInt8) : D.one (.str s) = true := Eq.trans rfl rfl
@[go_sem] theorem one_nilsl : D.one .nilsl = true := Eq.trans rfl rfl
@[go_sem] theorem one_sl (sz : Nat) (es : List D) : D.one (.sl sz es) = true := Eq.trans rfl rfl
@[go_sem] theorem one_osl (t e sz o n : Nat) : D.one (.osl t e sz o n) = true := Eq.trans rfl rfl
@[go_sem] theorem one_loc (t e i j : Nat) : D.one (.loc t e i j) = true := Eq.trans rfl rfl
@[go_sem] theorem one_cref (d : D) (j : Nat) : D.one (.cref d j) = true := Eq.trans rfl rfl
@[go_sem] theorem one_bfn (f : FuncId) (ds : List D) : D.one (.bfn f ds) = true := Eq.trans rfl rfl
@[go_sem] theorem one_fn (f : Fn) (ds : List D) : D.one (.fn f ds) = true := Eq.trans rfl rfl
@[go_sem] theorem one_ifc (t : TypeId) (d : D) : D.one (.ifc t d) = true := Eq.trans rfl rfl
@[go_sem] theorem one_rawp (x : Option Addr) : D.one (.raw (.pointer x)) = true := Eq.trans rfl rfl
@[go_sem] theorem one_rawf : D.one (.raw .nilFunc) = true := Eq.trans rfl rfl
@[go_sem] theorem one_rawi : D.one (.raw .nilIface) = true := Eq.trans rfl rfl
@[go_sem] theorem one_rawm (x : Option Nat) : D.one (.raw (.map x)) = true := Eq.trans rfl rfl
@[go_sem] theorem all_nil {α : Type} (p : α → Bool) : [].all p = true := Eq.trans rfl rfl
@[go_sem] theorem all_cons {α : Type} (p : α → Bool) (x : α) (l : List α) : (x :: l).all p = (p x && l.all p) := Eq.trans rfl rfl
attribute [go_sem] Bool.and_self Bool.and_true Bool.true_and Bool.and_false Bool.false_and true_and and_true
@[go_sem ↓] theorem stepD_store (T : Nat) (a x : Operand) : stepD P C ⟨dst, .store T a x, ty, pos, af, g⟩ σ bx K1 = bindD (storeD C.lo (tiOf P T) bx (ev σ a) (ev σ x)) fun bx' => bindD (some (slotW (ev σ a))) fun c => K1 c (put σ dst (.raw undef)) bx' := Eq.trans rfl rfl
@[go_sem ↓] theorem stepD_append (T T' : Nat) (x y : Operand) : stepD P C ⟨dst, .call { callee := .builtin .append, args := #[x, y], argTypes := #[T, T'] }, ty, pos, af, g⟩ σ bx K1 =
    if appIn C.tab dst = true then (C.pn = true ∧ bindD (if T = T' then appQK C.lo (tiOf P) (tiOf P T) (slotO C.base dst) bx (ev σ x) (ev σ y) else none) fun r => K1 .wa (put σ dst r.1.1) r.1.2 ∧ K1 .wa (put σ dst r.2.1) r.2.2)
    else bindD (appD C.lo (tiOf P) T T' (slotO C.base dst) bx (ev σ x) (ev σ y)) fun r => K1 .wa (put σ dst r.1) r.2 := Eq.trans rfl rfl
@[go_sem] theorem appIn_some (tab : List (Nat × List (Nat × Nat))) (d : Tmp) : appIn tab (some d) = litIn tab (2000000 + d) := Eq.trans rfl rfl
@[go_sem] theorem appQK_slice (lo : Nat) (T : TypeId → TI) (e esz b size d : Nat) (ag ag' : Bool) (z : List D) (x y : D) : appQK lo T ⟨.slice e esz b ag, size, ag', z⟩ (some d) bx x y = if (T e).zero.length = esz then (elemsD bx esz y).bind fun ys => if ys = [] then none else appQ lo d e esz b bx x ys else none := Eq.trans rfl rfl
@[go_sem] theorem appD_same (lo : Nat) (T : TypeId → TI) (t : TypeId) (x y : D) : appD lo T t t dst bx x y = appK lo T (T t) dst bx x y := by
  simp only [appD, if_true]
@[go_sem] theorem appK_slice (lo : Nat) (T : TypeId → TI) (e esz b size : Nat) (ag ag' : Bool) (z : List D) (x y : D) : appK lo T ⟨.slice e esz b ag, size, ag', z⟩ dst bx x y = if esz = 0 then none else (elemsD bx esz y).bind fun ys => appendD lo T ⟨.slice e esz b ag, size, ag', z⟩ dst bx x ys := Eq.trans rfl rfl
@[go_sem ↓] theorem stepD_call (fo : Operand) (args : List Operand) (ats : Array TypeId) : stepD P C ⟨dst, .call { callee := .value fo, args := args.toArray, argTypes := ats }, ty, pos, af, g⟩ σ bx K1 =
    callV C (ev σ fo) (args.map (ev σ)) bx fun c d bx' => K1 c (put σ dst d) bx' := by
  simp only [stepD]

theorem call_pure {f : Nat} {ds : List D} {K2 : Cl → D → Bxs → Prop} {d : D} (h : C.o.to f ds d) (hp : D.pureL ds = true) (hk : K2 .n d bx) : callD C f ds bx K2 := .inl ⟨d, hp, h, hk⟩
theorem call_read {f : Nat} {ds ds' : List D} {K2 : Cl → D → Bxs → Prop} {d : D} (h : C.o.to f ds' d) (ho : outL bx ds = some ds') (hb : d.bare = true) (hk : K2 .ra d bx) : callD C f ds bx K2 := .inr (.inl ⟨ds', d, ho, h, hb, hk⟩)
theorem call_frz {f : Nat} {ds ds' : List D} {K2 : Cl → D → Bxs → Prop} {d : D} (h : C.o.to f ds' d) (ho : outL bx ds = some ds') (hlo : C.lo = 0) (hk : K2 .wa d (frzL bx ds)) : callD C f ds bx K2 := .inr (.inr (.inl ⟨ds', d, hlo, ho, h, hk⟩))
theorem call_boxes {f : Nat} {ds : List D} {K2 : Cl → D → Bxs → Prop} {Post : D → Bxs → Prop} (h : C.o.toB f C.nxt ds bx Post fun _ _ => False) (hlo : C.lo = 0) (hk : ∀ d bx', Post d bx' → K2 .wa d bx') : callD C f ds bx K2 := .inr (.inr (.inr ⟨Post, _, hlo, h, fun d bx' hp => .inl (hk d bx' hp), fun _ _ h => h.elim⟩))
theorem call_pan {f : Nat} {ds : List D} {K2 : Cl → D → Bxs → Prop} {Post Pan : D → Bxs → Prop} (h : C.o.toB f C.nxt ds bx Post Pan) (hlo : C.lo = 0) (hk : ∀ d bx', Post d bx' → K2 .wa d bx') (hp : ∀ d bx', Pan d bx' → K2 (.pan d) .undef bx') : callD C f ds bx K2 := .inr (.inr (.inr ⟨Post, Pan, hlo, h, fun d bx' hp => .inl (hk d bx' hp), hp⟩))
/-- what a call that works on my variables hands back is looked at as plain data -/
theorem call_out {f : Nat} {ds : List D} {K2 : Cl → D → Bxs → Prop} {Post Pan : D → Bxs → Prop} (h : C.o.toB f C.nxt ds bx Post Pan) (hlo : C.lo = 0) (hk : ∀ d bx', Post d bx' → ∃ r r', outD bx' d = some r ∧ Weak r r' ∧ K2 .wa r' (frzL bx' [d])) (hp : ∀ d bx', Pan d bx' → K2 (.pan d) .undef bx') : callD C f ds bx K2 := .inr (.inr (.inr ⟨Post, Pan, hlo, h, fun d bx' hp => .inr (hk d bx' hp), hp⟩))

@[go_sem] theorem pickV_true (a b : D) : pickV (.bool true) a b = some a := by simp [pickV]
@[go_sem] theorem pickV_false (a b : D) : pickV (.bool false) a b = some b := by simp [pickV]
@[go_sem] theorem pickV_bb (t a b : Bool) : pickV (.bool t) (.bool a) (.bool b) = some (.bool (if t then a else b)) := by cases t <;> simp [pickV]

@[go_sem] theorem panV_ifc (t : TypeId) (v : D) (f : D → Prop) : panV (.ifc t v) f = f (.ifc t v) := Eq.trans rfl rfl
@[go_sem ↓] theorem stepD_panic (x : Operand) : stepD P C ⟨dst, .panic x, ty, pos, af, g⟩ σ bx K1 = (C.pn = true ∧ panV (ev σ x) fun d => K1 (.pan d) σ bx) := Eq.trans rfl rfl
@[go_sem ↓] theorem step_move (x : Operand) : stepD P C ⟨dst, .move x, ty, pos, af, g⟩ σ bx K1 = bindD (some (ev σ x)) fun v => K1 .n (put σ dst v) bx := Eq.trans rfl rfl
@[go_sem ↓] theorem step_assign (x : Operand) : stepD P C ⟨dst, .assign x, ty, pos, af, g⟩ σ bx K1 = bindD (some (ev σ x)) fun v => K1 .n (put σ dst v) bx := Eq.trans rfl rfl
@[go_sem ↓] theorem step_pick (x y z : Operand) : stepD P C ⟨dst, .pick x y z, ty, pos, af, g⟩ σ bx K1 = bindD (pickV (ev σ x) (ev σ y) (ev σ z)) fun v => K1 .n (put σ dst v) bx := Eq.trans rfl rfl
@[go_sem ↓] theorem step_binOp (op : BinOp) (t t' : Nat) (x y : Operand) : stepD P C ⟨dst, .binOp op t x y t', ty, pos, af, g⟩ σ bx K1 = bindD (binV (tiOf P t) op (ev σ x) (ev σ y) (isNil y)) fun v => K1 .n (put σ dst v) bx := Eq.trans rfl rfl
@[go_sem ↓] theorem isNil_tmp (t : Nat) : isNil (.tmp t) = false := Eq.trans rfl rfl
@[go_sem ↓] theorem isNil_int (k : IntKind) (n : Int) : isNil (.const (.int k n)) = false := Eq.trans rfl rfl
@[go_sem ↓] theorem isNil_bool (b : Bool) : isNil (.const (.bool b)) = false := Eq.trans rfl rfl
@[go_sem ↓] theorem isNil_str (s : ByteArray) : isNil (.const (.string s)) = false := Eq.trans rfl rfl
@[go_sem ↓] theorem isNil_nil : isNil (.const .nilIface) = true := Eq.trans rfl rfl
@[go_sem] theorem binV_false (ti : TI) (op : BinOp) (x y : D) : binV ti op x y false = binD ti op x y := Eq.trans rfl rfl
@[go_sem] theorem binV_eql (size : Nat) (ag : Bool) (z : List D) (x y : D) : binV ⟨.ifc, size, ag, z⟩ .eql x y true = (nilE x).map .bool := Eq.trans rfl rfl
@[go_sem] theorem binV_neq (size : Nat) (ag : Bool) (z : List D) (x y : D) : binV ⟨.ifc, size, ag, z⟩ .neq x y true = (nilE x).map fun b => .bool (!b) := Eq.trans rfl rfl
@[go_sem] theorem nilE_ifc (t : TypeId) (d : D) : nilE (.ifc t d) = some false := Eq.trans rfl rfl
@[go_sem] theorem nilE_nil : nilE (.raw .nilIface) = some true := Eq.trans rfl rfl
@[go_sem] theorem ofV_nilIface : ofV .nilIface = .raw .nilIface := Eq.trans rfl rfl
@[go_sem ↓] theorem step_makeInterface (t : Nat) (x : Operand) : stepD P C ⟨dst, .makeInterface t x, ty, pos, af, g⟩ σ bx K1 = bindD (mkIfc (tiOf P t) t (ev σ x)) fun v => K1 .n (put σ dst v) bx := Eq.trans rfl rfl
@[go_sem ↓] theorem step_typeAssert (t t' : Nat) (ok : Bool) (x : Operand) : stepD P C ⟨dst, .typeAssert x t' t ok, ty, pos, af, g⟩ σ bx K1 = bindD (tassD (tiOf P t) t ok (ev σ x)) fun v => K1 .n (put σ dst v) bx := Eq.trans rfl rfl
def TK.conc : TK → Bool
  | .none | .ifc => false
  | _ => true
@[go_sem] theorem conc_bool : TK.conc .bool = true := Eq.trans rfl rfl
@[go_sem] theorem conc_int (k : IntKind) : TK.conc (.int k) = true := Eq.trans rfl rfl
@[go_sem] theorem conc_str : TK.conc .str = true := Eq.trans rfl rfl
@[go_sem] theorem conc_map (k e : Nat) : TK.conc (.map k e) = true := Eq.trans rfl rfl
@[go_sem] theorem conc_slice (e z b : Nat) (ag : Bool) : TK.conc (.slice e z b ag) = true := Eq.trans rfl rfl
@[go_sem] theorem conc_struct (fs : List (Nat × Nat × Bool)) (eq : List Nat) : TK.conc (.struct fs eq) = true := Eq.trans rfl rfl
@[go_sem] theorem mkIfc_eq (k : TK) (size : Nat) (ag : Bool) (z : List D) (t : TypeId) (x : D) : mkIfc ⟨k, size, ag, z⟩ t x = if k.conc then some (.ifc t x) else none := by cases k <;> rfl
@[go_sem] theorem tassD_ifc (k : TK) (size : Nat) (ag : Bool) (z : List D) (t t' : TypeId) (ok : Bool) (v : D) : tassD ⟨k, size, ag, z⟩ t ok (.ifc t' v) = if k.conc then (if t' = t then some (if ok then .tup [v, .bool true] else v) else if ok && !z.isEmpty then some (.tup [.undef, .bool false]) else none) else none := by cases k <;> rfl
@[go_sem] theorem tassD_nil (k : TK) (size : Nat) (ag : Bool) (z : List D) (t : TypeId) (ok : Bool) : tassD ⟨k, size, ag, z⟩ t ok (.raw .nilIface) = if k.conc then (if ok && !z.isEmpty then some (.tup [.undef, .bool false]) else none) else none := by cases k <;> rfl
@[go_sem] theorem isEmpty_cons {α : Type} (x : α) (l : List α) : (x :: l).isEmpty = false := Eq.trans rfl rfl
@[go_sem ↓] theorem step_unOp (op : UnOp) (t : Nat) (x : Operand) : stepD P C ⟨dst, .unOp op t x, ty, pos, af, g⟩ σ bx K1 = bindD (unD op (ev σ x)) fun v => K1 .n (put σ dst v) bx := Eq.trans rfl rfl
@[go_sem ↓] theorem step_fieldAddr (t i : Nat) (x : Operand) : stepD P C ⟨dst, .fieldAddr t x i, ty, pos, af, g⟩ σ bx K1 = bindD (fieldAddrD (tiOf P t) (ev σ x) i) fun v => K1 .n (put σ dst v) bx := Eq.trans rfl rfl
@[go_sem ↓] theorem step_field (t i : Nat) (x : Operand) : stepD P C ⟨dst, .field t x i, ty, pos, af, g⟩ σ bx K1 = bindD (fieldD (tiOf P t) (ev σ x) i) fun v => K1 .n (put σ dst v) bx := Eq.trans rfl rfl
@[go_sem] theorem atInt_int (k : IntKind) (n : Int) (f : Int → Option D) : atInt (.int k n) f = f n := Eq.trans rfl rfl
@[go_sem ↓] theorem step_indexAddr (t : Nat) (x y : Operand) : stepD P C ⟨dst, .indexAddr t x y, ty, pos, af, g⟩ σ bx K1 = bindD (atInt (ev σ y) (indexAddrD (tiOf P t) (ev σ x))) fun v => K1 .n (put σ dst v) bx := Eq.trans rfl rfl
@[go_sem ↓] theorem step_index (t : Nat) (x y : Operand) : stepD P C ⟨dst, .index t x y, ty, pos, af, g⟩ σ bx K1 = bindD (atInt (ev σ y) (indexD (tiOf P t) (ev σ x))) fun v => K1 .n (put σ dst v) bx := Eq.trans rfl rfl
@[go_sem ↓] theorem step_load (t : Nat) (x : Operand) : stepD P C ⟨dst, .load t x, ty, pos, af, g⟩ σ bx K1 = bindD (loadD (tiOf P t) bx (ev σ x)) fun v => bindD (some (slotR (ev σ x))) fun c => K1 c (put σ dst v) bx := Eq.trans rfl rfl
@[go_sem] theorem atTup_tup (ds : List D) (i : Nat) : atTup (.tup ds) i = ds[i]? := Eq.trans rfl rfl
@[go_sem ↓] theorem step_extract (x : Operand) (i : Nat) : stepD P C ⟨dst, .extract x i, ty, pos, af, g⟩ σ bx K1 = bindD (atTup (ev σ x) i) fun v => K1 .n (put σ dst v) bx := Eq.trans rfl rfl
@[go_sem] theorem optV_some (a b : Option Int) (f : Option Int → Option Int → Option D) : optV (some a) (some b) f = f a b := Eq.trans rfl rfl
@[go_sem] theorem intO_int (k : IntKind) (n : Int) : intO (.int k n) = some (some n) := Eq.trans rfl rfl
@[go_sem] theorem optInt_none : optInt σ none = some none := Eq.trans rfl rfl
@[go_sem] theorem optInt_some (x : Operand) : optInt σ (some x) = intO (ev σ x) := Eq.trans rfl rfl
@[go_sem ↓] theorem step_slice (t : Nat) (x : Operand) (lo hi : Option Operand) : stepD P C ⟨dst, .slice t x lo hi none, ty, pos, af, g⟩ σ bx K1 = bindD (optV (optInt σ lo) (optInt σ hi) (sliceD (tiOf P t) (ev σ x))) fun v => K1 .n (put σ dst v) bx := Eq.trans rfl rfl
@[go_sem ↓] theorem step_build (t : Nat) (ps : List (Nat × Operand)) : stepD P C ⟨dst, .build t ps.toArray, ty, pos, af, g⟩ σ bx K1 = bindD (buildD (tiOf P t) (ps.map fun p => (p.1, ev σ p.2))) fun v => K1 .n (put σ dst v) bx := Eq.trans rfl rfl
@[go_sem ↓] theorem step_buildSlice (t n d : Nat) (ps : List (Nat × Operand)) : stepD P C ⟨some d, .buildSlice t n ps.toArray, ty, pos, af, g⟩ σ bx K1 = if litIn C.tab d = true then (bindD (litXD (tiOf P) (tiOf P t) n (ps.map fun p => (p.1, ev σ p.2))) fun r => K1 (.w (C.base + d)) (upd σ d (.osl (C.base + d) ((bx (C.base + d)).ep + 1) r.1 0 r.2.2.length)) (upd bx (C.base + d) ⟨(bx (C.base + d)).ep + 1, 1, r.1, r.2.1, r.2.2⟩)) else bindD (buildSliceD (tiOf P) (tiOf P t) n (ps.map fun p => (p.1, ev σ p.2))) fun v => K1 .n (put σ (some d) v) bx := Eq.trans rfl rfl
@[go_sem] theorem litIn_nil (d : Nat) : litIn [] d = false := Eq.trans rfl rfl
@[go_sem] theorem litIn_cons (k d : Nat) (l : List (Nat × Nat)) (r : List (Nat × List (Nat × Nat))) : litIn ((k, l) :: r) d = if k = 1000000 + d then true else litIn r d := Eq.trans rfl rfl
attribute [go_sem] Bool.false_eq_true
@[go_sem] theorem nilD_loc (t e i j : Nat) : nilD (.loc t e i j) = some (.loc t e i j) := Eq.trans rfl rfl
@[go_sem] theorem nilD_cref (d : D) (j : Nat) : nilD (.cref d j) = some (.cref d j) := Eq.trans rfl rfl
@[go_sem ↓] theorem step_nilCheck (x : Operand) : stepD P C ⟨dst, .nilCheck x, ty, pos, af, g⟩ σ bx K1 = bindD (nilD (ev σ x)) fun v => K1 .n (put σ dst v) bx := Eq.trans rfl rfl
@[go_sem ↓] theorem step_makeBfn (f : FuncId) (x : Operand) : stepD P C ⟨dst, .makeFunc (.func f) #[x] #[], ty, pos, af, g⟩ σ bx K1 = bindD (some (.bfn f [ev σ x])) fun v => K1 .n (put σ dst v) bx := Eq.trans rfl rfl
@[go_sem ↓] theorem step_makeFunc (f : Fn) (caps : List Operand) : stepD P C ⟨dst, .makeFunc f #[] caps.toArray, ty, pos, af, g⟩ σ bx K1 = bindD (some (.fn f (caps.map (ev σ)))) fun v => K1 .n (put σ dst v) bx := Eq.trans rfl rfl
@[go_sem ↓] theorem step_convert (s d : Nat) (x : Operand) : stepD P C ⟨dst, .convert s d x, ty, pos, af, g⟩ σ bx K1 = bindD (convD (tiOf P) (tiOf P s) (tiOf P d) (ev σ x)) fun v => K1 .n (put σ dst v) bx := Eq.trans rfl rfl
def lenX (C : Calc) (ti : TI) (x : D) (bx : Bxs) (K : Cl → D → Prop) (_ : Tok (K .n .undef) := ⟨⟩) : Prop := match ti.k with
  | .map _ _ => C.pn = true ∧ C.lo = 0 ∧ bindD (lenO bx [x]) (K .wa)
  | _ => bindD (biD .len [ti] [x]) (K .n)
@[go_sem ↓] theorem step_len (T : Nat) (x : Operand) : stepD P C ⟨dst, .call { callee := .builtin .len, args := #[x], argTypes := #[T] }, ty, pos, af, g⟩ σ bx K1 = lenX C (tiOf P T) (ev σ x) bx fun c v => K1 c (put σ dst v) bx := by
  simp only [stepD, stepE, mapOp, lenX, mapS, valD, List.map_cons, List.map_nil]
  cases (tiOf P T).k <;> simp [TK.isMap]
section
variable (size : Nat) (ag : Bool) (z : List D) (x : D) (K : Cl → D → Prop)
@[go_sem] theorem lenX_str : lenX C ⟨.str, size, ag, z⟩ x bx K = bindD (biD .len [⟨.str, size, ag, z⟩] [x]) fun v => K .n v := Eq.trans rfl rfl
@[go_sem] theorem lenX_slice (e sz b : Nat) (g : Bool) : lenX C ⟨.slice e sz b g, size, ag, z⟩ x bx K = bindD (biD .len [⟨.slice e sz b g, size, ag, z⟩] [x]) fun v => K .n v := Eq.trans rfl rfl
@[go_sem] theorem lenX_arr (n sz : Nat) (g : Bool) : lenX C ⟨.arr n sz g, size, ag, z⟩ x bx K = bindD (biD .len [⟨.arr n sz g, size, ag, z⟩] [x]) fun v => K .n v := Eq.trans rfl rfl
@[go_sem] theorem lenX_map (kt et : Nat) : lenX C ⟨.map kt et, size, ag, z⟩ x bx K = (C.pn = true ∧ C.lo = 0 ∧ bindD (lenO bx [x]) fun v => K .wa v) := Eq.trans rfl rfl
end
@[go_sem ↓] theorem step_min (ts : Array TypeId) (x : List Operand) : stepD P C ⟨dst, .call { callee := .builtin .min, args := x.toArray, argTypes := ts }, ty, pos, af, g⟩ σ bx K1 = bindD (minD (x.map (ev σ))) fun v => K1 .n (put σ dst v) bx := Eq.trans rfl rfl
@[go_sem ↓] theorem step_max (ts : Array TypeId) (x : List Operand) : stepD P C ⟨dst, .call { callee := .builtin .max, args := x.toArray, argTypes := ts }, ty, pos, af, g⟩ σ bx K1 = bindD (maxD (x.map (ev σ))) fun v => K1 .n (put σ dst v) bx := Eq.trans rfl rfl

@[go_sem ↓] theorem val_move (x : Operand) : valD P σ bx (.move x) = some (ev σ x) := Eq.trans rfl rfl
@[go_sem ↓] theorem val_assign (x : Operand) : valD P σ bx (.assign x) = some (ev σ x) := Eq.trans rfl rfl
@[go_sem ↓] theorem val_pick (x y z : Operand) : valD P σ bx (.pick x y z) = pickV (ev σ x) (ev σ y) (ev σ z) := Eq.trans rfl rfl
@[go_sem ↓] theorem val_binOp (op : BinOp) (t t' : Nat) (x y : Operand) : valD P σ bx (.binOp op t x y t') = binV (tiOf P t) op (ev σ x) (ev σ y) (isNil y) := Eq.trans rfl rfl
@[go_sem ↓] theorem val_makeInterface (t : Nat) (x : Operand) : valD P σ bx (.makeInterface t x) = mkIfc (tiOf P t) t (ev σ x) := Eq.trans rfl rfl
@[go_sem ↓] theorem val_typeAssert (t t' : Nat) (ok : Bool) (x : Operand) : valD P σ bx (.typeAssert x t' t ok) = tassD (tiOf P t) t ok (ev σ x) := Eq.trans rfl rfl
@[go_sem ↓] theorem val_unOp (op : UnOp) (t : Nat) (x : Operand) : valD P σ bx (.unOp op t x) = unD op (ev σ x) := Eq.trans rfl rfl
@[go_sem ↓] theorem val_fieldAddr (t i : Nat) (x : Operand) : valD P σ bx (.fieldAddr t x i) = fieldAddrD (tiOf P t) (ev σ x) i := Eq.trans rfl rfl
@[go_sem ↓] theorem val_field (t i : Nat) (x : Operand) : valD P σ bx (.field t x i) = fieldD (tiOf P t) (ev σ x) i := Eq.trans rfl rfl
@[go_sem ↓] theorem val_indexAddr (t : Nat) (x y : Operand) : valD P σ bx (.indexAddr t x y) = atInt (ev σ y) (indexAddrD (tiOf P t) (ev σ x)) := Eq.trans rfl rfl
@[go_sem ↓] theorem val_index (t : Nat) (x y : Operand) : valD P σ bx (.index t x y) = atInt (ev σ y) (indexD (tiOf P t) (ev σ x)) := Eq.trans rfl rfl
@[go_sem ↓] theorem val_extract (x : Operand) (i : Nat) : valD P σ bx (.extract x i) = atTup (ev σ x) i := Eq.trans rfl rfl
@[go_sem ↓] theorem val_slice (t : Nat) (x : Operand) (lo hi : Option Operand) : valD P σ bx (.slice t x lo hi none) = optV (optInt σ lo) (optInt σ hi) (sliceD (tiOf P t) (ev σ x)) := Eq.trans rfl rfl
@[go_sem ↓] theorem val_build (t : Nat) (ps : List (Nat × Operand)) : valD P σ bx (.build t ps.toArray) = buildD (tiOf P t) (ps.map fun p => (p.1, ev σ p.2)) := Eq.trans rfl rfl
@[go_sem ↓] theorem val_nilCheck (x : Operand) : valD P σ bx (.nilCheck x) = nilD (ev σ x) := Eq.trans rfl rfl
@[go_sem ↓] theorem val_makeBfn (f : FuncId) (x : Operand) : valD P σ bx (.makeFunc (.func f) #[x] #[]) = some (.bfn f [ev σ x]) := Eq.trans rfl rfl
@[go_sem ↓] theorem val_makeFunc (f : Fn) (caps : List Operand) : valD P σ bx (.makeFunc f #[] caps.toArray) = some (.fn f (caps.map (ev σ))) := Eq.trans rfl rfl
@[go_sem ↓] theorem val_convert (s d : Nat) (x : Operand) : valD P σ bx (.convert s d x) = convD (tiOf P) (tiOf P s) (tiOf P d) (ev σ x) := Eq.trans rfl rfl
/-! Values -/
variable {ti : TI}
@[go_sem] theorem binD_int (op : BinOp) (k : IntKind) (a b : Int) : binD ti op (.int k a) (.int k b) = intD op k a b := by simp [binD]
@[go_sem] theorem binD_str (op : BinOp) (a b : List UInt8) : binD ti op (.str a) (.str b) = strD op a b := by simp [binD]
@[go_sem] theorem intD_add (k : IntKind) (a b : Int) : intD .add k a b = some (.int k (k.wrap (a + b))) := Eq.trans rfl rfl
@[go_sem] theorem intD_sub (k : IntKind) (a b : Int) : intD .sub k a b = some (.int k (k.wrap (a - b))) := Eq.trans rfl rfl
@[go_sem] theorem intD_mul (k : IntKind) (a b : Int) : intD .mul k a b = some (.int k (k.wrap (a * b))) := Eq.trans rfl rfl
@[go_sem] theorem intD_quo (k : IntKind) (a b : Int) (h : b ≠ 0) : intD .quo k a b = some (.int k (k.wrap (a.tdiv b))) := by simp [intD, h]
@[go_sem] theorem intD_rem (k : IntKind) (a b : Int) (h : b ≠ 0) : intD .rem k a b = some (.int k (a.tmod b)) := by simp [intD, h]
@[go_sem] theorem intD_eql (k : IntKind) (a b : Int) : intD .eql k a b = some (.bool (decide (a = b))) := by simp [intD, cmpD]; rfl
@[go_sem] theorem intD_neq (k : IntKind) (a b : Int) : intD .neq k a b = some (.bool (!decide (a = b))) := by simp [intD, cmpD, bne]; rfl
@[go_sem] theorem intD_lss (k : IntKind) (a b : Int) : intD .lss k a b = some (.bool (decide (a < b))) := Eq.trans rfl rfl
@[go_sem] theorem intD_leq (k : IntKind) (a b : Int) : intD .leq k a b = some (.bool (decide (a ≤ b))) := Eq.trans rfl rfl
@[go_sem] theorem intD_gtr (k : IntKind) (a b : Int) : intD .gtr k a b = some (.bool (decide (b < a))) := Eq.trans rfl rfl
@[go_sem] theorem intD_geq (k : IntKind) (a b : Int) : intD .geq k a b = some (.bool (decide (b ≤ a))) := Eq.trans rfl rfl
@[go_sem] theorem strD_eql (a b : List UInt8) : strD .eql a b = some (.bool (decide (a = b))) := by by_cases h : a = b <;> simp [strD, h]
@[go_sem] theorem strD_neq (a b : List UInt8) : strD .neq a b = some (.bool (!decide (a = b))) := by by_cases h : a = b <;> simp [strD, h]
@[go_sem] theorem strD_add (a b : List UInt8) (h : a.length + b.length ≤ 9223372036854775807) : strD .add a b = some (.str (a ++ b)) := by simp [strD, h]
@[go_sem] theorem binD_agg_eql (a b : List D) : binD ti .eql (.agg a) (.agg b) = (eqD ti (.agg a) (.agg b)).map .bool := Eq.trans rfl rfl
@[go_sem] theorem binD_agg_neq (a b : List D) : binD ti .neq (.agg a) (.agg b) = (eqD ti (.agg a) (.agg b)).map fun x => .bool (!x) := Eq.trans rfl rfl
@[go_sem] theorem binD_bool_eql (size : Nat) (ag : Bool) (z : List D) (a b : Bool) : binD ⟨.bool, size, ag, z⟩ .eql (.bool a) (.bool b) = some (.bool (a == b)) := Eq.trans rfl rfl
@[go_sem] theorem binD_bool_neq (size : Nat) (ag : Bool) (z : List D) (a b : Bool) : binD ⟨.bool, size, ag, z⟩ .neq (.bool a) (.bool b) = some (.bool (!(a == b))) := Eq.trans rfl rfl
@[go_sem] theorem eqD_agg (fs : List (Nat × Nat × Bool)) (k : Nat) (ks : List Nat) (size : Nat) (ag : Bool) (z a b : List D) : eqD ⟨.struct fs (k :: ks), size, ag, z⟩ (.agg a) (.agg b) = if kindsOk (k :: ks) a then eqL a b else none := Eq.trans rfl rfl
@[go_sem] theorem kindsOk_nil : kindsOk [] [] = true := by simp [kindsOk]
@[go_sem] theorem kindsOk_1 (ks : List Nat) (b : Bool) (ds : List D) : kindsOk (1 :: ks) (.bool b :: ds) = kindsOk ks ds := by simp [kindsOk]
@[go_sem] theorem kindsOk_2 (ks : List Nat) (k : IntKind) (n : Int) (ds : List D) : kindsOk (2 :: ks) (.int k n :: ds) = kindsOk ks ds := by simp [kindsOk]
@[go_sem] theorem kindsOk_3 (ks : List Nat) (s : List UInt8) (ds : List D) : kindsOk (3 :: ks) (.str s :: ds) = kindsOk ks ds := by simp [kindsOk]
def andO (a : Bool) (x : Option Bool) : Option Bool := x.map fun b => a && b
@[go_sem] theorem andO_some (a b : Bool) : andO a (some b) = some (a && b) := Eq.trans rfl rfl
@[go_sem] theorem eqL_nil : eqL [] [] = some true := by simp [eqL]
@[go_sem] theorem eqL_int (k : IntKind) (m n : Int) (xs ys : List D) : eqL (.int k m :: xs) (.int k n :: ys) = andO (decide (m = n)) (eqL xs ys) := by
  simp only [eqL, eqC, if_true, andO]
  by_cases h : m = n
  · subst h; cases eqL xs ys <;> simp
  · have : (m == n) = false := by simp [h]
    simp only [this, h, decide_false]; cases eqL xs ys <;> simp
@[go_sem] theorem eqL_bool (m n : Bool) (xs ys : List D) : eqL (.bool m :: xs) (.bool n :: ys) = andO (decide (m = n)) (eqL xs ys) := by
  simp only [eqL, eqC, andO]
  by_cases h : m = n
  · subst h; cases eqL xs ys <;> simp
  · have : (m == n) = false := by simp [h]
    simp only [this, h, decide_false]; cases eqL xs ys <;> simp
@[go_sem] theorem eqL_str (m n : List UInt8) (xs ys : List D) : eqL (.str m :: xs) (.str n :: ys) = andO (decide (m = n)) (eqL xs ys) := by
  simp only [eqL, eqC, andO]
  by_cases h : m = n
  · subst h; cases eqL xs ys <;> simp
  · have : (m == n) = false := by simp [h]
    simp only [this, h, decide_false]; cases eqL xs ys <;> simp
@[go_sem] theorem unD_not (b : Bool) : unD .not (.bool b) = some (.bool (!b)) := Eq.trans rfl rfl
@[go_sem] theorem unD_neg (k : IntKind) (n : Int) : unD .neg (.int k n) = some (.int k (k.wrap (0 - n))) := Eq.trans rfl rfl
theorem wrap_i64 {n : Int} (h1 : -9223372036854775808 ≤ n) (h2 : n ≤ 9223372036854775807) : IntKind.i64.wrap n = n := IntWalk.i64_in n ⟨by omega, by omega⟩

@[go_sem] theorem shiftD_loc (t e i j o : Nat) : shiftD (.loc t e i j) o = some (.loc t e i (j + o)) := Eq.trans rfl rfl
@[go_sem] theorem shiftD_cref (d : D) (j o : Nat) : shiftD (.cref d j) o = some (.cref d (j + o)) := Eq.trans rfl rfl
def fldD (x : D) : Option (Nat × Nat × Bool) → Option D
  | some (off, sz, _) => if sz = 0 then none else shiftD x off
  | none => none
@[go_sem] theorem fldD_some (x : D) (off sz : Nat) (b : Bool) : fldD x (some (off, sz, b)) = if sz = 0 then none else shiftD x off := Eq.trans rfl rfl
@[go_sem] theorem fieldAddrD_struct (fs : List (Nat × Nat × Bool)) (eq : List Nat) (size : Nat) (ag : Bool) (z : List D) (x : D) (i : Nat) : fieldAddrD ⟨.struct fs eq, size, ag, z⟩ x i = fldD x fs[i]? := Eq.trans rfl rfl
def fldV (ds : List D) : Option (Nat × Nat × Bool) → Option D
  | some (off, sz, ag) => if sz = 0 then none else pickD (.agg ds) off ag sz
  | none => none
@[go_sem] theorem fldV_some (x : List D) (off sz : Nat) (b : Bool) : fldV x (some (off, sz, b)) = if sz = 0 then none else pickD (.agg x) off b sz := Eq.trans rfl rfl
@[go_sem] theorem fieldD_struct (fs : List (Nat × Nat × Bool)) (eq : List Nat) (size : Nat) (ag : Bool) (z : List D) (ds : List D) (i : Nat) : fieldD ⟨.struct fs eq, size, ag, z⟩ (.agg ds) i = fldV ds fs[i]? := Eq.trans rfl rfl
@[go_sem] theorem pickD_false (d : D) (j k : Nat) : pickD d j false k = d.cells[j]? := by simp [pickD]
@[go_sem] theorem pickD_true (d : D) (j k : Nat) : pickD d j true k = if j + k ≤ d.cells.length then some (.agg ((d.cells.drop j).take k)) else none := by simp [pickD]
@[go_sem] theorem cells_agg (ds : List D) : (D.agg ds).cells = ds := Eq.trans rfl rfl
@[go_sem] theorem cells_int (k : IntKind) (n : Int) : (D.int k n).cells = [.int k n] := Eq.trans rfl rfl
@[go_sem] theorem cells_bool (b : Bool) : (D.bool b).cells = [.bool b] := Eq.trans rfl rfl
@[go_sem] theorem cells_str (s : List UInt8) : (D.str s).cells = [.str s] := Eq.trans rfl rfl
@[go_sem] theorem cells_raw (x : Value) : (D.raw x).cells = [.raw x] := Eq.trans rfl rfl
@[go_sem] theorem cells_nilsl : D.nilsl.cells = [.nilsl] := Eq.trans rfl rfl
@[go_sem] theorem cells_sl (sz : Nat) (es : List D) : (D.sl sz es).cells = [.sl sz es] := Eq.trans rfl rfl
@[go_sem] theorem cells_osl (t e sz o n : Nat) : (D.osl t e sz o n).cells = [.osl t e sz o n] := Eq.trans rfl rfl
@[go_sem] theorem cells_loc (t e i j : Nat) : (D.loc t e i j).cells = [.loc t e i j] := Eq.trans rfl rfl
@[go_sem] theorem cells_cref (d : D) (j : Nat) : (D.cref d j).cells = [.cref d j] := Eq.trans rfl rfl
@[go_sem] theorem cells_bfn (f : FuncId) (ds : List D) : (D.bfn f ds).cells = [.bfn f ds] := Eq.trans rfl rfl
@[go_sem] theorem cells_fn (f : Fn) (ds : List D) : (D.fn f ds).cells = [.fn f ds] := Eq.trans rfl rfl
@[go_sem] theorem cells_ifc (t : TypeId) (d : D) : (D.ifc t d).cells = [.ifc t d] := Eq.trans rfl rfl
@[go_sem] theorem indexAddrD_sl (e esz b size : Nat) (ag ag' : Bool) (z : List D) (es : List D) (n : Int) (h : 0 ≤ n) (h2 : 0 < esz) : indexAddrD ⟨.slice e esz b ag, size, ag', z⟩ (.sl esz es) n = (es[n.toNat]?).map fun d => .cref d 0 := by
  simp [indexAddrD, h, h2]
@[go_sem] theorem indexAddrD_osl (e esz b size : Nat) (ag ag' : Bool) (z : List D) (t e' o len : Nat) (n : Int) (h : 0 ≤ n) (h' : n < len) (h2 : 0 < esz) : indexAddrD ⟨.slice e esz b ag, size, ag', z⟩ (.osl t e' esz o len) n = some (.loc t e' (o + n.toNat) 0) := by
  simp [indexAddrD, h, h', h2]
@[go_sem] theorem indexD_str (size : Nat) (ag : Bool) (z : List D) (s : List UInt8) (n : Int) (h : 0 ≤ n) : indexD ⟨.str, size, ag, z⟩ (.str s) n = (s[n.toNat]?).map fun b => .int .u8 (b.toNat : Int) := by simp [indexD, h]
@[go_sem] theorem loadD_cref (k : TK) (size : Nat) (ag : Bool) (z : List D) (d : D) (j : Nat) (h : 0 < size) : loadD ⟨k, size, ag, z⟩ bx (.cref d j) = pickD d j ag size := by simp [loadD, h]
def bxAt (b : Bx) (e i : Nat) (f : D → Option D) : Option D := if b.ep = e ∧ lv b.k then (b.es[i]?).bind f else none
@[go_sem] theorem loadD_loc (k : TK) (size : Nat) (ag : Bool) (z : List D) (t e i j : Nat) (h : 0 < size) : loadD ⟨k, size, ag, z⟩ bx (.loc t e i j) = bxAt (bx t) e i fun d => pickD d j ag size := by
  simp [loadD, bxAt, h]
@[go_sem] theorem bxAt_same (e sz ty i : Nat) (es : List D) (f : D → Option D) : bxAt ⟨e, 1, sz, ty, es⟩ e i f = (es[i]?).bind f := by simp [bxAt, lv1, lv2]
@[go_sem] theorem bxAt_frz (e sz ty i : Nat) (es : List D) (f : D → Option D) : bxAt ⟨e, 2, sz, ty, es⟩ e i f = (es[i]?).bind f := by simp [bxAt, lv1, lv2]
@[go_sem] theorem storeD_loc (lo : Nat) (k : TK) (size : Nat) (ag : Bool) (z : List D) (t e i j : Nat) (v : D) (h : 0 < size) : storeD lo ⟨k, size, ag, z⟩ bx (.loc t e i j) v = if lo ≤ t then (if v.cells.length = size then (if v.cells.all D.one then bxSet bx t (bx t) e i j v.cells else none) else none) else none := by
  unfold storeD
  cases h2 : v.cells.all D.one <;> by_cases h1 : v.cells.length = size <;> by_cases h3 : lo ≤ t <;> simp_all
def bxSet1 (bx : Bxs) (t e sz ty i : Nat) (es : List D) (x : Option D) : Option Bxs := x.map fun d' => upd bx t ⟨e, 1, sz, ty, es.set i d'⟩
@[go_sem] theorem bxSet_same (t e sz ty i j : Nat) (es cs : List D) : bxSet bx t ⟨e, 1, sz, ty, es⟩ e i j cs = bxSet1 bx t e sz ty i es ((es[i]?).bind fun d0 => setD d0 j cs) := by
  simp only [bxSet, bxSet1]
  cases es[i]? <;> simp
@[go_sem] theorem bxSet1_some (t e sz ty i : Nat) (es : List D) (d' : D) : bxSet1 bx t e sz ty i es (some d') = some (upd bx t ⟨e, 1, sz, ty, es.set i d'⟩) := by simp [bxSet1]
@[go_sem] theorem setD_agg (ds cs : List D) (j : Nat) : setD (.agg ds) j cs = if j + cs.length ≤ ds.length then some (.agg (ds.take j ++ cs ++ ds.drop (j + cs.length))) else none := by
  simp [setD, D.cells]
@[go_sem] theorem setD_int (k : IntKind) (n : Int) (c : D) : setD (.int k n) 0 [c] = some c := by simp [setD, D.cells]
@[go_sem] theorem setD_bool (b : Bool) (c : D) : setD (.bool b) 0 [c] = some c := by simp [setD, D.cells]
@[go_sem] theorem setD_str (s : List UInt8) (c : D) : setD (.str s) 0 [c] = some c := by simp [setD, D.cells]
@[go_sem] theorem setD_raw (x : Value) (c : D) : setD (.raw x) 0 [c] = some c := by simp [setD, D.cells]
@[go_sem] theorem setD_nilsl (c : D) : setD .nilsl 0 [c] = some c := by simp [setD, D.cells]
@[go_sem] theorem setD_sl (sz : Nat) (es : List D) (c : D) : setD (.sl sz es) 0 [c] = some c := by simp [setD, D.cells]
@[go_sem] theorem setD_osl (t e sz o n : Nat) (c : D) : setD (.osl t e sz o n) 0 [c] = some c := by simp [setD, D.cells]
@[go_sem] theorem mkD_true (cs : List D) : mkD true cs = .agg cs := by simp [mkD]
@[go_sem] theorem mkD_false (c : D) (cs : List D) : mkD false (c :: cs) = c := by simp [mkD]
@[go_sem] theorem biD_len (ti : TI) (x : D) : biD .len [ti] [x] = (lenD ti.k x).map fun n : Nat => D.int .i64 (n : Int) := Eq.trans rfl rfl
@[go_sem] theorem lenD_str (s : List UInt8) : lenD .str (.str s) = some s.length := Eq.trans rfl rfl
@[go_sem] theorem lenD_sl (e z b : Nat) (ag : Bool) (sz : Nat) (es : List D) : lenD (.slice e z b ag) (.sl sz es) = some es.length := Eq.trans rfl rfl
@[go_sem] theorem lenD_nil (e z b : Nat) (ag : Bool) : lenD (.slice e z b ag) .nilsl = some 0 := Eq.trans rfl rfl
@[go_sem] theorem lenD_osl (e z b : Nat) (ag : Bool) (t e' sz o n : Nat) : lenD (.slice e z b ag) (.osl t e' sz o n) = some n := Eq.trans rfl rfl
@[go_sem] theorem lenD_arr (n z : Nat) (ag : Bool) (x : D) : lenD (.arr n z ag) x = some n := Eq.trans rfl rfl
@[go_sem] theorem minD_int (k : IntKind) (a b : Int) : minD [.int k a, .int k b] = some (.int k (min a b)) := by
  simp only [minD, if_true]
  congr 2
  split <;> omega
@[go_sem] theorem maxD_int (k : IntKind) (a b : Int) : maxD [.int k a, .int k b] = some (.int k (max a b)) := by
  simp only [maxD, if_true]
  congr 2
  split <;> omega
@[go_sem] theorem convD_int (T : TypeId → TI) (k k' : IntKind) (s s' : Nat) (g g' : Bool) (z z' : List D) (k0 : IntKind) (n : Int) : convD T ⟨.int k0, s, g, z⟩ ⟨.int k, s', g', z'⟩ (.int k' n) = some (.int k (k.wrap n)) := Eq.trans rfl rfl
@[go_sem] theorem convD_str (T : TypeId → TI) (s s' : Nat) (g g' : Bool) (z z' : List D) (x : List UInt8) : convD T ⟨.str, s, g, z⟩ ⟨.str, s', g', z'⟩ (.str x) = some (.str x) := Eq.trans rfl rfl
@[go_sem] theorem sliceD_sl (e esz b size : Nat) (ag ag' : Bool) (z : List D) (es : List D) (lo hi : Option Int) (hz : 0 < esz) : sliceD ⟨.slice e esz b ag, size, ag', z⟩ (.sl esz es) lo hi = (cutD es.length lo hi).map fun p => .sl esz ((es.drop p.1).take (p.2 - p.1)) := by simp [sliceD, hz]
@[go_sem] theorem sliceD_osl (e esz b size : Nat) (ag ag' : Bool) (z : List D) (t e' o n : Nat) (lo hi : Option Int) (hz : 0 < esz) : sliceD ⟨.slice e esz b ag, size, ag', z⟩ (.osl t e' esz o n) lo hi = (cutD n lo hi).map fun p => .osl t e' esz (o + p.1) (p.2 - p.1) := by simp [sliceD, hz]
@[go_sem] theorem sliceD_str (size : Nat) (ag : Bool) (z : List D) (s : List UInt8) (lo hi : Option Int) : sliceD ⟨.str, size, ag, z⟩ (.str s) lo hi = (cutD s.length lo hi).map fun p => .str ((s.drop p.1).take (p.2 - p.1)) := by simp [sliceD]
@[go_sem] theorem cutD_hi (len : Nat) (h : Int) (h0 : 0 ≤ h) (h1 : h ≤ len) : cutD len none (some h) = some (0, h.toNat) := by simp [cutD, h0, h1]
@[go_sem] theorem cutD_lo (len : Nat) (l : Int) (h0 : 0 ≤ l) (h1 : l ≤ len) : cutD len (some l) none = some (l.toNat, len) := by simp [cutD, h0, h1]
@[go_sem] theorem cutD_both (len : Nat) (l h : Int) (h0 : 0 ≤ l) (h1 : l ≤ h) (h2 : h ≤ len) : cutD len (some l) (some h) = some (l.toNat, h.toNat) := by simp [cutD, h0, h1, h2]
@[go_sem] theorem elemsD_nil (esz : Nat) : elemsD bx esz .nilsl = some [] := Eq.trans rfl rfl
@[go_sem] theorem elemsD_sl (esz : Nat) (es : List D) : elemsD bx esz (.sl esz es) = some es := by simp [elemsD]
@[go_sem] theorem buildD_eq (fs : List (Nat × Nat × Bool)) (eq : List Nat) (size : Nat) (ag : Bool) (z : List D) (ps : List (Nat × D)) (h : 0 < size) : buildD ⟨.struct fs eq, size, ag, z⟩ ps = if z.length = size then (if fs.all (fun f => decide (0 < f.2.1)) = true then (buildL fs z ps).map .agg else none) else none := by
  simp only [buildD, h, true_and, ite_and2]
@[go_sem] theorem buildD_arr (n esz : Nat) (eag : Bool) (size : Nat) (ag : Bool) (z : List D) (ps : List (Nat × D)) (h : 0 < size) (h2 : 0 < esz) : buildD ⟨.arr n esz eag, size, ag, z⟩ ps = if z.length = size then (buildL ((List.range n).map fun i => (i * esz, esz, eag)) z ps).map .agg else none := by
  simp only [buildD, h, h2, and_true]
def bldO (fs : List (Nat × Nat × Bool)) (cs : List D) (d : D) (ps : List (Nat × D)) : Option (Nat × Nat × Bool) → Option (List D)
  | some (off, sz, _) => if d.cells.length = sz then (if off + sz ≤ cs.length then (if d.cells.all D.one then buildL fs (cs.take off ++ d.cells ++ cs.drop (off + sz)) ps else none) else none) else none
  | none => none
@[go_sem] theorem buildL_nil (fs : List (Nat × Nat × Bool)) (cs : List D) : buildL fs cs [] = some cs := Eq.trans rfl rfl
@[go_sem] theorem buildL_cons (fs : List (Nat × Nat × Bool)) (cs : List D) (i : Nat) (d : D) (ps : List (Nat × D)) : buildL fs cs ((i, d) :: ps) = bldO fs cs d ps fs[i]? := by
  simp only [buildL, bldO]
  cases fs[i]? with
  | none => rfl
  | some x =>
    obtain ⟨off, sz, g⟩ := x
    simp only
    cases h2 : d.cells.all D.one <;> by_cases h1 : d.cells.length = sz <;> by_cases h3 : off + sz ≤ cs.length <;> simp_all
@[go_sem] theorem bldO_some (fs : List (Nat × Nat × Bool)) (cs : List D) (d : D) (ps : List (Nat × D)) (off sz : Nat) (g : Bool) : bldO fs cs d ps (some (off, sz, g)) = if d.cells.length = sz then (if off + sz ≤ cs.length then (if d.cells.all D.one then buildL fs (cs.take off ++ d.cells ++ cs.drop (off + sz)) ps else none) else none) else none := Eq.trans rfl rfl
@[go_sem] theorem buildSliceD_eq (T : TypeId → TI) (e esz b size : Nat) (ag ag' : Bool) (z : List D) (len : Nat) (ps : List (Nat × D)) (h3 : 0 < esz) (h4 : len * esz ≤ 65536) : buildSliceD T ⟨.slice e esz b ag, size, ag', z⟩ len ps = if ps.map (·.1) = List.range len then (if ps.all (fun p => p.2.cells.length == esz && p.2.cells.all D.one && p.2.pure) = true then (if (T e).zero.length = esz then some (.sl esz (ps.map (·.2))) else none) else none) else none := by
  simp only [buildSliceD, h3, h4, true_and, ite_and2]
@[go_sem] theorem litXD_eq (T : TypeId → TI) (e esz b size : Nat) (ag ag' : Bool) (z : List D) (len : Nat) (ps : List (Nat × D)) (h3 : 0 < esz) (h4 : len * esz ≤ 65536) : litXD T ⟨.slice e esz b ag, size, ag', z⟩ len ps = if ps.map (·.1) = List.range len then (if ps.all (fun p => p.2.cells.length == esz && p.2.cells.all D.one) = true then (if (T e).zero.length = esz then some (esz, e, ps.map (·.2)) else none) else none) else none := by
  simp only [litXD, h3, h4, true_and, ite_and2]
@[go_sem] theorem range_0 : List.range 0 = [] := Eq.trans rfl rfl
@[go_sem] theorem range_1 : List.range 1 = [0] := Eq.trans rfl rfl
@[go_sem] theorem range_2 : List.range 2 = [0, 1] := Eq.trans rfl rfl
@[go_sem] theorem range_3 : List.range 3 = [0, 1, 2] := Eq.trans rfl rfl
@[go_sem] theorem range_4 : List.range 4 = [0, 1, 2, 3] := Eq.trans rfl rfl
@[go_sem] theorem range_5 : List.range 5 = [0, 1, 2, 3, 4] := Eq.trans rfl rfl
attribute [go_sem] beq_self_eq_true
/-- x is a slice of the activation's own (or nil) that holds xs, its variable one of the slots ts -/
def OwnV (bx : Bxs) (ts : List Nat) (el esz : Nat) (x : D) (xs : List D) : Prop :=
  (x = .nilsl ∧ xs = []) ∨ ∃ t e, t ∈ ts ∧ x = .osl t e esz 0 xs.length ∧ bx t = ⟨e, 1, esz, el, xs⟩
theorem OwnV.nil (bx : Bxs) (ts : List Nat) (el esz : Nat) : OwnV bx ts el esz .nilsl [] := .inl ⟨rfl, rfl⟩
theorem OwnV.mk {bx : Bxs} {ts : List Nat} {el esz t e : Nat} {xs : List D} (ht : t ∈ ts) (h : bx t = ⟨e, 1, esz, el, xs⟩) : OwnV bx ts el esz (.osl t e esz 0 xs.length) xs := .inr ⟨t, e, ht, rfl, h⟩
theorem OwnV.of {bx bx' : Bxs} {ts : List Nat} {el esz : Nat} {x : D} {xs : List D} (h : OwnV bx ts el esz x xs) (hb : ∀ t, t ∈ ts → bx' t = bx t) : OwnV bx' ts el esz x xs := by
  rcases h with h | ⟨t, e, ht, hx, h⟩
  · exact .inl h
  · exact .inr ⟨t, e, ht, hx, by rw [hb t ht]; exact h⟩
theorem OwnV.len {bx : Bxs} {ts : List Nat} {el esz : Nat} {x : D} {xs : List D} (h : OwnV bx ts el esz x xs) (e b : Nat) (ag : Bool) : lenD (.slice e esz b ag) x = some xs.length := by
  rcases h with ⟨rfl, rfl⟩ | ⟨t, e', _, rfl, _⟩ <;> rfl
/-- append onto a slice of the activation's own -/
theorem append_own {lo : Nat} {T : TypeId → TI} {e esz b size d : Nat} {ag ag' : Bool} {z : List D} {x : D} {xs ys : List D} {ts : List Nat} {K2 : D × Bxs → Prop} (hx : OwnV bx ts e esz x xs) (hne : ys ≠ []) (hz : (T e).zero.length = esz)
    (h1 : (xs.length + ys.length) * b ≤ 140737488355328) (h2 : 0 < esz) (h3 : 0 < b) (hlo : ∀ t, t ∈ ts → lo ≤ t)
    (hk : ∀ (e' : Nat) (bx' : Bxs), bx' d = ⟨e', 1, esz, e, xs ++ ys⟩ → (∀ s, s ≠ d → s ∉ ts → bx' s = bx s) → K2 (.osl d e' esz 0 (xs ++ ys).length, bx')) :
    bindD (appendD lo T ⟨.slice e esz b ag, size, ag', z⟩ (some d) bx x ys) K2 := by
  rcases hx with ⟨rfl, rfl⟩ | ⟨t, e', ht, rfl, hb⟩
  · simp only [appendD, hne, if_false, hz, if_true, appX]
    rw [if_pos ⟨by simpa using h1, h2, h3⟩, bindD_some]
    have := hk ((bx d).ep + 1) (upd bx d ⟨(bx d).ep + 1, 1, esz, e, ys⟩) (by simp [upd]) (fun s hs _ => by simp [upd, hs])
    simpa using this
  · simp only [appendD, hne, if_false, hz, if_true, appX, appO, hb]
    rw [if_pos ⟨hlo t ht, trivial, trivial, trivial, trivial, trivial, trivial, Nat.le_refl _, h1, h2, h3⟩, bindD_some]
    have := hk ((bx d).ep + 1) (upd (upd bx t ⟨e', 0, esz, e, xs⟩) d ⟨(bx d).ep + 1, 1, esz, e, xs ++ ys⟩) (by simp [upd]) (fun s hs hst => by
      have : s ≠ t := by rintro rfl; exact hst ht
      simp [upd, hs, this])
    simpa using this
/-- and of nothing -/
theorem append_none {lo : Nat} {T : TypeId → TI} {e esz b size d : Nat} {ag ag' : Bool} {z : List D} {x : D} {xs : List D} {ts : List Nat} {K2 : D × Bxs → Prop} (hx : OwnV bx ts e esz x xs) (hk : K2 (x, bx)) :
    bindD (appendD lo T ⟨.slice e esz b ag, size, ag', z⟩ (some d) bx x []) K2 := by
  rcases hx with ⟨rfl, rfl⟩ | ⟨t, e', ht, rfl, hb⟩ <;> simpa [appendD, slO, bindD_some] using hk

end Go.V

namespace Go.V
open Go.RowKit

/-- Of an activation's own variable (slot, epoch): its block, how many elements have room in it, the cells of an element, the element's type. -/
structure Place where
  b : Nat
  cap : Nat
  sz : Nat
  ty : TypeId

/-- Where the variables lie; what lies in blocks that hold no cells. -/
structure Rho where
  at_ : Nat → Nat → Option Place
  hold : Nat → Option Obj

instance : CoeFun Rho (fun _ => Nat → Nat → Option Place) := ⟨Rho.at_⟩

def Obj.isC : Obj → Bool
  | .cells .. => true
  | _ => false

/-- A block of cells lies as it lay. -/
def SameC (w w' : World) (b : Nat) : Prop := ∀ o, w.heap[b]? = some o → Obj.isC o = true → w'.heap[b]? = some o

theorem SameC.of_eq {w w' : World} {b : Nat} (h : w'.heap[b]? = w.heap[b]?) : SameC w w' b := fun _ ho _ => h.trans ho

theorem SameC.cell {w w' : World} {b o : Nat} {v : Value} (h : SameC w w' b) (hc : w.cell? ⟨b, o, none⟩ = some v) : w'.cell? ⟨b, o, none⟩ = some v := by
  unfold World.cell? at hc ⊢
  split at hc
  · rename_i hb
    have := h _ hb rfl
    simp only at this hb ⊢
    rw [this]; exact hc
  · cases hc

/-- v represents d; all memory that it leads to lies in blocks of S. -/
inductive PRep (w : World) (S : Nat → Prop) : D → Value → Prop where
  | undef (v : Value) : PRep w S .undef v
  | any (ds : List D) (v : Value) : PRep w S (.any ds) v
  | glo (v : Value) (h : ∀ b d, glob b = some d → PRep w S (.cref d 0) (.pointer (some ⟨b, 0, none⟩))) (hc : ∀ b cs, globC b = some cs → S b ∧ ∃ ty sp, w.heap[b]? = some (.cells cs ty sp)) : PRep w S .glo v
  | int (k : IntKind) (n : Int) : PRep w S (.int k n) (.int k n)
  | bool (b : Bool) : PRep w S (.bool b) (.bool b)
  | str (l : List UInt8) : PRep w S (.str l) (.string ⟨l.toArray⟩)
  | raw (x : Value) : PRep w S (.raw x) x
  | nilsl : PRep w S .nilsl (.slice none 0 0)
  | agg {ds : List D} {vs : Array Value} (hl : vs.size = ds.length) (h : ∀ (i : Nat) d v, ds[i]? = some d → vs[i]? = some v → PRep w S d v) : PRep w S (.agg ds) (.agg vs)
  | tup {ds : List D} {vs : Array Value} (hl : vs.size = ds.length) (h : ∀ (i : Nat) d v, ds[i]? = some d → vs[i]? = some v → PRep w S d v) : PRep w S (.tup ds) (.tuple vs)
  | sl {sz : Nat} {es : List D} {A : Option Addr} {n cap b off : Nat} {us : Nat → Nat → Value} (hn : n = es.length) (hcap : n ≤ cap) (hmax : cap ≤ maxLen) (hA : es ≠ [] → A = some ⟨b, off, none⟩ ∧ S b)
      (hsz : ∀ (i : Nat) d, es[i]? = some d → d.cells.length = sz)
      (hc : ∀ (i : Nat) d (j : Nat) c, es[i]? = some d → d.cells[j]? = some c → w.cell? ⟨b, off + i * sz + j, none⟩ = some (us i j))
      (h1 : ∀ (i : Nat) d (j : Nat) c, es[i]? = some d → d.cells[j]? = some c → (us i j).oneCell' = true)
      (hr : ∀ (i : Nat) d (j : Nat) c, es[i]? = some d → d.cells[j]? = some c → PRep w S c (us i j)) : PRep w S (.sl sz es) (.slice A n cap)
  | cref {d : D} {j b off p : Nat} {us : Nat → Value} (hS : S b) (hp : p = off + j)
      (hc : ∀ (m : Nat) c, d.cells[m]? = some c → w.cell? ⟨b, off + m, none⟩ = some (us m))
      (h1 : ∀ (m : Nat) c, d.cells[m]? = some c → (us m).oneCell' = true)
      (hr : ∀ (m : Nat) c, d.cells[m]? = some c → PRep w S c (us m)) : PRep w S (.cref d j) (.pointer (some ⟨b, p, none⟩))
  | fn {f : Fn} {caps : List D} {vs : Array Value} (hl : vs.size = caps.length) (h : ∀ (i : Nat) d v, caps[i]? = some d → vs[i]? = some v → PRep w S d v) : PRep w S (.fn f caps) (.func f #[] vs)
  | bfn {f : FuncId} {caps : List D} {vs : Array Value} (hl : vs.size = caps.length) (h : ∀ (i : Nat) d v, caps[i]? = some d → vs[i]? = some v → PRep w S d v) : PRep w S (.bfn f caps) (.func (.func f) vs #[])
  | ifc {t : TypeId} {d : D} {v : Value} (h : PRep w S d v) : PRep w S (.ifc t d) (.iface t v)
  | abool (b : Bool) : PRep w S .abool (.bool b)

theorem PRep.monoC {w w' : World} {S S' : Nat → Prop} {d : D} {v : Value} (h : PRep w S d v) (hw : ∀ b, S b → SameC w w' b) (hS : ∀ b, S b → S' b) : PRep w' S' d v := by
  induction h with
  | undef v => exact .undef v
  | any ds v => exact .any ds v
  | glo v _ hc ih => exact .glo v ih fun b cs h => let ⟨h1, ty, sp, h2⟩ := hc b cs h; ⟨hS b h1, ty, sp, hw b h1 _ h2 rfl⟩
  | int k n => exact .int k n
  | bool b => exact .bool b
  | abool b => exact .abool b
  | str l => exact .str l
  | raw x => exact .raw x
  | nilsl => exact .nilsl
  | agg hl _ ih => exact .agg hl ih
  | tup hl _ ih => exact .tup hl ih
  | @sl sz es A n cap b off us hn hcap hmax hA hsz hc h1 _ ih =>
    refine .sl (b := b) (off := off) (us := us) hn hcap hmax (fun hne => ⟨(hA hne).1, hS _ (hA hne).2⟩) hsz (fun i d j c hi hj => ?_) h1 ih
    have hne : es ≠ [] := by rintro rfl; simp at hi
    exact (hw b (hA hne).2).cell (hc i d j c hi hj)
  | @cref d j b off p us hb hp hc h1 _ ih =>
    refine .cref (us := us) (hS _ hb) hp (fun m c hm => ?_) h1 ih
    exact (hw b hb).cell (hc m c hm)
  | fn hl _ ih => exact .fn hl ih
  | bfn hl _ ih => exact .bfn hl ih
  | ifc _ ih => exact .ifc ih

theorem PRep.mono {w w' : World} {S S' : Nat → Prop} {d : D} {v : Value} (h : PRep w S d v) (hw : ∀ b, S b → w'.heap[b]? = w.heap[b]?) (hS : ∀ b, S b → S' b) : PRep w' S' d v :=
  h.monoC (fun b hb => .of_eq (hw b hb)) hS

/-- The same where the datum may name the activation's own variables. -/
inductive Rep (w : World) (S : Nat → Prop) (ρ : Rho) : D → Value → Prop where
  | pure {d : D} {v : Value} (h : PRep w S d v) : Rep w S ρ d v
  | loc {t e i j q : Nat} {p : Place} (hp : ρ t e = some p) (hq : q = i * p.sz + j) : Rep w S ρ (.loc t e i j) (.pointer (some ⟨p.b, q, none⟩))
  | osl {t e sz o n off cap : Nat} {p : Place} (hp : ρ t e = some p) (hsz : p.sz = sz) (h0 : o = 0 → off = 0 ∧ cap = p.cap) (hoff : 0 < cap → off = o * sz) (hn : n ≤ cap) (hcap : o + cap ≤ p.cap ∧ p.cap ≤ maxLen) :
      Rep w S ρ (.osl t e sz o n) (.slice (some ⟨p.b, off, none⟩) n cap)
  | omap {t e : Nat} {p : Place} (hp : ρ t e = some p) : Rep w S ρ (.omap t e) (.map (some p.b))
  | agg {ds : List D} {vs : Array Value} (hl : vs.size = ds.length) (h : ∀ (i : Nat) d v, ds[i]? = some d → vs[i]? = some v → Rep w S ρ d v) : Rep w S ρ (.agg ds) (.agg vs)
  | tup {ds : List D} {vs : Array Value} (hl : vs.size = ds.length) (h : ∀ (i : Nat) d v, ds[i]? = some d → vs[i]? = some v → Rep w S ρ d v) : Rep w S ρ (.tup ds) (.tuple vs)
  | fn {f : Fn} {caps : List D} {vs : Array Value} (hl : vs.size = caps.length) (h : ∀ (i : Nat) d v, caps[i]? = some d → vs[i]? = some v → Rep w S ρ d v) : Rep w S ρ (.fn f caps) (.func f #[] vs)
  | bfn {f : FuncId} {caps : List D} {vs : Array Value} (hl : vs.size = caps.length) (h : ∀ (i : Nat) d v, caps[i]? = some d → vs[i]? = some v → Rep w S ρ d v) : Rep w S ρ (.bfn f caps) (.func (.func f) vs #[])
  | ifc {t : TypeId} {d : D} {v : Value} (h : Rep w S ρ d v) : Rep w S ρ (.ifc t d) (.iface t v)

theorem Rep.monoC {w w' : World} {S S' : Nat → Prop} {ρ ρ' : Rho} {d : D} {v : Value} (h : Rep w S ρ d v) (hw : ∀ b, S b → SameC w w' b) (hS : ∀ b, S b → S' b) (hρ : ∀ t e p, ρ t e = some p → ρ' t e = some p) : Rep w' S' ρ' d v := by
  induction h with
  | pure h => exact .pure (h.monoC hw hS)
  | loc hp hq => exact .loc (hρ _ _ _ hp) hq
  | osl hp hsz h0 hoff hn hcap => exact .osl (hρ _ _ _ hp) hsz h0 hoff hn hcap
  | omap hp => exact .omap (hρ _ _ _ hp)
  | agg hl _ ih => exact .agg hl ih
  | tup hl _ ih => exact .tup hl ih
  | fn hl _ ih => exact .fn hl ih
  | bfn hl _ ih => exact .bfn hl ih
  | ifc _ ih => exact .ifc ih

theorem Rep.mono {w w' : World} {S S' : Nat → Prop} {ρ ρ' : Rho} {d : D} {v : Value} (h : Rep w S ρ d v) (hw : ∀ b, S b → w'.heap[b]? = w.heap[b]?) (hS : ∀ b, S b → S' b) (hρ : ∀ t e p, ρ t e = some p → ρ' t e = some p) : Rep w' S' ρ' d v :=
  h.monoC (fun b hb => .of_eq (hw b hb)) hS hρ

section
variable {w : World} {S : Nat → Prop} {ρ : Rho} {d : D} {v : Value}

theorem Rep.one (h : Rep w S ρ d v) (ho : d.one = true) : v.oneCell' = true := by
  cases h with
  | pure h => cases h <;> first | rfl | (simp [D.one] at ho; done) | exact ho
  | agg => simp [D.one] at ho
  | tup => simp [D.one] at ho
  | _ => rfl

theorem cells_one {v : Value} (h : v.oneCell' = true) : v.cells = #[v] := by cases v <;> first | rfl | (simp [Value.oneCell'] at h)

theorem cells_single {d : D} (h : d.one = true) : d.cells = [d] := by cases d <;> first | rfl | (simp [D.one] at h)

/-- cell by cell -/
theorem Rep.cells (h : Rep w S ρ d v) (ho : d.cells.all D.one = true) : v.cells.size = d.cells.length ∧ ∀ (j : Nat) c, d.cells[j]? = some c → ∃ u, v.cells[j]? = some u ∧ Rep w S ρ c u ∧ u.oneCell' = true := by
  have agg : ∀ (ds : List D) (vs : Array Value), vs.size = ds.length → (∀ (i : Nat) d v, ds[i]? = some d → vs[i]? = some v → Rep w S ρ d v) → ds.all D.one = true →
      (Value.agg vs).cells.size = (D.agg ds).cells.length ∧ ∀ (j : Nat) c, (D.agg ds).cells[j]? = some c → ∃ u, (Value.agg vs).cells[j]? = some u ∧ Rep w S ρ c u ∧ u.oneCell' = true := by
    intro ds vs hl h ho
    refine ⟨hl, fun j c hj => ?_⟩
    have hj' : j < ds.length := (List.getElem?_eq_some_iff.1 hj).1
    have hv : vs[j]? = some vs[j] := Array.getElem?_eq_getElem (by omega)
    have hr := h j c _ hj hv
    exact ⟨_, hv, hr, hr.one (List.all_eq_true.1 ho _ (List.mem_of_getElem? hj))⟩
  have single : d.one = true → d.cells = [d] → v.cells.size = d.cells.length ∧ ∀ (j : Nat) c, d.cells[j]? = some c → ∃ u, v.cells[j]? = some u ∧ Rep w S ρ c u ∧ u.oneCell' = true := by
    intro h1 hd
    have hv := cells_one (h.one h1)
    rw [hd, hv]
    refine ⟨rfl, fun j c hj => ?_⟩
    cases j with
    | zero => simp at hj; subst hj; exact ⟨v, rfl, h, h.one h1⟩
    | succ j => simp at hj
  cases d with
  | agg ds =>
    cases h with
    | pure h => cases h with | agg hl h => exact agg ds _ hl (fun i d v hd hv => .pure (h i d v hd hv)) ho
    | agg hl h => exact agg ds _ hl h ho
  | _ => exact single (by simpa [D.cells] using ho) rfl

/-- nothing of the activation's own in it -/
theorem Rep.toP (h : Rep w S ρ d v) (hp : d.pure = true) : PRep w S d v := by
  have inL : ∀ (ds : List D), D.pureL ds = true → ∀ (i : Nat) d, ds[i]? = some d → d.pure = true := by
    intro ds
    induction ds with
    | nil => intro _ i d hd; simp at hd
    | cons x xs ih =>
      intro hp i d hd
      simp only [D.pureL, Bool.and_eq_true] at hp
      cases i with
      | zero => simp at hd; subst hd; exact hp.1
      | succ i => exact ih hp.2 i d (by simpa using hd)
  induction h with
  | pure h => exact h
  | loc => simp [D.pure] at hp
  | osl => simp [D.pure] at hp
  | omap => simp [D.pure] at hp
  | agg hl _ ih => exact .agg hl fun i d v hd hv => ih i d v hd hv (inL _ (by simpa only [D.pure] using hp) i d hd)
  | tup hl _ ih => exact .tup hl fun i d v hd hv => ih i d v hd hv (inL _ (by simpa only [D.pure] using hp) i d hd)
  | fn hl _ ih => exact .fn hl fun i d v hd hv => ih i d v hd hv (inL _ (by simpa only [D.pure] using hp) i d hd)
  | bfn hl _ ih => exact .bfn hl fun i d v hd hv => ih i d v hd hv (inL _ (by simpa only [D.pure] using hp) i d hd)
  | ifc _ ih => exact .ifc (ih (by simpa only [D.pure] using hp))

theorem pure_mem : ∀ (ds : List D), D.pureL ds = true → ∀ d ∈ ds, d.pure = true
  | [], _, d, hd => by simp at hd
  | x :: xs, hp, d, hd => by
    simp only [D.pureL, Bool.and_eq_true] at hp
    rcases List.mem_cons.1 hd with rfl | hd
    · exact hp.1
    · exact pure_mem xs hp.2 d hd
theorem pure_cells {d : D} (h : d.pure = true) : ∀ c ∈ d.cells, c.pure = true := by
  intro c hc
  cases d with
  | agg ds => exact pure_mem ds (by simpa only [D.pure] using h) c hc
  | _ => simp only [D.cells, List.mem_singleton] at hc; subst hc; exact h

theorem rep_ofC (v : Value) : PRep w S (ofC v) v := by
  unfold ofC
  split
  · exact .int _ _
  · exact .bool _
  · rename_i s; exact .str s.data.toList
  · exact .nilsl
  · exact .raw _

theorem rep_ofV (v : Value) : PRep w S (ofV v) v := by
  unfold ofV
  split
  · rename_i cs
    refine .agg (by simp) fun i d u hd hu => ?_
    simp only [List.getElem?_map, Array.getElem?_toList, hu, Option.map_some, Option.some.injEq] at hd
    subst hd
    exact rep_ofC u
  · exact rep_ofC _

theorem Rep.weak {d d' : D} {v : Value} (hw : Weak d d') : PRep w S d v → PRep w S d' v := by
  induction hw generalizing v with
  | refl => exact id
  | nil sz => intro h; cases h; exact .sl (b := 0) (off := 0) (us := fun _ _ => undef) rfl (by simp) (by simp [maxLen]) (fun h => absurd rfl h) (by simp) (by simp) (by simp) (by simp)
  | tup hl _ ih =>
    intro h
    cases h with
    | tup hl' h =>
      refine .tup (hl'.trans hl) fun i x' v hx hv => ?_
      have hi : i < _ := (List.getElem?_eq_some_iff.1 hx).1
      exact ih i _ x' (List.getElem?_eq_getElem (hl ▸ hi)) hx (h i _ v (List.getElem?_eq_getElem (hl ▸ hi)) hv)
  | agg hl _ ih =>
    intro h
    cases h with
    | agg hl' h =>
      refine .agg (hl'.trans hl) fun i x' v hx hv => ?_
      have hi : i < _ := (List.getElem?_eq_some_iff.1 hx).1
      exact ih i _ x' (List.getElem?_eq_getElem (hl ▸ hi)) hx (h i _ v (List.getElem?_eq_getElem (hl ▸ hi)) hv)
  | @sl sz ds ds' hl hz _ ih =>
    intro h
    cases h with
    | @sl _ _ A n cap b off us hn hcap hmax hA hsz hc h1 hr =>
      have at_ : ∀ (i : Nat) d', ds'[i]? = some d' → ∃ d, ds[i]? = some d := fun i d' hd' => by
        have hi := (List.getElem?_eq_some_iff.1 hd').1
        exact ⟨_, List.getElem?_eq_getElem (hl ▸ hi)⟩
      have cell : ∀ (i : Nat) d d' (j : Nat) c', ds[i]? = some d → ds'[i]? = some d' → d'.cells[j]? = some c' → ∃ c, d.cells[j]? = some c := fun i d d' j c' hd hd' hc' => by
        have hj := (List.getElem?_eq_some_iff.1 hc').1
        exact ⟨_, List.getElem?_eq_getElem (by rw [hz i d d' hd hd']; exact hj)⟩
      refine .sl (A := A) (b := b) (off := off) (us := us) (hn.trans hl) hcap hmax (fun hne => hA fun e => hne (List.eq_nil_of_length_eq_zero (by rw [← hl, e]; rfl))) (fun i d' hd' => ?_) (fun i d' j c' hd' hc' => ?_) (fun i d' j c' hd' hc' => ?_) (fun i d' j c' hd' hc' => ?_)
      · obtain ⟨d, hd⟩ := at_ i d' hd'
        rw [← hz i d d' hd hd']; exact hsz i d hd
      · obtain ⟨d, hd⟩ := at_ i d' hd'
        obtain ⟨c, hcc⟩ := cell i d d' j c' hd hd' hc'
        exact hc i d j c hd hcc
      · obtain ⟨d, hd⟩ := at_ i d' hd'
        obtain ⟨c, hcc⟩ := cell i d d' j c' hd hd' hc'
        exact h1 i d j c hd hcc
      · obtain ⟨d, hd⟩ := at_ i d' hd'
        obtain ⟨c, hcc⟩ := cell i d d' j c' hd hd' hc'
        exact ih i d d' j c c' hd hd' hcc hc' (hr i d j c hd hcc)
end

/-- v represents d, with no memory behind it -/
inductive SRep : D → Value → Prop where
  | int (k : IntKind) (n : Int) : SRep (.int k n) (.int k n)
  | bool (b : Bool) : SRep (.bool b) (.bool b)
  | str (l : List UInt8) : SRep (.str l) (.string ⟨l.toArray⟩)
  | raw (x : Value) : SRep (.raw x) x
  | nilsl : SRep .nilsl (.slice none 0 0)
  | agg {ds : List D} {vs : Array Value} (hl : vs.size = ds.length) (h : ∀ (i : Nat) d v, ds[i]? = some d → vs[i]? = some v → SRep d v) : SRep (.agg ds) (.agg vs)
  | fn {f : Fn} {caps : List D} {vs : Array Value} (hl : vs.size = caps.length) (h : ∀ (i : Nat) d v, caps[i]? = some d → vs[i]? = some v → SRep d v) : SRep (.fn f caps) (.func f #[] vs)
theorem SRep.rep {w : World} {S : Nat → Prop} {d : D} {v : Value} (h : SRep d v) : PRep w S d v := by
  induction h with
  | int k n => exact .int k n
  | bool b => exact .bool b
  | str l => exact .str l
  | raw x => exact .raw x
  | nilsl => exact .nilsl
  | agg hl _ ih => exact .agg hl ih
  | fn hl _ ih => exact .fn hl ih
theorem simple_mem : ∀ (ds : List D), D.simpleL ds = true → ∀ (i : Nat) d, ds[i]? = some d → d.simple = true
  | [], _, i, d, hd => by simp at hd
  | x :: xs, hp, i, d, hd => by
    simp only [D.simpleL, Bool.and_eq_true] at hp
    cases i with
    | zero => simp at hd; subst hd; exact hp.1
    | succ i => exact simple_mem xs hp.2 i d (by simpa using hd)
theorem PRep.simple {w : World} {S : Nat → Prop} {d : D} {v : Value} (h : PRep w S d v) (hs : d.simple = true) : SRep d v := by
  induction h with
  | int k n => exact .int k n
  | bool b => exact .bool b
  | str l => exact .str l
  | raw x => exact .raw x
  | nilsl => exact .nilsl
  | agg hl _ ih => exact .agg hl fun i d v hd hv => ih i d v hd hv (simple_mem _ (by simpa only [D.simple] using hs) i d hd)
  | fn hl _ ih => exact .fn hl fun i d v hd hv => ih i d v hd hv (simple_mem _ (by simpa only [D.simple] using hs) i d hd)
  | _ => simp [D.simple] at hs
theorem Rep.simple {w : World} {S : Nat → Prop} {ρ : Rho} {d : D} {v : Value} (h : Rep w S ρ d v) (hs : d.simple = true) : SRep d v := by
  induction h with
  | pure h => exact h.simple hs
  | agg hl _ ih => exact .agg hl fun i d v hd hv => ih i d v hd hv (simple_mem _ (by simpa only [D.simple] using hs) i d hd)
  | fn hl _ ih => exact .fn hl fun i d v hd hv => ih i d v hd hv (simple_mem _ (by simpa only [D.simple] using hs) i d hd)
  | _ => simp [D.simple] at hs

/-- the entries of a map, as data -/
inductive Ents : List D → List MapEntry → Prop where
  | nil : Ents [] []
  | cons {k v : D} {e : MapEntry} {ds : List D} {es : List MapEntry} (hk : SRep k e.key) (hv : SRep v e.val) (t : Ents ds es) : Ents (.tup [k, v, .int .i64 (e.born : Int)] :: ds) (e :: es)
/-- What a block without cells holds: a map with plain keys and values; one's place in a map. -/
inductive NObj (ρ : Rho) : Obj → List D → Prop where
  | map {ents : Array MapEntry} {clock : Nat} {es : List D} (h : Ents es ents.toList) : NObj ρ (.map ents clock) (.int .i64 (clock : Int) :: es)
  | iter {m k : Nat} {p : Place} {since last : Nat} {seen : Array Nat} (hp : ρ m k = some p) : NObj ρ (.mapIter (some p.b) since seen last) (.omap m k :: .int .i64 (since : Int) :: .int .i64 (last : Int) :: seen.toList.map fun n : Nat => .int .i64 (n : Int))
theorem NObj.mono {ρ ρ' : Rho} {o : Obj} {es : List D} (h : NObj ρ o es) (hρ : ∀ t e p, ρ t e = some p → ρ' t e = some p) : NObj ρ' o es := by
  cases h with
  | map h => exact .map h
  | iter hp => exact .iter (hρ _ _ _ hp)
/-- a map, or a place in one -/
def Obj.isM : Obj → Bool
  | .map .. | .mapIter .. => true
  | _ => false
theorem NObj.isM {ρ : Rho} {o : Obj} {es : List D} (h : NObj ρ o es) : Obj.isM o = true := by cases h <;> rfl
theorem NObj.isC {ρ : Rho} {o : Obj} {es : List D} (h : NObj ρ o es) : Obj.isC o = false ∧ ∀ x, o ≠ .deferred x := by
  cases h with
  | map h => exact ⟨rfl, fun _ e => by cases e⟩
  | iter hp => exact ⟨rfl, fun _ e => by cases e⟩

/-- What an own variable's block holds. -/
structure Holds (w : World) (S : Nat → Prop) (ρ : Rho) (p : Place) (es : List D) : Prop where
  ex : ∃ cur, w.heap[p.b]? = some (.cells cur p.ty (0, 0)) ∧ cur.size = p.cap * p.sz ∧
    ∃ us : Nat → Nat → Value, ∀ (i : Nat) d (j : Nat) c, es[i]? = some d → d.cells[j]? = some c → cur[i * p.sz + j]? = some (us i j) ∧ Rep w S ρ c (us i j) ∧ (us i j).oneCell' = true
  len : es.length ≤ p.cap
  max : p.cap ≤ maxLen
  sz : ∀ (i : Nat) d, es[i]? = some d → d.cells.length = p.sz

theorem Holds.monoC {w w' : World} {S S' : Nat → Prop} {ρ ρ' : Rho} {p : Place} {es : List D} (h : Holds w S ρ p es) (hb : SameC w w' p.b) (hw : ∀ b, S b → SameC w w' b) (hS : ∀ b, S b → S' b)
    (hρ : ∀ t e p, ρ t e = some p → ρ' t e = some p) : Holds w' S' ρ' p es := by
  obtain ⟨⟨cur, hc, hs, us, hu⟩, hl, hm, hz⟩ := h
  exact ⟨⟨cur, hb _ hc rfl, hs, us, fun i d j c hi hj => ⟨(hu i d j c hi hj).1, (hu i d j c hi hj).2.1.monoC hw hS hρ, (hu i d j c hi hj).2.2⟩⟩, hl, hm, hz⟩

theorem Holds.mono {w w' : World} {S S' : Nat → Prop} {ρ ρ' : Rho} {p : Place} {es : List D} (h : Holds w S ρ p es) (hb : w'.heap[p.b]? = w.heap[p.b]?) (hw : ∀ b, S b → w'.heap[b]? = w.heap[b]?) (hS : ∀ b, S b → S' b)
    (hρ : ∀ t e p, ρ t e = some p → ρ' t e = some p) : Holds w' S' ρ' p es := h.monoC (.of_eq hb) (fun b hb => .of_eq (hw b hb)) hS hρ

theorem Holds.cell {w : World} {S : Nat → Prop} {ρ : Rho} {p : Place} {es : List D} (h : Holds w S ρ p es) {i : Nat} {d : D} {j : Nat} {c : D} (hi : es[i]? = some d) (hj : d.cells[j]? = some c) :
    ∃ u, w.cell? ⟨p.b, i * p.sz + j, none⟩ = some u ∧ Rep w S ρ c u ∧ u.oneCell' = true := by
  obtain ⟨⟨cur, hc, hs, us, hu⟩, hl, hm, hz⟩ := h
  obtain ⟨h1, h2, h3⟩ := hu i d j c hi hj
  exact ⟨us i j, by simp [World.cell?, hc, h1], h2, h3⟩

end Go.V

namespace Go.V
open Go.RowKit

/-- Of what was there nothing has turned but blocks of M. -/
structure Fr (M : Nat → Prop) (w w' : World) : Prop where
  os : w'.os = w.os
  tape : w'.tape = w.tape
  output : w'.output = w.output
  size : w.heap.size ≤ w'.heap.size
  block : ∀ k, k < w.heap.size → ¬ M k → w'.heap[k]? = w.heap[k]?

theorem Fr.refl (M : Nat → Prop) (w : World) : Fr M w w := ⟨rfl, rfl, rfl, Nat.le_refl _, fun _ _ _ => rfl⟩
theorem Fr.step {M M' : Nat → Prop} {a b c : World} (h : Fr M a b) (k : Fr M' b c) (hM : ∀ n, n < a.heap.size → M' n → M n) : Fr M a c :=
  ⟨k.os.trans h.os, k.tape.trans h.tape, k.output.trans h.output, Nat.le_trans h.size k.size, fun i hi hm => (k.block i (Nat.lt_of_lt_of_le hi h.size) (fun hm' => hm (hM i hi hm'))).trans (h.block i hi hm)⟩
theorem Fr.below {w w' : World} (h : Fr (fun _ => False) w w') : Below w.heap.size w w' := ⟨h.os, h.tape, h.output, h.size, fun k hk => h.block k hk id⟩
theorem Fr.of_below {M : Nat → Prop} {w w' : World} (h : Below w.heap.size w w') : Fr M w w' := ⟨h.os, h.tape, h.output, h.size, fun k hk _ => h.block k hk⟩
theorem Fr.alloc (M : Nat → Prop) (w : World) (o : Obj) : Fr M w (w.alloc o) := .of_below ((Below.refl _ _).alloc (Nat.le_refl _) o)
theorem Fr.of_grown {w w' : World} {row : Option Nat} (h : w.grownBy w' row) : Fr (fun b => some b = row) w w' := ⟨h.os, h.tape, h.output, h.size, fun k hk hm => h.block k hk hm⟩

/-- What is constant in an activation: the world at its start; the root call's arguments' stable blocks and size of the world; the blocks of the live boxes that are lent to it (M); blocks without cells that may turn (E); its number of temporaries; where all lay at its start; of the slots below lo, that it leaves alone, and of the blocks without cells: Y; md: 0 it defers nothing, 1 it is a round, 2 it may defer. -/
structure Ctx where
  w0 : World
  S0 : Nat → Prop
  n0 : Nat
  M : Nat → Prop
  E : Nat → Prop
  N : Nat
  r0 : Rho
  ml : Nat
  lo : Nat
  Y : Bxs → (Nat → Option Obj) → Prop
  md : Nat

theorem cutB_congr {n : Nat} {bx bx' : Bxs} (h : ∀ s, s < n → bx' s = bx s) : cutB n bx' = cutB n bx := by
  funext s
  unfold cutB
  by_cases hs : s < n
  · simp [hs, h s hs]
  · simp [hs]

/-- A mark among the deferred calls: a range over a function has been entered. -/
def markOf (r : Nat) : Deferred := { target := .collected r, args := #[] }

/-- Blocks that nobody writes any more. -/
def Stab (X : Ctx) (ρ : Rho) (bx : Bxs) (w : World) (b : Nat) : Prop :=
  b < w.heap.size ∧ (X.S0 b ∨ X.n0 ≤ b) ∧ ∀ t, (bx t).k = 1 → ∀ p, ρ t (bx t).ep = some p → p.b ≠ b

/-- The record of the deferred calls. -/
def recD : D → List D
  | .any l => l
  | _ => []

/-- Deferred calls: marks, each of a block of its own that holds no call, and calls of functions, as the record has them. -/
inductive Defs (w : World) (S : Nat → Prop) (ρ : Rho) (m : Nat) : List D → List Deferred → Prop where
  | nil : Defs w S ρ m [] []
  | mark {l : List D} {r : Nat} {ds : List Deferred} (h : ρ.hold r = some (.deferred (some []))) (hm : m ≤ r) (hn : markOf r ∉ ds) (t : Defs w S ρ m l ds) : Defs w S ρ m l (markOf r :: ds)
  | call {f : FuncId} {caps args l : List D} {vc va : Array Value} {ds : List Deferred} (hc : vc.size = caps.length) (hcr : ∀ (i : Nat) d v, caps[i]? = some d → vc[i]? = some v → Rep w S ρ d v)
      (ha : va.size = args.length) (har : ∀ (i : Nat) d v, args[i]? = some d → va[i]? = some v → Rep w S ρ d v) (t : Defs w S ρ m l ds) : Defs w S ρ m (.tup (.fn (.func f) caps :: args) :: l) ({ target := .fn (.func f) vc, args := va } :: ds)

/-- The deferred calls of an activation. -/
def Mk (w : World) (S : Nat → Prop) (ρ : Rho) (md ml : Nat) (d : D) (ds : List Deferred) : Prop := md = 1 ∨ (Defs w S ρ ml (if md = 0 then [] else recD d) ds ∧ (md = 3 → ds = []))

theorem Defs.monoC {w w' : World} {S S' : Nat → Prop} {ρ ρ' : Rho} {m : Nat} {l : List D} {ds : List Deferred} (h : Defs w S ρ m l ds) (hw : ∀ b, S b → SameC w w' b) (hS : ∀ b, S b → S' b) (hρ : ∀ t e p, ρ t e = some p → ρ' t e = some p)
    (hh : ∀ r, markOf r ∈ ds → ρ.hold r = some (.deferred (some [])) → ρ'.hold r = some (.deferred (some []))) : Defs w' S' ρ' m l ds := by
  induction h with
  | nil => exact .nil
  | mark h hm hn _ ih => exact .mark (hh _ (List.mem_cons_self ..) h) hm hn (ih fun r hr => hh r (List.mem_cons_of_mem _ hr))
  | call hc hcr ha har _ ih => exact .call hc (fun i d v hd hv => (hcr i d v hd hv).monoC hw hS hρ) ha (fun i d v hd hv => (har i d v hd hv).monoC hw hS hρ) (ih fun r hr => hh r (List.mem_cons_of_mem _ hr))
theorem Mk.monoC {w w' : World} {S S' : Nat → Prop} {ρ ρ' : Rho} {md m : Nat} {l : D} {ds : List Deferred} (h : Mk w S ρ md m l ds) (hw : ∀ b, S b → SameC w w' b) (hS : ∀ b, S b → S' b) (hρ : ∀ t e p, ρ t e = some p → ρ' t e = some p)
    (hh : ∀ r, markOf r ∈ ds → ρ.hold r = some (.deferred (some [])) → ρ'.hold r = some (.deferred (some []))) : Mk w' S' ρ' md m l ds := h.imp id fun h => ⟨h.1.monoC hw hS hρ hh, h.2⟩
theorem Mk.mono {w w' : World} {S S' : Nat → Prop} {ρ ρ' : Rho} {md m : Nat} {l : D} {ds : List Deferred} (h : Mk w S ρ md m l ds) (hw : ∀ b, S b → w'.heap[b]? = w.heap[b]?) (hS : ∀ b, S b → S' b) (hρ : ∀ t e p, ρ t e = some p → ρ' t e = some p)
    (hh : ∀ r, ρ.hold r = some (.deferred (some [])) → ρ'.hold r = some (.deferred (some []))) : Mk w' S' ρ' md m l ds := h.monoC (fun b hb => .of_eq (hw b hb)) hS hρ fun r _ => hh r
theorem Mk.nil {w : World} {S : Nat → Prop} {ρ : Rho} {md m : Nat} {l : D} (h : md = 0 ∨ md = 1 ∨ recD l = []) : Mk w S ρ md m l [] := by
  rcases h with h | h | h
  · exact .inr ⟨by rw [if_pos h]; exact .nil, fun _ => rfl⟩
  · exact .inl h
  · exact .inr ⟨by rw [h, ite_self]; exact .nil, fun _ => rfl⟩

/-- The maps of the activation's own. -/
structure Maps (X : Ctx) (ρ : Rho) (bx : Bxs) : Prop where
  has : ∀ t, (bx t).k = 3 → ∃ p o, ρ t (bx t).ep = some p ∧ ρ.hold p.b = some o ∧ (X.E p.b ∨ X.w0.heap.size ≤ p.b) ∧ NObj ρ o (bx t).es
  inj : ∀ t t' p p', (bx t).k = 3 → (bx t').k = 3 → t ≠ t' → ρ t (bx t).ep = some p → ρ t' (bx t').ep = some p' → p.b ≠ p'.b
theorem Maps.of {X X' : Ctx} {ρ ρ' : Rho} {bx bx' : Bxs} (h : Maps X ρ bx) (hb : ∀ t, (bx' t).k = 3 → (bx t).k = 3 ∧ (bx' t).ep = (bx t).ep ∧ (bx' t).es = (bx t).es) (hρ : ∀ t e p, ρ t e = some p → ρ' t e = some p)
    (hh : ∀ t p o, (bx t).k = 3 → ρ t (bx t).ep = some p → ρ.hold p.b = some o → ρ'.hold p.b = some o) (hX : ∀ b, X.E b ∨ X.w0.heap.size ≤ b → X'.E b ∨ X'.w0.heap.size ≤ b) : Maps X' ρ' bx' := by
  refine ⟨fun t ht => ?_, fun t t' p p' ht ht' hn hp hp' => ?_⟩
  · obtain ⟨h1, h2, h3⟩ := hb t ht
    obtain ⟨p, o, g1, g2, g3, g4⟩ := h.has t h1
    exact ⟨p, o, by rw [h2]; exact hρ _ _ _ g1, hh t p o h1 g1 g2, hX _ g3, by rw [h3]; exact g4.mono hρ⟩
  · obtain ⟨h1, h2, _⟩ := hb t ht
    obtain ⟨k1, k2, _⟩ := hb t' ht'
    obtain ⟨q, o, g1, _⟩ := h.has t h1
    obtain ⟨q', o', g1', _⟩ := h.has t' k1
    rw [h2, hρ _ _ _ g1] at hp
    rw [k2, hρ _ _ _ g1'] at hp'
    injection hp with hp
    injection hp' with hp'
    subst hp; subst hp'
    exact h.inj t t' q q' h1 k1 hn g1 g1'

structure Sim (X : Ctx) (ρ : Rho) (σ : Env) (bx : Bxs) (a : Act) (w : World) : Prop where
  fr : Fr (fun b => X.M b ∨ X.E b) X.w0 w
  s0 : ∀ b, X.S0 b → b < X.n0
  nb : X.n0 ≤ X.w0.heap.size
  mb : ∀ b, X.M b → X.n0 ≤ b
  ec : ∀ b, X.E b → ∀ o, X.w0.heap[b]? = some o → Obj.isC o = false
  size : a.tmps.size = X.N
  marks : Mk w (Stab X ρ bx w) ρ X.md X.ml (σ dfS) a.defers
  nle : X.N ≤ dfS
  mkb : X.ml ≤ X.w0.heap.size
  tmps : ∀ t, Rep w (Stab X ρ bx w) ρ (σ t) (a.tmps.getD t undef)
  glo : Rep w (Stab X ρ bx w) ρ .glo undef
  box : ∀ t, lv (bx t).k → ∃ p, ρ t (bx t).ep = some p ∧ p.sz = (bx t).sz ∧ p.ty = (bx t).ty ∧ (X.n0 ≤ p.b ∧ ((bx t).k = 1 → X.w0.heap.size ≤ p.b ∨ X.M p.b)) ∧ Holds w (Stab X ρ bx w) ρ p (bx t).es
  inj : ∀ t t' p p', (bx t).k = 1 → lv (bx t').k → t ≠ t' → ρ t (bx t).ep = some p → ρ t' (bx t').ep = some p' → p.b ≠ p'.b
  eps : ∀ t e p, ρ t e = some p → e ≤ (bx t).ep
  r0 : ∀ t e p, X.r0 t e = some p → ρ t e = some p
  hold : ∀ b o, ρ.hold b = some o → w.heap[b]? = some o ∧ Obj.isC o = false
  holds0 : ∀ b o, X.r0.hold b = some o → ¬ X.E b → ρ.hold b = some o
  yc : ∀ c h h', X.Y c h → (∀ b o, h b = some o → h' b = some o) → X.Y c h'
  inv : X.Y (cutB X.lo bx) ρ.hold
  y0 : X.lo = 0 → ∀ c h, X.Y c h
  h0lt : ∀ b o, X.r0.hold b = some o → b < X.w0.heap.size
  maps : Maps X ρ bx

variable {X : Ctx} {ρ : Rho} {σ : Env} {bx : Bxs} {a : Act} {w : World}

theorem Holds.isC {S : Nat → Prop} {p : Place} {es : List D} (h : Holds w S ρ p es) : ∃ o, w.heap[p.b]? = some o ∧ Obj.isC o = true := by
  obtain ⟨⟨cur, hc, _⟩, _⟩ := h
  exact ⟨_, hc, rfl⟩

theorem Holds.lt {S : Nat → Prop} {p : Place} {es : List D} (h : Holds w S ρ p es) : p.b < w.heap.size := by
  obtain ⟨⟨cur, hc, _⟩, _⟩ := h
  exact (Array.getElem?_eq_some_iff.1 hc).1

/-- The world grows: nothing that was there has turned. -/
theorem Sim.ext {w' : World} (h : Sim X ρ σ bx a w) (hb : Below w.heap.size w w') : Sim X ρ σ bx a w' := by
  have hS : ∀ b, Stab X ρ bx w b → Stab X ρ bx w' b := fun b hb' => ⟨Nat.lt_of_lt_of_le hb'.1 hb.size, hb'.2⟩
  have hw : ∀ b, Stab X ρ bx w b → w'.heap[b]? = w.heap[b]? := fun b hb' => hb.block b hb'.1
  exact ⟨h.fr.step (Fr.of_below (M := fun _ => False) hb) (fun _ _ h => h.elim), h.s0, h.nb, h.mb, h.ec, h.size, h.marks.mono hw hS (fun _ _ _ h => h) (fun _ h => h), h.nle, h.mkb, fun t => (h.tmps t).mono hw hS (fun _ _ _ h => h), h.glo.mono hw hS (fun _ _ _ h => h),
    fun t ht => let ⟨p, h1, h2, h3, h4, h5⟩ := h.box t ht; ⟨p, h1, h2, h3, h4, h5.mono (hb.block _ h5.lt) hw hS (fun _ _ _ h => h)⟩, h.inj, h.eps, h.r0,
    fun b o ho => ⟨(hb.block b (Array.getElem?_eq_some_iff.1 (h.hold b o ho).1).1).trans (h.hold b o ho).1, (h.hold b o ho).2⟩, h.holds0, h.yc, h.inv, h.y0, h.h0lt, h.maps⟩

theorem Sim.put {dst : Option Tmp} {d : D} {v : Value} (h : Sim X ρ σ bx a w) (hd : ∀ t, dst = some t → t < X.N) (hr : Rep w (Stab X ρ bx w) ρ d v) : Sim X ρ (put σ dst d) bx (a.put dst v) w := by
  cases dst with
  | none => exact h
  | some t =>
    have ht := hd t rfl
    have hdf : dfS ≠ t := by
      intro e
      exact absurd (hd t rfl) (by rw [← e]; exact Nat.not_lt.2 h.nle)
    refine ⟨h.fr, h.s0, h.nb, h.mb, h.ec, by simp [Act.put, h.size], by simpa [Act.put, V.put, upd, hdf] using h.marks, h.nle, h.mkb, fun x => ?_, h.glo, h.box, h.inj, h.eps, h.r0, h.hold, h.holds0, h.yc, h.inv, h.y0, h.h0lt, h.maps⟩
    simp only [V.put, upd, Act.put]
    by_cases hx : x = t
    · subst hx
      simp only [if_true]
      have : (a.tmps.setIfInBounds x v).getD x undef = v := by
        simp [Array.getD, h.size, ht]
      rw [this]; exact hr
    · simp only [hx, if_false]
      have : (a.tmps.setIfInBounds t v).getD x undef = a.tmps.getD x undef := by
        simp only [Array.getD_eq_getD_getElem?, Array.getElem?_setIfInBounds_ne (Ne.symm hx)]
      rw [this]; exact h.tmps x

theorem Sim.ev (h : Sim X ρ σ bx a w) (x : Operand) : Rep w (Stab X ρ bx w) ρ (ev σ x) (a.eval x) := by
  cases x with
  | tmp t => exact h.tmps t
  | const v => exact .pure (rep_ofV v)
  | global g =>
    show Rep w (Stab X ρ bx w) ρ (evG g (glob g)) (.pointer (some ⟨g, 0, none⟩))
    cases hg : glob g with
    | none => exact .pure (.raw _)
    | some d =>
      have h := h.glo.toP rfl
      cases h with
      | glo _ h _ => exact .pure (h g d hg)
  | func f => exact .pure (.fn rfl (by simp))

/-- A new variable: block g, of slot t: either laid by this step, or that of slot t0, which is given up. -/
theorem Sim.own {w' : World} {t : Nat} {p : Place} {es : List D} {bx1 : Bxs} (h : Sim X ρ σ bx a w)
    (hlo : X.lo ≤ t) (h1 : ∀ s, bx1 s = bx s ∨ ((bx1 s).k = 0 ∧ (bx1 s).ep = (bx s).ep ∧ X.lo ≤ s)) {Old : Nat → Prop} (hg : Fr Old w w')
    (hO : ∀ b, Old b → ∃ t0 p0, (bx t0).k = 1 ∧ ρ t0 (bx t0).ep = some p0 ∧ p0.b = b ∧ (t0 = t ∨ (bx1 t0).k = 0)) (hp : w.heap.size ≤ p.b ∨ Old p.b)
    (hh : ∀ S' ρ', (∀ b, Stab X ρ bx w b → S' b) → (∀ s e q, ρ s e = some q → ρ' s e = some q) → Holds w' S' ρ' p es) :
    Sim X ⟨fun s e => if s = t ∧ e = (bx t).ep + 1 then some p else ρ s e, ρ.hold⟩ σ (upd bx1 t ⟨(bx t).ep + 1, 1, p.sz, p.ty, es⟩) a w' := by
  have hnO : ∀ b, Stab X ρ bx w b → ¬ Old b := by
    intro b hb e
    obtain ⟨t0, p0, hk, hr, hpb, _⟩ := hO b e
    exact hb.2.2 t0 hk p0 hr hpb
  have hne : ∀ b, Stab X ρ bx w b → b ≠ p.b := by
    intro b hb e
    rcases hp with hp | hp
    · have := hb.1; omega
    · exact hnO b hb (e ▸ hp)
  have hρ : ∀ s e q, ρ s e = some q → (if s = t ∧ e = (bx t).ep + 1 then some p else ρ s e) = some q := by
    intro s e q hq
    rw [if_neg]
    · exact hq
    · rintro ⟨rfl, rfl⟩
      have := h.eps _ _ _ hq
      omega
  have hw : ∀ b, Stab X ρ bx w b → w'.heap[b]? = w.heap[b]? := fun b hb => hg.block b hb.1 (hnO b hb)
  have live : ∀ s, s ≠ t → lv (upd bx1 t ⟨(bx t).ep + 1, 1, p.sz, p.ty, es⟩ s).k → upd bx1 t ⟨(bx t).ep + 1, 1, p.sz, p.ty, es⟩ s = bx s := by
    intro s hs hk
    simp only [upd, hs, if_false] at hk ⊢
    rcases h1 s with e | ⟨e, _⟩
    · exact e
    · exact absurd e hk.1
  have hS : ∀ b, Stab X ρ bx w b → Stab X ⟨fun s e => if s = t ∧ e = (bx t).ep + 1 then some p else ρ s e, ρ.hold⟩ (upd bx1 t ⟨(bx t).ep + 1, 1, p.sz, p.ty, es⟩) w' b := by
    intro b hb
    refine ⟨Nat.lt_of_lt_of_le hb.1 hg.size, hb.2.1, fun s hs q hq => ?_⟩
    by_cases hst : s = t
    · subst hst
      simp only [upd, if_true, and_self] at hq
      injection hq with hq
      subst hq
      exact (hne b hb).symm
    · have hl := live s hst (by rw [hs]; decide)
      rw [hl] at hs hq
      simp only [hst, false_and, if_false] at hq
      exact hb.2.2 s hs q hq
  have hOM : ∀ b, Old b → X.w0.heap.size ≤ b ∨ X.M b := by
    intro b hb
    obtain ⟨t0, p0, hk, hr, hpb, _⟩ := hO b hb
    obtain ⟨p1, hr1, _, _, hb, _⟩ := h.box t0 (by rw [hk]; decide)
    rw [hr] at hr1; injection hr1 with hr1; subst hr1
    rw [hpb] at hb
    exact hb.2 hk
  have hOC : ∀ b o, Old b → w.heap[b]? = some o → Obj.isC o = true := by
    intro b o hb ho
    obtain ⟨t0, p0, hk, hr, hpb, _⟩ := hO b hb
    obtain ⟨p1, hr1, _, _, _, hh⟩ := h.box t0 (by rw [hk]; decide)
    rw [hr] at hr1; injection hr1 with hr1; subst hr1
    obtain ⟨o', ho', hc⟩ := hh.isC
    rw [hpb, ho] at ho'; injection ho' with ho'; subst ho'
    exact hc
  have hpb : X.w0.heap.size ≤ p.b ∨ X.M p.b := by
    rcases hp with hp | hp
    · exact .inl (Nat.le_trans h.fr.size hp)
    · exact hOM _ hp
  have otherO : ∀ s q, s ≠ t → lv (bx s).k → upd bx1 t ⟨(bx t).ep + 1, 1, p.sz, p.ty, es⟩ s = bx s → ρ s (bx s).ep = some q → ¬ Old q.b := by
    intro s q hst hk hl hq e
    obtain ⟨t0, p0, hk0, hr0, hpb0, h0⟩ := hO _ e
    by_cases hs0 : s = t0
    · subst hs0
      rcases h0 with h0 | h0
      · exact hst h0
      · simp only [upd, hst, if_false] at hl
        rw [hl] at h0
        exact hk.1 h0
    · exact h.inj t0 s p0 q hk0 hk (Ne.symm hs0) hr0 hq hpb0
  have other : ∀ s q, s ≠ t → lv (bx s).k → upd bx1 t ⟨(bx t).ep + 1, 1, p.sz, p.ty, es⟩ s = bx s → ρ s (bx s).ep = some q → q.b ≠ p.b := by
    intro s q hst hk hl hq e
    rcases hp with hp | hp
    · obtain ⟨q', hq', _, _, _, hh'⟩ := h.box s hk
      rw [hq] at hq'; injection hq' with hq'; subst hq'
      have := hh'.lt; omega
    · exact otherO s q hst hk hl hq (e ▸ hp)
  refine ⟨h.fr.step hg (fun n hn hm => ?_), h.s0, h.nb, h.mb, h.ec, h.size, h.marks.mono hw hS hρ (fun _ h => h), h.nle, h.mkb, fun x => (h.tmps x).mono hw hS hρ, h.glo.mono hw hS hρ, fun s hs => ?_, fun s s' q q' hs hs' hss hq hq' => ?_, fun s e q hq => ?_, fun s e q hq => hρ s e q (h.r0 s e q hq), fun b o ho => ?_, h.holds0, h.yc, ?_, h.y0, h.h0lt, h.maps.of (fun s hs => ?_) hρ (fun _ _ _ _ _ h => h) (fun _ h => h)⟩
  · rcases hOM n hm with hpb | hpb
    · omega
    · exact .inl hpb
  · by_cases hst : s = t
    · subst hst
      simp only [upd, if_true]
      exact ⟨p, by simp, rfl, rfl, ⟨hpb.elim (fun h' => Nat.le_trans h.nb h') (h.mb _), fun _ => hpb⟩, hh _ _ hS hρ⟩
    · have hl := live s hst hs
      rw [hl] at hs ⊢
      obtain ⟨q, hq, h2, h3, h4, h5⟩ := h.box s hs
      refine ⟨q, by simp only [hst, false_and, if_false]; exact hq, h2, h3, h4, h5.mono (hg.block _ h5.lt (otherO s q hst hs hl hq)) hw hS hρ⟩
  · by_cases hst : s = t
    · subst hst
      simp only [upd, if_true, and_self] at hq
      injection hq with hq
      subst hq
      have hl := live s' (Ne.symm hss) hs'
      rw [hl] at hs' hq'
      simp only [Ne.symm hss, false_and, if_false] at hq'
      exact (other s' q' (Ne.symm hss) hs' hl hq').symm
    · have hl := live s hst (by rw [hs]; decide)
      rw [hl] at hs hq
      simp only [hst, false_and, if_false] at hq
      by_cases hst' : s' = t
      · subst hst'
        simp only [upd, if_true, and_self] at hq'
        injection hq' with hq'
        subst hq'
        exact other s q hst (by rw [hs]; decide) hl hq
      · have hl' := live s' hst' hs'
        rw [hl'] at hs' hq'
        simp only [hst', false_and, if_false] at hq'
        exact h.inj s s' q q' hs hs' hss hq hq'
  · by_cases hst : s = t
    · subst hst
      simp only [upd, if_true]
      by_cases he : e = (bx s).ep + 1
      · omega
      · simp only [he, and_false, if_false] at hq
        have := h.eps _ _ _ hq
        omega
    · simp only [hst, false_and, if_false] at hq
      have := h.eps _ _ _ hq
      simp only [upd, hst, if_false]
      rcases h1 s with e1 | ⟨_, e1, _⟩
      · rw [e1]; exact this
      · rw [e1]; exact this
  · obtain ⟨g1, g2⟩ := h.hold b o ho
    refine ⟨(hg.block b (Array.getElem?_eq_some_iff.1 g1).1 (fun hb => ?_)).trans g1, g2⟩
    have := hOC b o hb g1
    rw [g2] at this; cases this
  · rw [cutB_congr (bx := bx) (fun s hs => ?_)]
    · exact h.inv
    · have : s ≠ t := by omega
      simp only [upd, this, if_false]
      rcases h1 s with e1 | ⟨_, _, e1⟩
      · exact e1
      · omega
  · by_cases hst : s = t
    · subst hst
      simp [upd] at hs
    · simp only [upd, hst, if_false] at hs ⊢
      rcases h1 s with e1 | ⟨e1, _⟩
      · rw [e1] at hs ⊢; exact ⟨hs, rfl, rfl⟩
      · rw [e1] at hs; cases hs

/-- A store into a variable of one's own. -/
theorem Sim.stored {w' : World} {t : Nat} {p : Place} {es : List D} (h : Sim X ρ σ bx a w) (hlo : X.lo ≤ t) (hk : (bx t).k = 1) (hr : ρ t (bx t).ep = some p) (hg : Fr (fun b => b = p.b) w w')
    (hh : Holds w' (Stab X ρ bx w) ρ p es) : Sim X ρ σ (upd bx t { bx t with es := es }) a w' := by
  have hk' : ∀ s, (upd bx t { bx t with es := es } s).k = (bx s).k := fun s => by by_cases hs : s = t <;> simp [upd, hs]
  have he' : ∀ s, (upd bx t { bx t with es := es } s).ep = (bx s).ep := fun s => by by_cases hs : s = t <;> simp [upd, hs]
  have hne : ∀ b, Stab X ρ bx w b → b ≠ p.b := fun b hb e => hb.2.2 t hk p hr e.symm
  have hw : ∀ b, Stab X ρ bx w b → w'.heap[b]? = w.heap[b]? := fun b hb => hg.block b hb.1 (hne b hb)
  have hS : ∀ b, Stab X ρ bx w b → Stab X ρ (upd bx t { bx t with es := es }) w' b := fun b hb => ⟨Nat.lt_of_lt_of_le hb.1 hg.size, hb.2.1, fun s hs q hq => by
    rw [hk'] at hs; rw [he'] at hq; exact hb.2.2 s hs q hq⟩
  obtain ⟨p0, hr0, hz0, ht0, hb0, hh0⟩ := h.box t (by rw [hk]; decide)
  rw [hr] at hr0; injection hr0 with hr0; subst hr0
  refine ⟨h.fr.step hg (fun n hn hm => ?_), h.s0, h.nb, h.mb, h.ec, h.size, h.marks.mono hw hS (fun _ _ _ h => h) (fun _ h => h), h.nle, h.mkb, fun x => (h.tmps x).mono hw hS (fun _ _ _ h => h), h.glo.mono hw hS (fun _ _ _ h => h), fun s hs => ?_, fun s s' q q' hs hs' hss hq hq' => ?_, fun s e q hq => by rw [he']; exact h.eps s e q hq, h.r0, fun b o ho => ?_, h.holds0, h.yc, ?_, h.y0, h.h0lt, h.maps.of (fun s hs => ?_) (fun _ _ _ h => h) (fun _ _ _ _ _ h => h) (fun _ h => h)⟩
  · subst hm
    rcases hb0.2 hk with hb0 | hb0
    · omega
    · exact .inl hb0
  · by_cases hst : s = t
    · subst hst
      simp only [upd, if_true]
      exact ⟨p, hr, hz0, ht0, ⟨hb0.1, hb0.2⟩, hh.mono rfl (fun _ _ => rfl) hS (fun _ _ _ h => h)⟩
    · rw [hk'] at hs
      obtain ⟨q, hq, h2, h3, h4, h5⟩ := h.box s hs
      simp only [upd, hst, if_false]
      exact ⟨q, hq, h2, h3, h4, h5.mono (hg.block _ h5.lt (h.inj t s p q hk hs (Ne.symm hst) hr hq).symm) hw hS (fun _ _ _ h => h)⟩
  · rw [hk'] at hs hs'; rw [he'] at hq hq'
    exact h.inj s s' q q' hs hs' hss hq hq'
  · obtain ⟨g1, g2⟩ := h.hold b o ho
    refine ⟨(hg.block b (Array.getElem?_eq_some_iff.1 g1).1 (fun hb => ?_)).trans g1, g2⟩
    obtain ⟨o', ho', hc⟩ := hh0.isC
    rw [← hb, g1] at ho'; injection ho' with ho'; subst ho'
    rw [g2] at hc; cases hc
  · rw [cutB_congr (bx := bx) (fun s hs => ?_)]
    · exact h.inv
    · have : s ≠ t := by omega
      simp [upd, this]
  · by_cases hst : s = t
    · subst hst
      rw [hk', hk] at hs; cases hs
    · simp only [upd, hst, if_false] at hs ⊢
      exact ⟨hs, trivial, trivial⟩

/-- Own variables are given up, or not written any more: nothing turns in the world. -/
theorem Sim.less {bx' : Bxs} (h : Sim X ρ σ bx a w) (hl : ∀ s, (bx' s) = bx s ∨ (X.lo ≤ s ∧ (bx' s).k ≠ 1 ∧ (bx' s).ep = (bx s).ep ∧ (lv (bx' s).k → lv (bx s).k ∧ (bx' s).sz = (bx s).sz ∧ (bx' s).ty = (bx s).ty ∧ (bx' s).es = (bx s).es) ∧ ((bx' s).k = 3 → (bx s).k = 3 ∧ (bx' s).es = (bx s).es))) : Sim X ρ σ bx' a w := by
  have he : ∀ s, (bx' s).ep = (bx s).ep := fun s => by rcases hl s with e | e; · rw [e]
                                                       · exact e.2.2.1
  have h1 : ∀ s, (bx' s).k = 1 → (bx s).k = 1 := fun s hs => by rcases hl s with e | e; · rw [e] at hs; exact hs
                                                                · exact absurd hs e.2.1
  have h0 : ∀ s, lv (bx' s).k → lv (bx s).k ∧ (bx' s).sz = (bx s).sz ∧ (bx' s).ty = (bx s).ty ∧ (bx' s).es = (bx s).es := fun s hs => by
    rcases hl s with e | e
    · rw [e] at hs ⊢; exact ⟨hs, rfl, rfl, rfl⟩
    · exact e.2.2.2.1 hs
  have hS : ∀ b, Stab X ρ bx w b → Stab X ρ bx' w b := fun b hb => ⟨hb.1, hb.2.1, fun s hs q hq => by rw [he] at hq; exact hb.2.2 s (h1 s hs) q hq⟩
  refine ⟨h.fr, h.s0, h.nb, h.mb, h.ec, h.size, h.marks.mono (fun _ _ => rfl) hS (fun _ _ _ h => h) (fun _ h => h), h.nle, h.mkb, fun x => (h.tmps x).mono (fun _ _ => rfl) hS (fun _ _ _ h => h), h.glo.mono (fun _ _ => rfl) hS (fun _ _ _ h => h), fun s hs => ?_, fun s s' q q' hs hs' hss hq hq' => ?_, fun s e q hq => by rw [he]; exact h.eps s e q hq, h.r0, h.hold, h.holds0, h.yc, ?_, h.y0, h.h0lt, h.maps.of (fun s hs => ?_) (fun _ _ _ h => h) (fun _ _ _ _ _ h => h) (fun _ h => h)⟩
  · obtain ⟨g1, g2, g3, g4⟩ := h0 s hs
    obtain ⟨q, hq, k2, k3, k4, k5⟩ := h.box s g1
    exact ⟨q, by rw [he]; exact hq, by rw [g2]; exact k2, by rw [g3]; exact k3, ⟨k4.1, fun hk => k4.2 (h1 s hk)⟩, by rw [g4]; exact k5.mono rfl (fun _ _ => rfl) hS (fun _ _ _ h => h)⟩
  · rw [he] at hq hq'
    exact h.inj s s' q q' (h1 s hs) (h0 s' hs').1 hss hq hq'
  · rw [cutB_congr (bx := bx) (fun s hs => ?_)]
    · exact h.inv
    · rcases hl s with e1 | ⟨e1, _⟩
      · exact e1
      · omega
  · rcases hl s with e | e
    · rw [e] at hs ⊢; exact ⟨hs, rfl, rfl⟩
    · exact ⟨(e.2.2.2.2 hs).1, e.2.2.1, (e.2.2.2.2 hs).2⟩

/-- the blocks of the maps -/
def mapB (ρ : Rho) (bx : Bxs) (b : Nat) : Prop := ∃ t p, (bx t).k = 3 ∧ ρ t (bx t).ep = some p ∧ p.b = b
/-- An activation (a callee, a round) that runs from here on with the boxes shared. -/
def Ctx.sub (X : Ctx) (ρ : Rho) (bx : Bxs) (w : World) (E : Nat → Prop) (N ml md : Nat) : Ctx :=
  { w0 := w, S0 := X.S0, n0 := X.n0, M := fun b => ∃ t p, (bx t).k = 1 ∧ ρ t (bx t).ep = some p ∧ p.b = b, E := fun b => E b ∨ mapB ρ bx b, N := N, r0 := ρ, ml := ml, lo := 0, Y := fun _ _ => True, md := md }

theorem Stab_sub (X : Ctx) (ρ ρ' : Rho) (bx bx' : Bxs) (w w' : World) (E : Nat → Prop) (N ml md : Nat) : Stab (X.sub ρ bx w E N ml md) ρ' bx' w' = Stab X ρ' bx' w' := rfl

theorem Sim.notMap (h : Sim X ρ σ bx a w) {b : Nat} {o : Obj} (hb : ρ.hold b = some o) (hn : Obj.isM o = false) : ¬ mapB ρ bx b := by
  rintro ⟨t, p, h1, h2, rfl⟩
  obtain ⟨q, o', g1, g2, _, g4⟩ := h.maps.has t h1
  rw [h2] at g1; injection g1 with g1; subst g1
  rw [hb] at g2; injection g2 with g2; subst g2
  rw [g4.isM] at hn; cases hn
theorem Sim.sub (h : Sim X ρ σ bx a w) {E : Nat → Prop} {N ml md : Nat} {σ' : Env} {a' : Act} (hN : N ≤ dfS) (hE : ∀ b, E b → ∀ o, w.heap[b]? = some o → Obj.isC o = false) (hs : a'.tmps.size = N) (hm : Mk w (Stab X ρ bx w) ρ md ml (σ' dfS) a'.defers) (hmk : ml ≤ w.heap.size)
    (ht : ∀ t, Rep w (Stab X ρ bx w) ρ (σ' t) (a'.tmps.getD t undef)) : Sim (X.sub ρ bx w E N ml md) ρ σ' bx a' w := by
  have hE' : ∀ b, E b ∨ mapB ρ bx b → ∀ o, w.heap[b]? = some o → Obj.isC o = false := fun b hb o ho => by
    rcases hb with hb | ⟨t, p, h1, h2, rfl⟩
    · exact hE b hb o ho
    · obtain ⟨q, o', g1, g2, _, g4⟩ := h.maps.has t h1
      rw [h2] at g1; injection g1 with g1; subst g1
      have := (h.hold _ _ g2).1
      rw [ho] at this; injection this with this; subst this
      exact g4.isC.1
  refine ⟨.refl _ _, h.s0, Nat.le_trans h.nb h.fr.size, ?_, hE', hs, hm, hN, hmk, ht, h.glo, fun t hk => ?_, h.inj, h.eps, fun _ _ _ h => h, h.hold, fun _ _ h _ => h, fun _ _ _ _ _ => trivial, trivial, fun _ _ _ => trivial, fun b o ho => (Array.getElem?_eq_some_iff.1 (h.hold b o ho).1).1, ⟨fun t ht => let ⟨p, o, g1, g2, _, g4⟩ := h.maps.has t ht; ⟨p, o, g1, g2, .inl (.inr ⟨t, p, ht, g1, rfl⟩), g4⟩, h.maps.inj⟩⟩
  · rintro b ⟨t, p, hk, hp, rfl⟩
    obtain ⟨p', hp', _, _, hb, _⟩ := h.box t (by rw [hk]; decide)
    rw [hp] at hp'; injection hp' with hp'; subst hp'
    exact hb.1
  · obtain ⟨p, hp, h2, h3, hb, hh⟩ := h.box t hk
    exact ⟨p, hp, h2, h3, ⟨hb.1, fun hk1 => .inr ⟨t, p, hk1, hp, rfl⟩⟩, hh⟩

/-- Behind it, an activation that waited goes on. -/
theorem Sim.back {X' : Ctx} {ρ2 : Rho} {σ' : Env} {bx2 : Bxs} {a' : Act} {w2 : World} {E : Nat → Prop} {N ml md : Nat} (h : Sim X' ρ σ bx a w) (hS : X'.S0 = X.S0) (hn : X'.n0 = X.n0) (k : Sim (X.sub ρ bx w E N ml md) ρ2 σ' bx2 a' w2)
    (hE : ∀ b, E b → X'.E b ∨ X'.w0.heap.size ≤ b) (hd : ∀ b, E b → ρ.hold b ≠ some (.deferred (some []))) (h0 : ∀ b, E b → X'.r0.hold b = none ∨ X'.E b) (hY : X'.Y (cutB X'.lo bx2) ρ2.hold) : Sim X' ρ2 σ bx2 a w2 := by
  have hst : ∀ ρ' bx' w', Stab X' ρ' bx' w' = Stab (X.sub ρ bx w E N ml md) ρ' bx' w' := fun ρ' bx' w' => by
    funext b; simp only [Stab, Ctx.sub, hS, hn]
  have hE' : ∀ b, E b ∨ mapB ρ bx b → X'.E b ∨ X'.w0.heap.size ≤ b := fun b hb => by
    rcases hb with hb | ⟨t, p, h1, h2, rfl⟩
    · exact hE b hb
    · obtain ⟨q, o', g1, g2, g3, g4⟩ := h.maps.has t h1
      rw [h2] at g1; injection g1 with g1; subst g1
      exact g3
  have hd' : ∀ b, E b ∨ mapB ρ bx b → ρ.hold b ≠ some (.deferred (some [])) := fun b hb => by
    rcases hb with hb | ⟨t, p, h1, h2, rfl⟩
    · exact hd b hb
    · obtain ⟨q, o', g1, g2, g3, g4⟩ := h.maps.has t h1
      rw [h2] at g1; injection g1 with g1; subst g1
      rw [g2]
      intro e; injection e with e
      exact g4.isC.2 _ e
  have h0' : ∀ b, E b ∨ mapB ρ bx b → X'.r0.hold b = none ∨ X'.E b := fun b hb => by
    rcases hb with hb | hb
    · exact h0 b hb
    · rcases hE' b (.inr hb) with g | g
      · exact .inr g
      · left
        cases ho : X'.r0.hold b with
        | none => rfl
        | some o => have := h.h0lt b o ho; omega
  have hlive : ∀ b, Stab X' ρ bx w b → ¬ (X.sub ρ bx w E N ml md).M b := by
    rintro b hb ⟨t, p, hk, hp, rfl⟩
    exact hb.2.2 t hk p hp rfl
  have hw : ∀ b, Stab X' ρ bx w b → SameC w w2 b := by
    intro b hb o ho hc
    refine (k.fr.block b hb.1 (fun hm => ?_)).trans ho
    rcases hm with hm | hm
    · exact hlive b hb hm
    · have := k.ec b hm o ho
      rw [hc] at this; cases this
  have hSt : ∀ b, Stab X' ρ bx w b → Stab X' ρ2 bx2 w2 b := by
    intro b hb
    refine ⟨Nat.lt_of_lt_of_le hb.1 k.fr.size, hb.2.1, fun t ht p hp e => ?_⟩
    obtain ⟨p', hp', _, _, hpb, _⟩ := k.box t (by rw [ht]; decide)
    rw [hp] at hp'; injection hp' with hp'; subst hp'
    rcases hpb.2 ht with h1 | h1
    · have := hb.1; simp only [Ctx.sub] at h1; omega
    · exact hlive b hb (e ▸ h1)
  refine ⟨h.fr.step k.fr (fun n hnl hm => ?_), h.s0, h.nb, h.mb, h.ec, h.size, h.marks.monoC hw hSt k.r0 (fun r _ hr => k.holds0 r _ hr (fun he => hd' r he hr)), h.nle, h.mkb, fun t => (h.tmps t).monoC hw hSt k.r0, h.glo.monoC hw hSt k.r0, fun t hk => ?_, k.inj, k.eps, fun t e p hp => k.r0 t e p (h.r0 t e p hp), k.hold, fun b o ho hnE => ?_, h.yc, hY, h.y0, h.h0lt, ⟨fun t ht => let ⟨p, o, g1, g2, g3, g4⟩ := k.maps.has t ht; ⟨p, o, g1, g2, g3.elim (fun g => hE' _ g) (fun g => .inr (Nat.le_trans h.fr.size g)), g4⟩, k.maps.inj⟩⟩
  · rcases hm with ⟨t, p, hk, hp, rfl⟩ | hm
    · obtain ⟨p', hp', _, _, hpb, _⟩ := h.box t (by rw [hk]; decide)
      rw [hp] at hp'; injection hp' with hp'; subst hp'
      rcases hpb.2 hk with h1 | h1
      · omega
      · exact .inl h1
    · rcases hE' n hm with h1 | h1
      · exact .inr h1
      · omega
  · obtain ⟨p, hp, h2, h3, hpb, hh⟩ := k.box t hk
    refine ⟨p, hp, h2, h3, ⟨by rw [hn]; exact hpb.1, fun hk1 => ?_⟩, by rw [hst]; exact hh⟩
    rcases hpb.2 hk1 with h1 | ⟨s, q, hs, hq, e⟩
    · exact .inl (Nat.le_trans h.fr.size h1)
    · obtain ⟨q', hq', _, _, hqb, _⟩ := h.box s (by rw [hs]; decide)
      rw [hq] at hq'; injection hq' with hq'; subst hq'
      rw [← e]; exact hqb.2 hs
  · refine k.holds0 b o (h.holds0 b o ho hnE) (fun he => ?_)
    rcases h0' b he with h1 | h1
    · rw [ho] at h1; cases h1
    · exact hnE h1

/-- A block without cells turns, of those that may. -/
theorem Sim.setHold {b : Nat} {o o' : Obj} (h : Sim X ρ σ bx a w) (hb : ρ.hold b = some o) (hE : X.E b ∨ X.w0.heap.size ≤ b) (h0 : X.r0.hold b = none ∨ X.E b) (hd : o ≠ .deferred (some [])) (hn : Obj.isM o = false) (ho : Obj.isC o' = false) {w' : World} (hw : Fr (fun k => k = b) w w') (hw' : w'.heap[b]? = some o') (hY : X.Y (cutB X.lo bx) (fun k => if k = b then some o' else ρ.hold k)) :
    Sim X ⟨ρ.at_, fun k => if k = b then some o' else ρ.hold k⟩ σ bx a w' := by
  obtain ⟨g1, g2⟩ := h.hold b o hb
  have hsame : ∀ k, SameC w w' k := by
    intro k o1 ho1 hc
    refine (hw.block k (Array.getElem?_eq_some_iff.1 ho1).1 (fun e => ?_)).trans ho1
    subst e
    rw [g1] at ho1; injection ho1 with ho1; subst ho1
    rw [g2] at hc; cases hc
  have hS : ∀ k, Stab X ρ bx w k → Stab X ⟨ρ.at_, fun k => if k = b then some o' else ρ.hold k⟩ bx w' k := fun k hk => ⟨Nat.lt_of_lt_of_le hk.1 hw.size, hk.2.1, hk.2.2⟩
  refine ⟨h.fr.step hw (fun n hn hm => ?_), h.s0, h.nb, h.mb, h.ec, h.size, h.marks.monoC (fun k _ => hsame k) hS (fun _ _ _ h => h) (fun r _ hr => ?_), h.nle, h.mkb, fun t => (h.tmps t).monoC (fun k _ => hsame k) hS (fun _ _ _ h => h), h.glo.monoC (fun k _ => hsame k) hS (fun _ _ _ h => h), fun t hk => ?_, h.inj, h.eps, h.r0, fun k o1 ho1 => ?_, fun k o1 ho1 hnE => ?_, h.yc, hY, h.y0, h.h0lt, h.maps.of (fun t ht => ⟨ht, rfl, rfl⟩) (fun _ _ _ h => h) (fun t p o1 ht hp ho1 => ?_) (fun _ h => h)⟩
  · subst hm
    rcases hE with h1 | h1
    · exact .inr h1
    · omega
  · show (if r = b then some o' else ρ.hold r) = _
    rw [if_neg]
    · exact hr
    · intro e; subst e; rw [hb] at hr; injection hr with hr; exact hd hr
  · obtain ⟨p, hp, h2, h3, h4, h5⟩ := h.box t hk
    exact ⟨p, hp, h2, h3, h4, h5.monoC (hsame _) (fun k _ => hsame k) hS (fun _ _ _ h => h)⟩
  · by_cases e : k = b
    · subst e
      simp only [if_true, Option.some.injEq] at ho1
      subst ho1
      exact ⟨hw', ho⟩
    · simp only [e, if_false] at ho1
      obtain ⟨k1, k2⟩ := h.hold k o1 ho1
      exact ⟨(hw.block k (Array.getElem?_eq_some_iff.1 k1).1 e).trans k1, k2⟩
  · show (if k = b then some o' else ρ.hold k) = _
    by_cases e : k = b
    · subst e
      rcases h0 with h1 | h1
      · rw [ho1] at h1; cases h1
      · exact absurd h1 hnE
    · rw [if_neg e]; exact h.holds0 k o1 ho1 hnE
  · show (if p.b = b then some o' else ρ.hold p.b) = _
    rw [if_neg]
    · exact ho1
    · intro e
      obtain ⟨q, o2, g1, g2, _, g4⟩ := h.maps.has t ht
      rw [hp] at g1; injection g1 with g1; subst g1
      rw [e, hb] at g2; injection g2 with g2; subst g2
      rw [g4.isM] at hn; cases hn

/-- A new block without cells. -/
theorem Sim.newHold {o : Obj} (h : Sim X ρ σ bx a w) (ho : Obj.isC o = false) : Sim X ⟨ρ.at_, fun k => if k = w.heap.size then some o else ρ.hold k⟩ σ bx a (w.alloc o) := by
  have hx := h.ext ((Below.refl w.heap.size w).alloc (Nat.le_refl _) o)
  have hlt : ∀ k o1, ρ.hold k = some o1 → k ≠ w.heap.size := fun k o1 h1 e => by
    have := (Array.getElem?_eq_some_iff.1 (h.hold k o1 h1).1).1
    omega
  have hsame : ∀ k o1, ρ.hold k = some o1 → (if k = w.heap.size then some o else ρ.hold k) = some o1 := fun k o1 h1 => by rw [if_neg (hlt k o1 h1)]; exact h1
  refine ⟨hx.fr, hx.s0, hx.nb, hx.mb, hx.ec, hx.size, hx.marks.mono (fun _ _ => rfl) (fun _ h => h) (fun _ _ _ h => h) (fun r hr => hsame r _ hr), hx.nle, hx.mkb, fun t => (hx.tmps t).mono (fun _ _ => rfl) (fun _ h => h) (fun _ _ _ h => h), hx.glo.mono (fun _ _ => rfl) (fun _ h => h) (fun _ _ _ h => h), fun t hk => ?_, hx.inj, hx.eps, hx.r0, fun k o1 ho1 => ?_, fun k o1 ho1 hnE => hsame k o1 (h.holds0 k o1 ho1 hnE), h.yc, h.yc _ _ _ h.inv hsame, h.y0, h.h0lt, h.maps.of (fun t ht => ⟨ht, rfl, rfl⟩) (fun _ _ _ h => h) (fun t p o1 ht hp ho1 => hsame _ o1 ho1) (fun _ h => h)⟩
  · obtain ⟨p, hp, h2, h3, h4, h5⟩ := hx.box t hk
    exact ⟨p, hp, h2, h3, h4, h5.mono rfl (fun _ _ => rfl) (fun _ h => h) (fun _ _ _ h => h)⟩
  · by_cases e : k = w.heap.size
    · subst e
      simp only [if_true, Option.some.injEq] at ho1
      subst ho1
      exact ⟨heap_alloc_new w o, ho⟩
    · simp only [e, if_false] at ho1
      exact hx.hold k o1 ho1

/-- Another frame in the same place. -/
theorem Sim.switch {σ' : Env} {a' : Act} (h : Sim X ρ σ bx a w) (hs : a'.tmps.size = X.N) (hm : Mk w (Stab X ρ bx w) ρ X.md X.ml (σ' dfS) a'.defers) (ht : ∀ t, Rep w (Stab X ρ bx w) ρ (σ' t) (a'.tmps.getD t undef)) : Sim X ρ σ' bx a' w :=
  { h with size := hs, marks := hm, tmps := ht }

theorem Defs.mem {S : Nat → Prop} {m : Nat} {l : List D} {ds : List Deferred} (h : Defs w S ρ m l ds) : ∀ r, markOf r ∈ ds → ρ.hold r = some (.deferred (some [])) := by
  induction h with
  | nil => intro r hr; simp at hr
  | @mark l r0 ds h0 hm hn _ ih =>
    intro r hr
    rcases List.mem_cons.1 hr with e | hr
    · have : r = r0 := by simp only [markOf, Deferred.mk.injEq, Target.collected.injEq] at e; exact e.1
      subst this; exact h0
    · exact ih r hr
  | call _ _ _ _ _ ih =>
    intro r hr
    rcases List.mem_cons.1 hr with e | hr
    · simp [markOf] at e
    · exact ih r hr

/-- A mark is taken. -/
theorem Sim.take2 {r : Nat} {ds : List Deferred} (h : Sim X ρ σ bx a w) (hd : a.defers = markOf r :: ds) (hmk : X.ml = X.w0.heap.size) (hmd : X.md ≠ 1) {w' : World} (hw : Fr (fun k => k = r) w w') (hw' : w'.heap[r]? = some (.deferred none)) (hlo : X.lo = 0) :
    ∃ ρ', Sim X ρ' σ bx { a with defers := ds } w' ∧ (∀ b o, ρ.hold b = some o → o ≠ .deferred (some []) → ρ'.hold b = some o) ∧ ∀ d v, Rep w (Stab X ρ bx w) ρ d v → Rep w' (Stab X ρ' bx w') ρ' d v := by
  obtain ⟨l, hl, hm⟩ : ∃ l, (l = if X.md = 0 then [] else recD (σ dfS)) ∧ Defs w (Stab X ρ bx w) ρ X.ml l (markOf r :: ds) := by
    have hm := h.marks
    rw [hd] at hm
    exact ⟨_, rfl, (hm.resolve_left hmd).1⟩
  have hm3 : X.md ≠ 3 := by
    intro h3
    have := (h.marks.resolve_left hmd).2 h3
    rw [hd] at this; cases this
  have hh := hm.mem r (List.mem_cons_self ..)
  obtain ⟨hge, hn, hm2⟩ : X.ml ≤ r ∧ markOf r ∉ ds ∧ Defs w (Stab X ρ bx w) ρ X.ml l ds := by
    generalize hx : markOf r :: ds = dd at hm
    cases hm with
    | nil => cases hx
    | @mark _ q _ h1 h2 h3 h4 =>
      injection hx with e1 e2
      have : r = q := by simp only [markOf, Deferred.mk.injEq, Target.collected.injEq] at e1; exact e1.1
      subst this; subst e2
      exact ⟨h2, h3, h4⟩
    | call => injection hx with e1 e2; simp [markOf] at e1
  obtain ⟨g1, g2⟩ := h.hold r _ hh
  have hsame : ∀ k, SameC w w' k := by
    intro k o1 ho1 hc
    refine (hw.block k (Array.getElem?_eq_some_iff.1 ho1).1 (fun e => ?_)).trans ho1
    subst e
    rw [g1] at ho1; injection ho1 with ho1; subst ho1
    rw [g2] at hc; cases hc
  have hS : ∀ k, Stab X ρ bx w k → Stab X ⟨ρ.at_, fun k => if k = r then some (.deferred none) else ρ.hold k⟩ bx w' k := fun k hk => ⟨Nat.lt_of_lt_of_le hk.1 hw.size, hk.2.1, hk.2.2⟩
  have hmarks : Mk w' (Stab X ⟨ρ.at_, fun k => if k = r then some (.deferred none) else ρ.hold k⟩ bx w') ⟨ρ.at_, fun k => if k = r then some (.deferred none) else ρ.hold k⟩ X.md X.ml (σ dfS) ds := by
    refine .inr ⟨?_, fun h3 => absurd h3 hm3⟩
    rw [← hl]
    refine hm2.monoC (fun k _ => hsame k) hS (fun _ _ _ h => h) fun q hq hq0 => ?_
    show (if q = r then some (.deferred none) else ρ.hold q) = _
    rw [if_neg]
    · exact hq0
    · rintro rfl; exact hn hq
  refine ⟨⟨ρ.at_, fun k => if k = r then some (.deferred none) else ρ.hold k⟩, ⟨h.fr.step hw (fun n hn hm => ?_), h.s0, h.nb, h.mb, h.ec, h.size, hmarks, h.nle, h.mkb, fun t => (h.tmps t).monoC (fun k _ => hsame k) hS (fun _ _ _ h => h), h.glo.monoC (fun k _ => hsame k) hS (fun _ _ _ h => h), fun t hk => ?_, h.inj, h.eps, h.r0, fun k o1 ho1 => ?_, fun k o1 ho1 hnE => ?_, h.yc, h.y0 hlo _ _, h.y0, h.h0lt, h.maps.of (fun t ht => ⟨ht, rfl, rfl⟩) (fun _ _ _ h => h) (fun t p o1 ht hp ho1 => ?_) (fun _ h => h)⟩, fun b o ho hno => ?_, fun d v hr => hr.monoC (fun k _ => hsame k) hS (fun _ _ _ h => h)⟩
  · subst hm; omega
  · obtain ⟨p, hp, h2, h3, h4, h5⟩ := h.box t hk
    exact ⟨p, hp, h2, h3, h4, h5.monoC (hsame _) (fun k _ => hsame k) hS (fun _ _ _ h => h)⟩
  · by_cases e : k = r
    · subst e
      simp only [if_true, Option.some.injEq] at ho1
      subst ho1
      exact ⟨hw', rfl⟩
    · simp only [e, if_false] at ho1
      obtain ⟨k1, k2⟩ := h.hold k o1 ho1
      exact ⟨(hw.block k (Array.getElem?_eq_some_iff.1 k1).1 e).trans k1, k2⟩
  · show (if k = r then some (.deferred none) else ρ.hold k) = _
    rw [if_neg]
    · exact h.holds0 k o1 ho1 hnE
    · intro e; subst e
      have := h.h0lt k o1 ho1
      omega
  · show (if p.b = r then some (.deferred none) else ρ.hold p.b) = _
    rw [if_neg]
    · exact ho1
    · intro e
      obtain ⟨q, o2, g1, g2, _, g4⟩ := h.maps.has t ht
      rw [hp] at g1; injection g1 with g1; subst g1
      rw [e, hh] at g2; injection g2 with g2; subst g2
      exact g4.isC.2 _ rfl
  · show (if b = r then some (.deferred none) else ρ.hold b) = _
    rw [if_neg]
    · exact ho
    · intro e; subst e
      rw [hh] at ho; injection ho with ho; exact hno ho.symm

theorem Sim.take {r : Nat} {ds : List Deferred} (h : Sim X ρ σ bx a w) (hd : a.defers = markOf r :: ds) (hmk : X.ml = X.w0.heap.size) (hmd : X.md ≠ 1) {w' : World} (hw : Fr (fun k => k = r) w w') (hw' : w'.heap[r]? = some (.deferred none)) (hlo : X.lo = 0) :
    ∃ ρ', Sim X ρ' σ bx { a with defers := ds } w' ∧ ∀ b o, ρ.hold b = some o → o ≠ .deferred (some []) → ρ'.hold b = some o :=
  let ⟨ρ', h1, h2, _⟩ := h.take2 hd hmk hmd hw hw' hlo
  ⟨ρ', h1, h2⟩

end Go.V

namespace Go.V
open Go.RowKit

section inv
variable {w : World} {S : Nat → Prop} {ρ : Rho} {v : Value}
theorem Rep.inv_int {k : IntKind} {n : Int} (h : Rep w S ρ (.int k n) v) : v = .int k n := by cases h with | pure h => cases h; rfl
theorem Rep.inv_bool {b : Bool} (h : Rep w S ρ (.bool b) v) : v = .bool b := by cases h with | pure h => cases h; rfl
theorem Rep.inv_str {l : List UInt8} (h : Rep w S ρ (.str l) v) : v = .string ⟨l.toArray⟩ := by cases h with | pure h => cases h; rfl
theorem Rep.inv_raw {x : Value} (h : Rep w S ρ (.raw x) v) : v = x := by cases h with | pure h => cases h; rfl
theorem Rep.inv_nil (h : Rep w S ρ .nilsl v) : v = .slice none 0 0 := by cases h with | pure h => cases h; rfl
theorem Rep.inv_loc {t e i j : Nat} (h : Rep w S ρ (.loc t e i j) v) : ∃ p, ρ t e = some p ∧ v = .pointer (some ⟨p.b, i * p.sz + j, none⟩) := by
  cases h with
  | pure h => cases h
  | loc hp hq => subst hq; exact ⟨_, hp, rfl⟩
theorem Rep.inv_agg {ds : List D} (h : Rep w S ρ (.agg ds) v) : ∃ vs, v = .agg vs ∧ vs.size = ds.length ∧ ∀ (i : Nat) d u, ds[i]? = some d → vs[i]? = some u → Rep w S ρ d u := by
  cases h with
  | pure h => cases h with | agg hl h => exact ⟨_, rfl, hl, fun i d u hd hu => .pure (h i d u hd hu)⟩
  | agg hl h => exact ⟨_, rfl, hl, h⟩
theorem Rep.inv_tup {ds : List D} (h : Rep w S ρ (.tup ds) v) : ∃ vs, v = .tuple vs ∧ vs.size = ds.length ∧ ∀ (i : Nat) d u, ds[i]? = some d → vs[i]? = some u → Rep w S ρ d u := by
  cases h with
  | pure h => cases h with | tup hl h => exact ⟨_, rfl, hl, fun i d u hd hu => .pure (h i d u hd hu)⟩
  | tup hl h => exact ⟨_, rfl, hl, h⟩
theorem Rep.inv_fn {f : Fn} {ds : List D} (h : Rep w S ρ (.fn f ds) v) : ∃ vs, v = .func f #[] vs ∧ vs.size = ds.length ∧ ∀ (i : Nat) d u, ds[i]? = some d → vs[i]? = some u → Rep w S ρ d u := by
  cases h with
  | pure h => cases h with | fn hl h => exact ⟨_, rfl, hl, fun i d u hd hu => .pure (h i d u hd hu)⟩
  | fn hl h => exact ⟨_, rfl, hl, h⟩
theorem Rep.inv_bfn {f : FuncId} {ds : List D} (h : Rep w S ρ (.bfn f ds) v) : ∃ vs, v = .func (.func f) vs #[] ∧ vs.size = ds.length ∧ ∀ (i : Nat) d u, ds[i]? = some d → vs[i]? = some u → Rep w S ρ d u := by
  cases h with
  | pure h => cases h with | bfn hl h => exact ⟨_, rfl, hl, fun i d u hd hu => .pure (h i d u hd hu)⟩
  | bfn hl h => exact ⟨_, rfl, hl, h⟩
end inv

variable {P : Program} {X : Ctx} {ρ : Rho} {σ : Env} {bx : Bxs} {a : Act} {w : World}

/-! what tiOf says -/
theorem size_ex {t : TypeId} (h : 0 < sizeT P t) : ∃ i d, P.info? t = some i ∧ P.underlying t = some d ∧ i.size = sizeT P t := by
  unfold sizeT at h ⊢
  cases hu : P.underlying t with
  | none => simp [hu] at h
  | some d =>
    simp only [hu, Option.isSome_some, if_true] at h ⊢
    cases hi : P.info? t with
    | none => simp [hi] at h
    | some i => exact ⟨i, d, by first | rfl | trivial, by first | rfl | trivial, by first | rfl | trivial⟩
theorem ti_size {t : TypeId} (h : 0 < (tiOf P t).size) : ∃ i d, P.info? t = some i ∧ P.underlying t = some d ∧ i.size = (tiOf P t).size ∧ (tiOf P t).size = sizeT P t := by
  obtain ⟨i, d, h1, h2, h3⟩ := size_ex (P := P) (t := t) h
  exact ⟨i, d, h1, h2, h3, rfl⟩
theorem run_sizeT {t : TypeId} (h : 0 < sizeT P t) (w : World) : (sizeOf t).run P w = .ok (sizeT P t) w := by
  obtain ⟨i, d, h1, _, h3⟩ := size_ex h
  rw [← h3]
  simp [sizeOf, typeInfo, h1, go_sem]
theorem run_aggT {t : TypeId} {d : TypeDesc} (h : P.underlying t = some d) (w : World) : (isAgg t).run P w = .ok (aggT P t) w := by
  simp only [isAgg, Sem.run_bind, run_underlying h, Result.andThen_ok, aggT, h]
  cases d <;> simp
theorem ti_slice {t e esz b : Nat} {ag : Bool} (h : (tiOf P t).k = .slice e esz b ag) : P.underlying t = some (.slice e) ∧ esz = sizeT P e ∧ b = ((P.info? e).map (·.bytes)).getD 0 ∧ ag = aggT P e := by
  simp only [tiOf] at h
  cases hu : P.underlying t with
  | none => simp [hu] at h
  | some d => cases d <;> simp [hu] at h <;> (obtain ⟨rfl, rfl, rfl, rfl⟩ := h; exact ⟨rfl, rfl, rfl, rfl⟩)
theorem ti_struct {t : TypeId} {fs : List (Nat × Nat × Bool)} {eq : List Nat} (h : (tiOf P t).k = .struct fs eq) : ∃ F : Array Field, P.underlying t = some (.struct F) ∧ fs = F.toList.map (fun f => (f.offset, sizeT P f.type, aggT P f.type)) ∧
    eq = (if F.toList.all (fun f => f.name != "_" && flatT P f.type && sizeT P f.type == 1) && !P.stoodInHeld t && !P.eqGuardType P.depth t && (F.toList.map (·.offset)) == List.range F.size && sizeT P t == F.size then F.toList.map fun f => kindT P f.type else []) := by
  simp only [tiOf] at h
  cases hu : P.underlying t with
  | none => simp [hu] at h
  | some d =>
    cases d <;> simp only [hu] at h <;> first | (cases h; done) | skip
    rename_i F
    injection h with h1 h2
    exact ⟨F, rfl, h1.symm, h2.symm⟩
theorem ti_str {t : TypeId} (h : (tiOf P t).k = .str) : P.underlying t = some .string := by
  simp only [tiOf] at h
  cases hu : P.underlying t with
  | none => simp [hu] at h
  | some d => cases d <;> simp [hu] at h; rfl
theorem ti_bool {t : TypeId} (h : (tiOf P t).k = .bool) : P.underlying t = some .bool := by
  simp only [tiOf] at h
  cases hu : P.underlying t with
  | none => simp [hu] at h
  | some d => cases d <;> simp [hu] at h; rfl
theorem ti_int {t : TypeId} {k : IntKind} (h : (tiOf P t).k = .int k) : P.underlying t = some (.int k) := by
  simp only [tiOf] at h
  cases hu : P.underlying t with
  | none => simp [hu] at h
  | some d => cases d <;> simp [hu] at h; rw [h]
theorem ti_arr {t n esz : Nat} {ag : Bool} (h : (tiOf P t).k = .arr n esz ag) : ∃ e, P.underlying t = some (.array n e) ∧ esz = sizeT P e ∧ ag = aggT P e := by
  simp only [tiOf] at h
  cases hu : P.underlying t with
  | none => simp [hu] at h
  | some d =>
    cases d <;> simp [hu] at h
    obtain ⟨rfl, h2, h3⟩ := h
    exact ⟨_, rfl, h2.symm, h3.symm⟩

theorem ti_ifc {t : TypeId} (h : (tiOf P t).k = .ifc) : ∃ ms, P.underlying t = some (.interface ms) := by
  simp only [tiOf] at h
  cases hu : P.underlying t with
  | none => simp [hu] at h
  | some d => cases d <;> simp [hu] at h; exact ⟨_, rfl⟩
theorem ti_noifc {t : TypeId} (h : (tiOf P t).k ≠ .none) (h2 : (tiOf P t).k ≠ .ifc) : ∃ d, P.underlying t = some d ∧ ∀ ms, d ≠ .interface ms := by
  simp only [tiOf] at h h2
  cases hu : P.underlying t with
  | none => simp [hu] at h
  | some d =>
    refine ⟨d, rfl, ?_⟩
    rintro ms rfl
    simp [hu] at h2

/-! loads -/
theorem run_loadV {t b o : Nat} {us : Nat → Value} (hz : 0 < (tiOf P t).size) (hc : ∀ j, j < (if (tiOf P t).agg then (tiOf P t).size else 1) → w.cell? ⟨b, o + j, none⟩ = some (us j)) :
    (loadVar t ⟨b, o, none⟩).run P w = .ok (if (tiOf P t).agg then .agg ((List.range (tiOf P t).size).map us).toArray else us 0) w := by
  obtain ⟨i, d, hi, hd, hs, hs2⟩ := ti_size hz
  have hag : (tiOf P t).agg = aggT P t := rfl
  rw [hs2] at hz
  simp only [loadVar, Sem.run_bind, run_aggT hd, Result.andThen_ok, hag] at hc ⊢
  cases hA : aggT P t with
  | false =>
    have h0 := hc 0 (by simp [hA])
    simp only [Nat.add_zero] at h0
    simp [load, Sem.run, h0]
  | true =>
    simp only [if_true, Sem.run_bind, run_sizeT hz, Result.andThen_ok]
    have hl : ((List.range (sizeT P t)).map us).length = sizeT P t := by simp
    have := run_loadCells_list (P := P) (w := w) ⟨b, o, none⟩ ((List.range (sizeT P t)).map us) (fun j v hj => by
      have hj' : j < sizeT P t := by have := (List.getElem?_eq_some_iff.1 hj).1; simpa using this
      simp only [List.getElem?_map, List.getElem?_range hj', Option.map_some, Option.some.injEq] at hj
      subst hj
      rw [← hs2] at hj'
      have := hc j (by simpa [hA] using hj')
      simp only [Addr.add]
      by_cases h0 : j = 0
      · subst h0; simpa using this
      · simp [h0]; exact this)
    rw [hl] at this
    simp [this, hs2]

/-- what is loaded represents what pickD picks -/
theorem pick_rep {S : Nat → Prop} {d r : D} {j k : Nat} {ag : Bool} {us : Nat → Value} (hp : pickD d j ag k = some r) (hu : ∀ m c, m < (if ag then k else 1) → d.cells[j + m]? = some c → Rep w S ρ c (us m)) :
    Rep w S ρ r (if ag then .agg ((List.range k).map us).toArray else us 0) := by
  unfold pickD at hp
  cases ag with
  | true =>
    simp only [if_true] at hp ⊢
    split at hp
    · rename_i hle
      injection hp with hp
      subst hp
      refine .agg (by simp; omega) fun i c v hc hv => ?_
      have hi : i < k := by
        have := (Array.getElem?_eq_some_iff.1 hv).1
        simpa using this
      simp only [List.getElem?_toArray, List.getElem?_map, List.getElem?_range hi, Option.map_some, Option.some.injEq] at hv
      subst hv
      rw [List.getElem?_take_of_lt hi, List.getElem?_drop] at hc
      exact hu i c (by simpa using hi) hc
    · cases hp
  | false =>
    simp only [Bool.false_eq_true, if_false] at hp ⊢
    exact hu 0 r (by simp) (by simpa using hp)

theorem pick_lt {d r : D} {j k : Nat} {ag : Bool} (hp : pickD d j ag k = some r) : ∀ m, m < (if ag then k else 1) → ∃ c, d.cells[j + m]? = some c := by
  intro m hm
  unfold pickD at hp
  cases ag with
  | true =>
    simp only [if_true] at hp hm
    split at hp
    · exact ⟨_, List.getElem?_eq_getElem (by omega)⟩
    · cases hp
  | false =>
    simp only [Bool.false_eq_true, if_false] at hp hm
    obtain rfl : m = 0 := by omega
    exact ⟨r, by simpa using hp⟩

/-- WHAT IS OWED OF AN OPERATION: it yields a value that represents the datum, in a world that has at most grown. -/
def Yields (P : Program) (X : Ctx) (ρ : Rho) (bx : Bxs) (a : Act) (w : World) (o : Oper) (d : D) : Prop :=
  ∃ v w', (execOp a.eval o).run P w = .ok (.value v) w' ∧ Below w.heap.size w w' ∧ Rep w' (Stab X ρ bx w') ρ d v

theorem yields_same {o : Oper} {d : D} (v : Value) (hrun : (execOp a.eval o).run P w = .ok (.value v) w) (hr : Rep w (Stab X ρ bx w) ρ d v) : Yields P X ρ bx a w o d := ⟨v, w, hrun, Below.refl _ _, hr⟩

variable {dst : Option Tmp} {ty : TypeId} {pos : String} {af : Array Edge} {g : Option (Nat × Bool)}

theorem loadV_sound (h : Sim X ρ σ bx a w) {t : TypeId} {dx d : D} {vx : Value} (hx : Rep w (Stab X ρ bx w) ρ dx vx) (hv : loadD (tiOf P t) bx dx = some d) : ∃ ad v, vx = .pointer (some ad) ∧ (loadVar t ad).run P w = .ok v w ∧ Rep w (Stab X ρ bx w) ρ d v := by
  cases dx with
  | loc s e i j =>
    simp only [loadD] at hv
    split at hv
    · rename_i hc
      obtain ⟨he, hk, hz⟩ := hc
      obtain ⟨p, hp, hv2⟩ := hx.inv_loc
      obtain ⟨p', hp', _, _, _, hh⟩ := h.box s hk
      rw [he, hp] at hp'; injection hp' with hp'; subst hp'
      cases hi : (bx s).es[i]? with
      | none => simp [hi] at hv
      | some d0 =>
        simp only [hi, Option.bind_some] at hv
        have hlt := pick_lt hv
        have hcell : ∀ m, ∃ u, m < (if (tiOf P t).agg then (tiOf P t).size else 1) → w.cell? ⟨p.b, i * p.sz + j + m, none⟩ = some u ∧ ∀ c, d0.cells[j + m]? = some c → Rep w (Stab X ρ bx w) ρ c u := by
          intro m
          by_cases hm : m < (if (tiOf P t).agg then (tiOf P t).size else 1)
          · obtain ⟨c, hc⟩ := hlt m hm
            obtain ⟨u, hu, hr, _⟩ := hh.cell hi hc
            exact ⟨u, fun _ => ⟨by rw [Nat.add_assoc]; exact hu, fun c' hc' => by rw [hc] at hc'; injection hc' with hc'; subst hc'; exact hr⟩⟩
          · exact ⟨undef, fun hm' => absurd hm' hm⟩
        let us : Nat → Value := fun m => Classical.choose (hcell m)
        have hus : ∀ m, m < (if (tiOf P t).agg then (tiOf P t).size else 1) → w.cell? ⟨p.b, i * p.sz + j + m, none⟩ = some (us m) ∧ ∀ c, d0.cells[j + m]? = some c → Rep w (Stab X ρ bx w) ρ c (us m) := fun m => Classical.choose_spec (hcell m)
        exact ⟨_, _, hv2, run_loadV hz (fun m hm => (hus m hm).1), pick_rep hv (us := us) fun m c hm hc => (hus m hm).2 c hc⟩
    · cases hv
  | cref d0 j =>
    simp only [loadD] at hv
    split at hv
    · rename_i hz
      have hx2 : PRep w (Stab X ρ bx w) (.cref d0 j) vx := hx.toP rfl
      cases hx2 with
      | @cref _ _ b off p us hb hp hc h1 hr =>
        have hlt := pick_lt hv
        subst hp
        exact ⟨_, _, rfl, run_loadV (us := fun m => us (j + m)) hz (fun m hm => by obtain ⟨c, hcm⟩ := hlt m hm; rw [Nat.add_assoc]; exact hc _ _ hcm), pick_rep hv (us := fun m => us (j + m)) fun m c hm hcm => .pure (hr _ _ hcm)⟩
    · cases hv
  | _ => simp [loadD] at hv

theorem load_sound (h : Sim X ρ σ bx a w) {t : TypeId} {x : Operand} {d : D} (hv : loadD (tiOf P t) bx (ev σ x) = some d) : Yields P X ρ bx a w ⟨dst, .load t x, ty, pos, af, g⟩ d := by
  obtain ⟨ad, v, h1, h2, h3⟩ := loadV_sound h (h.ev x) hv
  exact yields_same v (by simp only [execOp, Instr.loadAt, Instr.sureAddr, h1, Sem.run_bind, Sem.run_pure, Result.andThen_ok, h2]) h3

theorem Addr.add_none (b o k : Nat) : (⟨b, o, none⟩ : Addr).add k = ⟨b, o + k, none⟩ := by
  unfold Addr.add
  split
  · rename_i h; subst h; rfl
  · rfl

theorem indexAddr_sound (h : Sim X ρ σ bx a w) {t : TypeId} {x y : Operand} {d : D} (hv : atInt (ev σ y) (indexAddrD (tiOf P t) (ev σ x)) = some d) : Yields P X ρ bx a w ⟨dst, .indexAddr t x y, ty, pos, af, g⟩ d := by
  have hx := h.ev x
  have hy := h.ev y
  generalize ev σ x = dx at hv hx
  generalize ev σ y = dy at hv hy
  cases dy with
  | int k n =>
    have hy := hy.inv_int
    simp only [atInt, indexAddrD] at hv
    cases hk : (tiOf P t).k with
    | slice e esz b ag =>
      simp only [hk] at hv
      obtain ⟨hu, he, _, _⟩ := ti_slice hk
      cases dx with
      | sl sz es =>
        simp only at hv
        split at hv
        · rename_i hc
          obtain ⟨h0, hsz, hpos⟩ := hc
          subst hsz
          cases hi : es[n.toNat]? with
          | none => simp [hi] at hv
          | some d0 =>
            simp only [hi, Option.map_some, Option.some.injEq] at hv
            subst hv
            have hx2 : PRep w (Stab X ρ bx w) (.sl sz es) (a.eval x) := hx.toP rfl
            generalize hax : a.eval x = vx at hx2
            cases hx2 with
            | @sl _ _ A m cap b' off us hn hcap hmax hA hsz hc h1 hr =>
              obtain ⟨rfl, hb⟩ := hA (by rintro rfl; simp at hi)
              have hlt : n.toNat < es.length := (List.getElem?_eq_some_iff.1 hi).1
              refine yields_same (.pointer (some ⟨b', off + n.toNat * sz, none⟩)) ?_ (.pure (.cref (off := off + n.toNat * sz) (us := us n.toNat) hb rfl (fun m c hm => hc _ _ _ _ hi hm) (fun m c hm => h1 _ _ _ _ hi hm) (fun m c hm => hr _ _ _ _ hi hm)))
              have hc2 : 0 ≤ n ∧ n < ((m : Nat) : Int) := ⟨h0, by omega⟩
              simp only [execOp, Instr.indexAt, hy, hax, asIntOf, Sem.run_bind, Sem.run_pure, Result.andThen_ok, run_underlying hu, hc2, and_self, if_true, run_sizeT (he ▸ hpos), Addr.add_none, ← he]
        · cases hv
      | osl s e' sz o len =>
        simp only at hv
        split at hv
        · rename_i hc
          obtain ⟨h0, hlt, hsz, hpos⟩ := hc
          subst hsz
          injection hv with hv
          subst hv
          generalize hax : a.eval x = vx at hx
          cases hx with
          | pure h => cases h
          | @osl _ _ _ _ _ off cap p hp hsz h0' hoff hn hcap =>
            subst hsz
            have hc2 : 0 ≤ n ∧ n < ((len : Nat) : Int) := ⟨h0, hlt⟩
            have ho := hoff (by omega)
            subst ho
            refine yields_same (.pointer (some ⟨p.b, o * p.sz + n.toNat * p.sz, none⟩)) ?_ (.loc hp (by rw [Nat.add_mul, Nat.add_zero]))
            simp only [execOp, Instr.indexAt, hy, hax, asIntOf, Sem.run_bind, Sem.run_pure, Result.andThen_ok, run_underlying hu, hc2, and_self, if_true, run_sizeT (he ▸ hpos), Addr.add_none, ← he]
        · cases hv
      | _ => simp at hv
    | arr len esz ag =>
      simp only [hk] at hv
      obtain ⟨e, hu, he, _⟩ := ti_arr hk
      split at hv
      · rename_i hc
        obtain ⟨h0, hlt, h1, hpos⟩ := hc
        have hc2 : 0 ≤ n ∧ n < ((len : Nat) : Int) := ⟨h0, hlt⟩
        cases dx with
        | loc s e' i j =>
          simp only [shiftD, Option.some.injEq] at hv
          subst hv
          obtain ⟨p, hp, hax⟩ := hx.inv_loc
          refine yields_same (.pointer (some ⟨p.b, i * p.sz + j + n.toNat * esz, none⟩)) ?_ (.loc hp (by omega))
          simp only [execOp, Instr.indexAt, Instr.sureAddr, hy, hax, asIntOf, Sem.run_bind, Sem.run_pure, Result.andThen_ok, run_underlying hu, hc2, and_self, if_true, run_sizeT (he ▸ hpos), Addr.add_none, ← he]
        | cref d0 j =>
          simp only [shiftD, Option.some.injEq] at hv
          subst hv
          have hx2 : PRep w (Stab X ρ bx w) (.cref d0 j) (a.eval x) := hx.toP rfl
          generalize hax : a.eval x = vx at hx2
          cases hx2 with
          | @cref _ _ b off p us hb hp hc h1 hr =>
            refine yields_same (.pointer (some ⟨b, p + n.toNat * esz, none⟩)) ?_ (.pure (.cref (us := us) hb (by omega) hc h1 hr))
            simp only [execOp, Instr.indexAt, Instr.sureAddr, hy, hax, asIntOf, Sem.run_bind, Sem.run_pure, Result.andThen_ok, run_underlying hu, hc2, and_self, if_true, run_sizeT (he ▸ hpos), Addr.add_none, ← he]
        | _ => simp [shiftD] at hv
      · cases hv
    | _ => simp [hk] at hv
  | _ => simp [atInt] at hv

end Go.V

namespace Go.V
open Go.RowKit

variable {P : Program} {X : Ctx} {ρ : Rho} {σ : Env} {bx : Bxs} {a : Act} {w : World}
variable {dst : Option Tmp} {ty : TypeId} {pos : String} {af : Array Edge} {g : Option (Nat × Bool)}

theorem eqC_run {S : Nat → Prop} {t : TypeId} {n : Nat} {x y : D} {vx vy : Value} {b : Bool} (h : eqC x y = some b) (hx : Rep w S ρ x vx) (hy : Rep w S ρ y vy)
    (ht : (∃ k m, x = .int k m ∧ ∃ k', P.underlying t = some (.int k')) ∨ (∃ m, x = .bool m ∧ P.underlying t = some .bool) ∨ (∃ m, x = .str m ∧ P.underlying t = some .string)) :
    (Op.equalIn (n + 1) t vx vy).run P w = .ok b w := by
  rcases ht with ⟨k, m, rfl, k', hu⟩ | ⟨m, rfl, hu⟩ | ⟨m, rfl, hu⟩ <;> cases y <;> simp only [eqC] at h <;> try (cases h; done)
  · split at h
    · rename_i hk
      subst hk
      injection h with h
      subst h
      rw [hx.inv_int, hy.inv_int, run_equalIn_int w n t _ _ _ _ hu]
    · cases h
  · injection h with h
    subst h
    rw [hx.inv_bool, hy.inv_bool, run_equalIn_bool' w n t _ _ hu]
  · injection h with h
    subst h
    rw [hx.inv_str, hy.inv_str, run_equalIn_string w n t _ _ hu, ByteArray.toList_eq, ByteArray.toList_eq]

/-- the value of a scalar fits its type's kind: what the model asks of '==' -/
def fitsT (P : Program) (t : TypeId) (x : D) : Prop :=
  (∃ k m, x = .int k m ∧ ∃ k', P.underlying t = some (.int k')) ∨ (∃ m, x = .bool m ∧ P.underlying t = some .bool) ∨ (∃ m, x = .str m ∧ P.underlying t = some .string)

theorem bin_int (op : BinOp) (k : IntKind) (x y : Int) (d : D) (h : intD op k x y = some d) (t : TypeId) (S : Nat → Prop) : ∃ v, (binOp op t (.int k x) (.int k y)).run P w = .ok v w ∧ Rep w S ρ d v := by
  cases op <;> simp only [intD, cmpD] at h <;> try (cases h; done)
  case add => injection h with h; subst h; exact ⟨_, by simp [binOp, Op.intArith], .pure (.int _ _)⟩
  case sub => injection h with h; subst h; exact ⟨_, by simp [binOp, Op.intArith], .pure (.int _ _)⟩
  case mul => injection h with h; subst h; exact ⟨_, by simp [binOp, Op.intArith], .pure (.int _ _)⟩
  case quo =>
    split at h
    · cases h
    · rename_i hy; injection h with h; subst h; exact ⟨_, by simp [binOp, Op.intDiv, hy], .pure (.int _ _)⟩
  case rem =>
    split at h
    · cases h
    · rename_i hy; injection h with h; subst h; exact ⟨_, by simp [binOp, Op.intDiv, hy], .pure (.int _ _)⟩
  case eql => injection h with h; subst h; exact ⟨_, by simp [binOp, Op.intCmp], .pure (.bool _)⟩
  case neq => injection h with h; subst h; exact ⟨_, by simp [binOp, Op.intCmp], .pure (.bool _)⟩
  case lss => injection h with h; subst h; exact ⟨_, by simp [binOp, Op.intCmp], .pure (.bool _)⟩
  case leq => injection h with h; subst h; exact ⟨_, by simp [binOp, Op.intCmp], .pure (.bool _)⟩
  case gtr => injection h with h; subst h; exact ⟨_, by simp [binOp, Op.intCmp], .pure (.bool _)⟩
  case geq => injection h with h; subst h; exact ⟨_, by simp [binOp, Op.intCmp], .pure (.bool _)⟩

theorem bytes_append (l m : List UInt8) : ((⟨l.toArray⟩ : ByteArray) ++ ⟨m.toArray⟩) = ⟨(l ++ m).toArray⟩ := by
  apply ByteArray.ext
  simp

theorem bin_str (op : BinOp) (x y : List UInt8) (d : D) (h : strD op x y = some d) (t : TypeId) (S : Nat → Prop) : ∃ v, (binOp op t (.string ⟨x.toArray⟩) (.string ⟨y.toArray⟩)).run P w = .ok v w ∧ Rep w S ρ d v := by
  cases op <;> simp only [strD] at h <;> try (cases h; done)
  case add =>
    split at h
    · rename_i hl
      injection h with h
      subst h
      refine ⟨.string ⟨(x ++ y).toArray⟩, ?_, .pure (.str _)⟩
      have hle : ¬ (((⟨x.toArray⟩ : ByteArray).size + (⟨y.toArray⟩ : ByteArray).size : Nat) : Int) > IntKind.i64.max := by
        have : (IntKind.i64.max : Int) = 9223372036854775807 := by decide
        rw [this]
        simp [ByteArray.size]
        omega
      simp only [binOp, Op.stringOp, hle, if_false, Sem.run_pure, bytes_append]
    · cases h
  all_goals
    injection h with h
    subst h
    exact ⟨_, by simp only [binOp, Op.stringOp, ByteArray.toList_eq, Sem.run_pure], .pure (.bool _)⟩

theorem guard_plain (op : BinOp) (t : TypeId) (x y : Operand) (vx vy : Value) (h : (∃ k n, vx = .int k n) ∨ (∃ s, vx = .string s) ∨ (∃ b, vx = .bool b)) : (eqGuard op t x y vx vy).run P w = .ok () w := by
  rcases h with ⟨k, n, rfl⟩ | ⟨s, rfl⟩ | ⟨b, rfl⟩ <;> cases op <;> simp [eqGuard]

theorem part_one {t : TypeId} {off : Nat} {cs : Array Value} {v : Value} (hf : flatT P t = true) (hv : cs[off]? = some v) : (part t cs off).run P w = .ok v w := by
  have hu : ∃ d, P.underlying t = some d ∧ aggT P t = false := by
    unfold flatT at hf
    unfold aggT
    cases hu : P.underlying t with
    | none => simp [hu] at hf
    | some d => cases d <;> simp [hu] at hf <;> exact ⟨_, rfl, rfl⟩
  obtain ⟨d, hu, ha⟩ := hu
  simp [part, run_aggT hu, ha, hv]

/-- '==' field by field -/
theorem eqFields_run {S : Nat → Prop} {vx vy : Array Value} {n : Nat} : ∀ (fs : List Field) (o : Nat) (xs ys : List D) (b : Bool), fs.all (fun f => f.name != "_" && flatT P f.type && sizeT P f.type == 1) = true → fs.map (·.offset) = List.range' o fs.length →
    fs.length = xs.length → eqL xs ys = some b → (∀ (i : Nat) d, xs[i]? = some d → ∃ v, vx[o + i]? = some v ∧ Rep w S ρ d v) → (∀ (i : Nat) d, ys[i]? = some d → ∃ v, vy[o + i]? = some v ∧ Rep w S ρ d v) →
    (∀ (i : Nat) f d, fs[i]? = some f → xs[i]? = some d → fitsT P f.type d) → (Op.eqFields (n + 1) vx vy fs).run P w = .ok b w := by
  intro fs
  induction fs with
  | nil =>
    intro o xs ys b _ _ hl he _ _ _
    cases xs with
    | nil => cases ys with
      | nil => simp [eqL] at he; subst he; simp [Op.eqFields]
      | cons y ys => simp [eqL] at he
    | cons x xs => simp at hl
  | cons f fs ih =>
    intro o xs ys b hall hoff hl he hx hy hfit
    cases xs with
    | nil => simp at hl
    | cons x xs =>
    cases ys with
    | nil => simp [eqL] at he
    | cons y ys =>
    simp only [List.all_cons, Bool.and_eq_true, bne_iff_ne, ne_eq, beq_iff_eq] at hall
    obtain ⟨⟨⟨hn, hf⟩, _⟩, hrest⟩ := hall
    simp only [List.map_cons, List.length_cons, List.range'_succ, List.cons.injEq] at hoff
    obtain ⟨ho, hoff⟩ := hoff
    obtain ⟨v, hv, hrv⟩ := hx 0 x rfl
    obtain ⟨u, hu, hru⟩ := hy 0 y rfl
    simp only [Nat.add_zero] at hv hu
    have hfx := hfit 0 f x rfl rfl
    have ih' := fun b h => ih (o + 1) xs ys b hrest hoff (by simpa using hl) h (fun i d hd => by have := hx (i + 1) d (by simpa using hd); rwa [show o + (i + 1) = o + 1 + i from by omega] at this)
      (fun i d hd => by have := hy (i + 1) d (by simpa using hd); rwa [show o + (i + 1) = o + 1 + i from by omega] at this) (fun i f d hf hd => hfit (i + 1) f d (by simpa using hf) (by simpa using hd))
    simp only [eqL] at he
    cases hxy : eqC x y with
    | none => simp [hxy] at he
    | some c =>
      have hr := eqC_run (n := n) hxy hrv hru hfx
      simp only [Op.eqFields, hn, not_false_eq_true, ne_eq, if_true, Sem.run_bind, ho, part_one hf hv, part_one hf hu, Result.andThen_ok, hr]
      cases c with
      | true =>
        simp only [hxy] at he
        simp only [Bool.not_true, Bool.false_eq_true, if_false]
        exact ih' b he
      | false =>
        simp only [hxy] at he
        cases hrec : eqL xs ys with
        | none => simp [hrec] at he
        | some c' => simp only [hrec] at he; injection he with he; subst he; simp

end Go.V

namespace Go.V
open Go.RowKit

variable {P : Program} {X : Ctx} {ρ : Rho} {σ : Env} {bx : Bxs} {a : Act} {w : World}
variable {dst : Option Tmp} {ty : TypeId} {pos : String} {af : Array Edge} {g : Option (Nat × Bool)}

theorem kindsOk_none (k : Nat) (ks : List Nat) : kindsOk (k :: ks) [] = false := by
  unfold kindsOk
  split <;> simp_all

theorem kind_fits {P : Program} : ∀ (ks : List Nat) (F : List Field) (ds : List D), ks = F.map (fun f => kindT P f.type) → kindsOk ks ds = true → F.length = ds.length ∧ ∀ (i : Nat) f d, F[i]? = some f → ds[i]? = some d → fitsT P f.type d := by
  intro ks
  induction ks with
  | nil =>
    intro F ds hF h
    cases F with
    | nil => cases ds with
      | nil => simp
      | cons d ds => simp [kindsOk] at h
    | cons f F => simp at hF
  | cons k ks ih =>
    intro F ds hF h
    cases F with
    | nil => simp at hF
    | cons f F =>
    cases ds with
    | nil => exact absurd h (by rw [kindsOk_none]; decide)
    | cons d ds =>
    simp only [List.map_cons, List.cons.injEq] at hF
    obtain ⟨hk, hF⟩ := hF
    have step : kindsOk ks ds = true ∧ fitsT P f.type d := by
      unfold kindsOk at h
      split at h
      · rename_i he _; cases he
      · rename_i he he2
        injection he with e1 e2; injection he2 with e3 e4
        subst e2; subst e4; subst e3
        refine ⟨h, .inr (.inl ⟨_, rfl, ?_⟩)⟩
        rw [e1] at hk
        unfold kindT at hk
        cases hu : P.underlying f.type with
        | none => simp [hu] at hk
        | some x => cases x <;> simp [hu] at hk; rfl
      · rename_i he he2
        injection he with e1 e2; injection he2 with e3 e4
        subst e2; subst e4; subst e3
        refine ⟨h, .inl ⟨_, _, rfl, ?_⟩⟩
        rw [e1] at hk
        unfold kindT at hk
        cases hu : P.underlying f.type with
        | none => simp [hu] at hk
        | some x => cases x <;> simp [hu] at hk; exact ⟨_, rfl⟩
      · rename_i he he2
        injection he with e1 e2; injection he2 with e3 e4
        subst e2; subst e4; subst e3
        refine ⟨h, .inr (.inr ⟨_, rfl, ?_⟩)⟩
        rw [e1] at hk
        unfold kindT at hk
        cases hu : P.underlying f.type with
        | none => simp [hu] at hk
        | some x => cases x <;> simp [hu] at hk; rfl
      · cases h
    obtain ⟨hl, hr⟩ := ih F ds hF step.1
    refine ⟨by simp [hl], fun i f' d' hf hd => ?_⟩
    cases i with
    | zero => simp at hf hd; subst hf; subst hd; exact step.2
    | succ i => exact hr i f' d' (by simpa using hf) (by simpa using hd)

theorem eqD_run {S : Nat → Prop} {t : TypeId} {x y : D} {vx vy : Value} {b : Bool} (h : eqD (tiOf P t) x y = some b) (hx : Rep w S ρ x vx) (hy : Rep w S ρ y vy) :
    (Op.equal t vx vy).run P w = .ok b w ∧ ∀ (op : BinOp) (p q : Operand), (eqGuard op t p q vx vy).run P w = .ok () w := by
  unfold eqD at h
  split at h
  · rename_i fs k ks da db hk
    split at h
    · rename_i hko
      obtain ⟨F, hu, hfs, hks⟩ := ti_struct hk
      obtain ⟨xs, rfl, hxl, hxr⟩ := hx.inv_agg
      obtain ⟨ys, rfl, hyl, hyr⟩ := hy.inv_agg
      have hcond : (F.toList.all (fun f => f.name != "_" && flatT P f.type && sizeT P f.type == 1) && !P.stoodInHeld t && !P.eqGuardType P.depth t && (F.toList.map (·.offset)) == List.range F.size && sizeT P t == F.size) = true := by
        cases hb : (F.toList.all (fun f => f.name != "_" && flatT P f.type && sizeT P f.type == 1) && !P.stoodInHeld t && !P.eqGuardType P.depth t && (F.toList.map (·.offset)) == List.range F.size && sizeT P t == F.size) with
        | true => rfl
        | false => rw [hb] at hks; simp at hks
      rw [hcond] at hks
      simp only [if_true] at hks
      simp only [Bool.and_eq_true, Bool.not_eq_true', beq_iff_eq] at hcond
      obtain ⟨⟨⟨⟨hall, hst⟩, hgd⟩, hoff⟩, _⟩ := hcond
      obtain ⟨hl, hfit⟩ := kind_fits _ _ _ hks hko
      have hlen2 : ∀ (p q : List D) (b : Bool), eqL p q = some b → p.length = q.length := by
        intro p
        induction p with
        | nil => intro q b hq; cases q <;> simp [eqL] at hq ⊢
        | cons c p ih =>
          intro q b hq
          cases q with
          | nil => simp [eqL] at hq
          | cons c' q =>
            simp only [eqL] at hq
            cases hc : eqC c c' with
            | none => simp [hc] at hq
            | some r =>
              cases r with
              | true => simp only [hc] at hq; simp [ih q b hq]
              | false =>
                simp only [hc] at hq
                cases hr : eqL p q with
                | none => simp [hr] at hq
                | some r => simp [ih q r hr]
      have hF : P.fieldsOf t = F := by simp [Program.fieldsOf, hu]
      constructor
      · simp only [Op.equal, Op.maxDepth]
        rw [run_equalIn_struct w 9999 t xs ys (by rw [hF]; exact hu) hst, hF]
        refine eqFields_run (S := S) (ρ := ρ) (n := 9998) F.toList 0 da db b hall ?_ hl h (fun i d hd => ?_) (fun i d hd => ?_) hfit
        · rw [hoff, List.range_eq_range']; simp
        · have hi : i < xs.size := by have := (List.getElem?_eq_some_iff.1 hd).1; omega
          rw [Nat.zero_add]
          exact ⟨_, Array.getElem?_eq_getElem hi, hxr i d _ hd (Array.getElem?_eq_getElem hi)⟩
        · have hi : i < ys.size := by have := (List.getElem?_eq_some_iff.1 hd).1; omega
          rw [Nat.zero_add]
          exact ⟨_, Array.getElem?_eq_getElem hi, hyr i d _ hd (Array.getElem?_eq_getElem hi)⟩
      · intro op p q
        exact run_eqGuard_agg w op t p q xs ys hgd
    · cases h
  · rename_i a b hk
    injection h with h
    subst h
    rw [hx.inv_bool, hy.inv_bool]
    refine ⟨?_, fun op p q => guard_plain op t p q _ _ (.inr (.inr ⟨_, rfl⟩))⟩
    simp only [Op.equal, Op.maxDepth]
    exact run_equalIn_bool' w 9999 t _ _ (ti_bool hk)
  · cases h

theorem bin_eq {op : BinOp} {t : TypeId} {vx vy : Value} (ho : op = .eql ∨ op = .neq) (hv : (∃ xs, vx = .agg xs) ∨ (∃ b, vx = .bool b)) {b : Bool} (h : (Op.equal t vx vy).run P w = .ok b w) :
    (binOp op t vx vy).run P w = .ok (.bool (if op = .eql then b else !b)) w := by
  rcases ho with rfl | rfl <;> rcases hv with ⟨xs, rfl⟩ | ⟨c, rfl⟩ <;> cases vy <;> simp [binOp, h]

theorem binD_split (ti : TI) (op : BinOp) (dx dy : D) : (∃ k m k' n, dx = .int k m ∧ dy = .int k' n) ∨ (∃ m n, dx = .str m ∧ dy = .str n) ∨ (dy = .nilsl ∧ binD ti op dx dy = nilK ti op dx) ∨ binD ti op dx dy = binE ti op dx dy := by
  cases dx <;> cases dy <;> first | exact .inr (.inr (.inl ⟨rfl, rfl⟩)) | exact .inr (.inr (.inr rfl)) | exact .inl ⟨_, _, _, _, rfl, rfl⟩ | exact .inr (.inl ⟨_, _, rfl, rfl⟩)

theorem nilK_sound {S : Nat → Prop} {t : TypeId} {op : BinOp} {dx d : D} {vx : Value} (hv : nilK (tiOf P t) op dx = some d) (hx : Rep w S ρ dx vx) (x y : Operand) :
    ∃ v, (do eqGuard op t x y vx (.slice none 0 0); binOp op t vx (.slice none 0 0)).run P w = .ok v w ∧ Rep w S ρ d v := by
  unfold nilK at hv
  split at hv
  · rename_i e esz b ag hk
    have hu := (ti_slice hk).1
    have ho : op = .eql ∨ op = .neq := by cases op <;> cases dx <;> first | exact .inl rfl | exact .inr rfl | (exact absurd hv (by simp [nilS]))
    have hd : ∃ b n c, vx = .slice b n c ∧ ((d = .abool) ∨ d = .bool (if op = .eql then b.isNone else !b.isNone)) := by
      have sl : ∀ (sz : Nat) (es : List D) (e1 e2 : Bool), dx = .sl sz es → (d = if es.isEmpty then .abool else .bool (if op = .eql then false else true)) → ∃ b n c, vx = .slice b n c ∧ ((d = .abool) ∨ d = .bool (if op = .eql then b.isNone else !b.isNone)) := by
        intro sz es e1 e2 he hd
        rw [he] at hx
        cases hx with
        | pure h =>
          cases h with
          | @sl _ _ A n cap b off us hn hcap hmax hA =>
            refine ⟨A, n, cap, rfl, ?_⟩
            cases es with
            | nil => exact .inl hd
            | cons c cs =>
              refine .inr ?_
              rw [(hA (by simp)).1]
              rcases ho with rfl | rfl <;> simpa using hd
      cases dx with
      | nilsl =>
        rw [hx.inv_nil]
        refine ⟨none, 0, 0, rfl, .inr ?_⟩
        rcases ho with rfl | rfl <;> simp [nilS] at hv <;> simp [← hv]
      | osl t' e' s' o' n' =>
        cases hx with
        | pure h => cases h
        | osl =>
          refine ⟨_, _, _, rfl, .inr ?_⟩
          rcases ho with rfl | rfl <;> simp [nilS] at hv <;> simp [← hv]
      | sl sz es =>
        refine sl sz es true true rfl ?_
        rcases ho with rfl | rfl <;> simp only [nilS, Option.some.injEq] at hv <;> simp [← hv]
      | _ => rcases ho with rfl | rfl <;> simp [nilS] at hv
    obtain ⟨bb, n, c, rfl, hd⟩ := hd
    have hg : (eqGuard op t x y (.slice bb n c) (.slice none 0 0)).run P w = .ok () w := by
      cases op <;> rfl
    have he : (Op.equal t (.slice bb n c) (.slice none 0 0)).run P w = .ok bb.isNone w := by
      have key : ∀ d, (Op.equalIn (d + 1) t (.slice bb n c) (.slice none 0 0)).run P w = .ok bb.isNone w := fun d => by
        unfold Op.equalIn
        simp only [Sem.run_bind, run_underlying hu, Result.andThen]
        cases bb <;> rfl
      exact key 9999
    refine ⟨.bool (if op = .eql then bb.isNone else !bb.isNone), ?_, ?_⟩
    · simp only [Sem.run_bind, hg, Result.andThen]
      rcases ho with rfl | rfl <;> simp [binOp, he]
    · rcases hd with rfl | rfl
      · exact .pure (.abool _)
      · exact .pure (.bool _)
  · cases hv

theorem binOp_sound (h : Sim X ρ σ bx a w) {op : BinOp} {t t' : TypeId} {x y : Operand} {d : D} (hv : binD (tiOf P t) op (ev σ x) (ev σ y) = some d) : Yields P X ρ bx a w ⟨dst, .binOp op t x y t', ty, pos, af, g⟩ d := by
  have hx := h.ev x
  have hy := h.ev y
  generalize ev σ x = dx at hv hx
  generalize ev σ y = dy at hv hy
  rcases binD_split (tiOf P t) op dx dy with ⟨k, m, k', n, rfl, rfl⟩ | ⟨m, n, rfl, rfl⟩ | ⟨rfl, he⟩ | he
  · simp only [binD] at hv
    split at hv
    · rename_i hk
      subst hk
      obtain ⟨v, hrun, hr⟩ := bin_int (P := P) (ρ := ρ) (w := w) op k m n d hv t (Stab X ρ bx w)
      refine yields_same v ?_ hr
      simp only [execOp, Sem.run_bind, hx.inv_int, hy.inv_int, guard_plain op t x y _ _ (.inl ⟨_, _, rfl⟩), Result.andThen_ok, hrun, Sem.run_pure]
    · cases hv
  · simp only [binD] at hv
    obtain ⟨v, hrun, hr⟩ := bin_str (P := P) (ρ := ρ) (w := w) op m n d hv t (Stab X ρ bx w)
    refine yields_same v ?_ hr
    simp only [execOp, Sem.run_bind, hx.inv_str, hy.inv_str, guard_plain op t x y _ _ (.inr (.inl ⟨_, rfl⟩)), Result.andThen_ok, hrun, Sem.run_pure]
  · rw [he] at hv
    obtain ⟨v, hrun, hr⟩ := nilK_sound (P := P) hv hx x y
    refine yields_same v ?_ hr
    simp only [Sem.run_bind] at hrun
    simp only [execOp, Sem.run_bind, hy.inv_nil]
    rw [hrun]
    rfl
  · rw [he] at hv
    have hop : op = .eql ∨ op = .neq := by cases op <;> simp [binE] at hv <;> simp
    obtain ⟨b, hb, hd⟩ : ∃ b, eqD (tiOf P t) dx dy = some b ∧ d = .bool (if op = .eql then b else !b) := by
      rcases hop with rfl | rfl <;> simp only [binE, Option.map_eq_some_iff] at hv <;> obtain ⟨b, hb, rfl⟩ := hv <;> exact ⟨b, hb, by simp⟩
    obtain ⟨he, hg⟩ := eqD_run hb hx hy
    subst hd
    have hvx : (∃ xs, a.eval x = .agg xs) ∨ (∃ b, a.eval x = .bool b) := by
      unfold eqD at hb
      split at hb
      · obtain ⟨vs, h1, _⟩ := hx.inv_agg; exact .inl ⟨vs, h1⟩
      · exact .inr ⟨_, hx.inv_bool⟩
      · cases hb
    refine yields_same (.bool (if op = .eql then b else !b)) ?_ (.pure (.bool _))
    simp only [execOp, Sem.run_bind, hg, Result.andThen_ok, bin_eq hop hvx he, Sem.run_pure]

theorem unOp_sound (h : Sim X ρ σ bx a w) {op : UnOp} {t : TypeId} {x : Operand} {d : D} (hv : unD op (ev σ x) = some d) : Yields P X ρ bx a w ⟨dst, .unOp op t x, ty, pos, af, g⟩ d := by
  have hx := h.ev x
  generalize ev σ x = dx at hv hx
  cases dx <;> simp only [unD] at hv <;> try (cases hv; done)
  · cases op <;> simp only at hv <;> try (cases hv; done)
    injection hv with hv
    subst hv
    exact yields_same _ (by simp [execOp, hx.inv_int, Op.unary, Op.intArith]) (.pure (.int _ _))
  · cases op <;> simp only at hv <;> try (cases hv; done)
    injection hv with hv
    subst hv
    exact yields_same _ (by simp [execOp, hx.inv_bool, Op.unary]) (.pure (.bool _))

theorem shift_sound {S : Nat → Prop} {dx d : D} {vx : Value} {o : Nat} (hv : shiftD dx o = some d) (hx : Rep w S ρ dx vx) : ∃ b p, vx = .pointer (some ⟨b, p, none⟩) ∧ Rep w S ρ d (.pointer (some ⟨b, p + o, none⟩)) := by
  cases dx with
  | loc s e i j =>
    simp only [shiftD, Option.some.injEq] at hv
    subst hv
    obtain ⟨p, hp, rfl⟩ := hx.inv_loc
    exact ⟨_, _, rfl, .loc hp (by omega)⟩
  | cref d0 j =>
    simp only [shiftD, Option.some.injEq] at hv
    subst hv
    have hx2 : PRep w S (.cref d0 j) vx := hx.toP rfl
    cases hx2 with
    | @cref _ _ b off p us hb hp hc h1 hr => exact ⟨_, _, rfl, .pure (.cref (us := us) hb (by omega) hc h1 hr)⟩
  | _ => simp [shiftD] at hv

theorem fieldAddr_sound (h : Sim X ρ σ bx a w) {t : TypeId} {x : Operand} {i : Nat} {d : D} (hv : fieldAddrD (tiOf P t) (ev σ x) i = some d) : Yields P X ρ bx a w ⟨dst, .fieldAddr t x i, ty, pos, af, g⟩ d := by
  have hx := h.ev x
  generalize ev σ x = dx at hv hx
  simp only [fieldAddrD] at hv
  cases hk : (tiOf P t).k with
  | struct fs eq =>
    simp only [hk] at hv
    obtain ⟨F, hu, hfs, _⟩ := ti_struct hk
    subst hfs
    simp only [List.getElem?_map, Array.getElem?_toList] at hv
    cases hf : F[i]? with
    | none => simp [hf] at hv
    | some f =>
      simp only [hf, Option.map_some] at hv
      split at hv
      · cases hv
      · rename_i hz
        obtain ⟨b, p, hax, hr⟩ := shift_sound hv hx
        refine yields_same _ ?_ hr
        have hsz := run_sizeT (P := P) (t := f.type) (by omega) w
        simp only [execOp, Instr.fieldAt, Instr.sureAddr, Sem.run_bind, Sem.run_pure, Result.andThen_ok, run_underlying hu, hf, hax, fieldPlace, hsz, hz, if_false, Addr.add_none]
  | _ => simp [hk] at hv

theorem field_sound (h : Sim X ρ σ bx a w) {t : TypeId} {x : Operand} {i : Nat} {d : D} (hv : fieldD (tiOf P t) (ev σ x) i = some d) : Yields P X ρ bx a w ⟨dst, .field t x i, ty, pos, af, g⟩ d := by
  have hx := h.ev x
  generalize ev σ x = dx at hv hx
  unfold fieldD at hv
  split at hv
  · rename_i fs eq ds hk
    obtain ⟨F, hu, hfs, _⟩ := ti_struct hk
    subst hfs
    obtain ⟨vs, hax, hl, hr⟩ := hx.inv_agg
    simp only [List.getElem?_map, Array.getElem?_toList] at hv
    cases hf : F[i]? with
    | none => simp [hf] at hv
    | some f =>
      simp only [hf, Option.map_some] at hv
      split at hv
      · cases hv
      · rename_i hz
        have hz : 0 < sizeT P f.type := by omega
        have hpart : ∃ v, (part f.type vs f.offset).run P w = .ok v w ∧ Rep w (Stab X ρ bx w) ρ d v := by
          have hud : ∃ dd, P.underlying f.type = some dd := let ⟨_, dd, _, h2, _⟩ := size_ex hz; ⟨dd, h2⟩
          obtain ⟨dd, hud⟩ := hud
          unfold pickD at hv
          cases hag : aggT P f.type with
          | true =>
            simp only [hag, if_true] at hv
            split at hv
            · rename_i hle
              injection hv with hv
              subst hv
              refine ⟨.agg (vs.extract f.offset (f.offset + sizeT P f.type)), by simp only [part, Sem.run_bind, run_aggT hud, Result.andThen_ok, hag, if_true, run_sizeT hz, Sem.run_pure], .agg ?_ ?_⟩
              · simp [D.cells] at hle ⊢; omega
              · intro j c u hc hu'
                simp only [D.cells] at hc hle
                have hj : j < sizeT P f.type := by have := (List.getElem?_eq_some_iff.1 hc).1; simp at this; omega
                rw [List.getElem?_take_of_lt hj, List.getElem?_drop] at hc
                rw [Array.getElem?_extract] at hu'
                split at hu'
                · exact hr _ _ _ hc hu'
                · cases hu'
            · cases hv
          | false =>
            simp only [hag, Bool.false_eq_true, if_false, D.cells] at hv
            have hlt := (List.getElem?_eq_some_iff.1 hv).1
            have hvs : vs[f.offset]? = some vs[f.offset] := Array.getElem?_eq_getElem (by omega)
            exact ⟨_, by simp only [part, Sem.run_bind, run_aggT hud, Result.andThen_ok, hag, Bool.false_eq_true, if_false, hvs, Sem.run_pure], hr _ _ _ hv hvs⟩
        obtain ⟨v, hrun, hrep⟩ := hpart
        refine yields_same v ?_ hrep
        simp only [execOp, Instr.field, Sem.run_bind, Sem.run_pure, Result.andThen_ok, run_underlying hu, hf, hax, asAgg, hrun]
  · cases hv

theorem index_sound (h : Sim X ρ σ bx a w) {t : TypeId} {x y : Operand} {d : D} (hv : atInt (ev σ y) (indexD (tiOf P t) (ev σ x)) = some d) : Yields P X ρ bx a w ⟨dst, .index t x y, ty, pos, af, g⟩ d := by
  have hx := h.ev x
  have hy := h.ev y
  generalize ev σ x = dx at hv hx
  generalize ev σ y = dy at hv hy
  cases dy with
  | int k n =>
    have hy := hy.inv_int
    simp only [atInt] at hv
    unfold indexD at hv
    split at hv
    · rename_i s hk
      split at hv
      · rename_i h0
        cases hs : s[n.toNat]? with
        | none => simp [hs] at hv
        | some b =>
          simp only [hs, Option.map_some, Option.some.injEq] at hv
          subst hv
          have hlt := (List.getElem?_eq_some_iff.1 hs).1
          refine yields_same (.int .u8 (b.toNat : Int)) ?_ (.pure (.int _ _))
          have hb : (⟨s.toArray⟩ : ByteArray)[n.toNat]? = some b := by
            rw [ByteArray.getElem?_lt' _ _ (by simpa [ByteArray.size] using hlt)]
            have : s[n.toNat] = b := by have := List.getElem?_eq_getElem hlt; rw [hs] at this; injection this with this; exact this.symm
            rw [← this]; rfl
          simp only [execOp, Instr.index, hy, hx.inv_str, asIntOf, Sem.run_bind, Sem.run_pure, Result.andThen_ok, run_underlying (ti_str hk), h0, if_true, hb]
      · cases hv
    · rename_i len esz ag ds hk
      split at hv
      · rename_i hc
        obtain ⟨h0, hlt, hpos⟩ := hc
        obtain ⟨e, hu, he, hag⟩ := ti_arr hk
        obtain ⟨vs, hax, hl, hr⟩ := hx.inv_agg
        subst he
        subst hag
        obtain ⟨_, dd, _, hud, _⟩ := size_ex hpos
        have hc2 : 0 ≤ n ∧ n < ((len : Nat) : Int) := ⟨h0, hlt⟩
        have hpart : ∃ v, (part e vs (n.toNat * sizeT P e)).run P w = .ok v w ∧ Rep w (Stab X ρ bx w) ρ d v := by
          unfold pickD at hv
          cases hag : aggT P e with
          | true =>
            simp only [hag, if_true] at hv
            split at hv
            · rename_i hle
              injection hv with hv
              subst hv
              refine ⟨.agg (vs.extract (n.toNat * sizeT P e) (n.toNat * sizeT P e + sizeT P e)), by simp only [part, Sem.run_bind, run_aggT hud, Result.andThen_ok, hag, if_true, run_sizeT hpos, Sem.run_pure], .agg ?_ ?_⟩
              · simp [D.cells] at hle ⊢; omega
              · intro j c u hc hu'
                simp only [D.cells] at hc hle
                have hj : j < sizeT P e := by have := (List.getElem?_eq_some_iff.1 hc).1; simp at this; omega
                rw [List.getElem?_take_of_lt hj, List.getElem?_drop] at hc
                rw [Array.getElem?_extract] at hu'
                split at hu'
                · exact hr _ _ _ hc hu'
                · cases hu'
            · cases hv
          | false =>
            simp only [hag, Bool.false_eq_true, if_false, D.cells] at hv
            have hlt := (List.getElem?_eq_some_iff.1 hv).1
            have hvs : vs[n.toNat * sizeT P e]? = some vs[n.toNat * sizeT P e] := Array.getElem?_eq_getElem (by omega)
            exact ⟨_, by simp only [part, Sem.run_bind, run_aggT hud, Result.andThen_ok, hag, Bool.false_eq_true, if_false, hvs, Sem.run_pure], hr _ _ _ hv hvs⟩
        obtain ⟨v, hrun, hrep⟩ := hpart
        refine yields_same v ?_ hrep
        simp only [execOp, Instr.index, hy, hax, asIntOf, Sem.run_bind, Sem.run_pure, Result.andThen_ok, run_underlying hu, hc2, and_self, if_true, run_sizeT hpos, hrun]
      · cases hv
    · cases hv
  | _ => simp [atInt] at hv

theorem optInt_sound (h : Sim X ρ σ bx a w) {lo : Option Operand} {l : Option Int} (hl : optInt σ lo = some l) : (lo = none ∧ l = none) ∨ ∃ x k n, lo = some x ∧ l = some n ∧ a.eval x = .int k n := by
  cases lo with
  | none => simp only [optInt, Option.some.injEq] at hl; exact .inl ⟨rfl, hl.symm⟩
  | some x =>
    simp only [optInt] at hl
    have hx := h.ev x
    generalize ev σ x = dx at hl hx
    cases dx <;> simp only [intO] at hl <;> try (cases hl; done)
    injection hl with hl
    subst hl
    exact .inr ⟨x, _, _, rfl, rfl, hx.inv_int⟩

theorem bounds_run (h : Sim X ρ σ bx a w) {lo hi : Option Operand} {l u : Option Int} (hl : optInt σ lo = some l) (hh : optInt σ hi = some u) {isS : Bool} {len cap p q : Nat} (hc : cutD len l u = some (p, q)) (hle : len ≤ cap) :
    (Instr.sliceBounds isS len cap (lo.map a.eval) (hi.map a.eval) none).run P w = .ok (p, q, cap) w ∧ p ≤ q ∧ q ≤ len := by
  unfold cutD at hc
  simp only at hc
  split at hc
  · rename_i hb
    injection hc with hc
    injection hc with h1 h2
    rcases optInt_sound h hl with ⟨rfl, rfl⟩ | ⟨x, k, n, rfl, rfl, hx⟩ <;> rcases optInt_sound h hh with ⟨rfl, rfl⟩ | ⟨y, k', m, rfl, rfl, hy⟩ <;> simp only [Option.getD_none, Option.getD_some] at hb h1 h2
    · subst h1; subst h2
      refine ⟨by simp [Instr.sliceBounds], by omega, by omega⟩
    · subst h1; subst h2
      have c1 : 0 ≤ m ∧ m ≤ (cap : Int) := ⟨by omega, by omega⟩
      refine ⟨by simp [Instr.sliceBounds, Instr.sliceBound, hy, asIntOf, c1], by omega, by omega⟩
    · subst h1; subst h2
      have c1 : 0 ≤ n ∧ n ≤ (len : Int) := ⟨by omega, by omega⟩
      refine ⟨by simp [Instr.sliceBounds, Instr.sliceBound, hx, asIntOf, c1], by omega, by omega⟩
    · subst h1; subst h2
      have c1 : 0 ≤ m ∧ m ≤ (cap : Int) := ⟨by omega, by omega⟩
      have c2 : 0 ≤ n ∧ n ≤ ((m.toNat : Nat) : Int) := ⟨by omega, by omega⟩
      refine ⟨by simp only [Instr.sliceBounds, Instr.sliceBound, hx, hy, asIntOf, Option.map_some, Sem.run_bind, Sem.run_pure, Result.andThen_ok, Sem.run_ite, c1, c2, and_self, if_true], by omega, by omega⟩
  · cases hc

theorem slice_sound (h : Sim X ρ σ bx a w) {t : TypeId} {x : Operand} {lo hi : Option Operand} {d : D} (hv : optV (optInt σ lo) (optInt σ hi) (sliceD (tiOf P t) (ev σ x)) = some d) : Yields P X ρ bx a w ⟨dst, .slice t x lo hi none, ty, pos, af, g⟩ d := by
  have hx := h.ev x
  generalize ev σ x = dx at hv hx
  cases hl : optInt σ lo with
  | none => simp [hl, optV] at hv
  | some l =>
  cases hh : optInt σ hi with
  | none => simp [hl, hh, optV] at hv
  | some u =>
  simp only [hl, hh, optV] at hv
  unfold sliceD at hv
  split at hv
  · rename_i s hk
    cases hc : cutD s.length l u with
    | none => simp [hc] at hv
    | some pq =>
      obtain ⟨p, q⟩ := pq
      simp only [hc, Option.map_some, Option.some.injEq] at hv
      subst hv
      obtain ⟨hrun, h1, h2⟩ := bounds_run (P := P) (isS := false) (cap := s.length) h hl hh hc (Nat.le_refl _)
      refine yields_same (.string ⟨((s.drop p).take (q - p)).toArray⟩) ?_ (.pure (.str _))
      have hsz : (⟨s.toArray⟩ : ByteArray).size = s.length := by simp [ByteArray.size]
      have hex : (⟨s.toArray⟩ : ByteArray).extract p q = ⟨((s.drop p).take (q - p)).toArray⟩ := by
        apply ByteArray.ext
        apply Array.toList_inj.1
        simp [ByteArray.data_extract, List.extract]
      simp only [execOp, Instr.sliceAt, Instr.slice, hx.inv_str, Sem.run_bind, Sem.run_pure, Result.andThen_ok, run_underlying (ti_str hk), Option.map_none, Option.isSome_none, Bool.false_eq_true, if_false, hsz, hrun, hex]
  · rename_i e esz b ag sz es hk
    split at hv
    · rename_i he
      obtain ⟨he, hpos⟩ := he
      subst he
      obtain ⟨hu, hse, _, _⟩ := ti_slice hk
      cases hc : cutD es.length l u with
      | none => simp [hc] at hv
      | some pq =>
        obtain ⟨p, q⟩ := pq
        simp only [hc, Option.map_some, Option.some.injEq] at hv
        subst hv
        have hx2 : PRep w (Stab X ρ bx w) (.sl sz es) (a.eval x) := hx.toP rfl
        generalize hax : a.eval x = vx at hx2
        cases hx2 with
        | @sl _ _ A m cap b' off us hn hcap hmax hA hsz hcc h1 hr =>
          subst hn
          obtain ⟨hrun, k1, k2⟩ := bounds_run (P := P) (isS := true) (cap := cap) h hl hh hc hcap
          have hel : ∀ (i : Nat) c, ((es.drop p).take (q - p))[i]? = some c → es[p + i]? = some c := fun i c hi => by
            have hlt := (List.getElem?_eq_some_iff.1 hi).1
            simp at hlt
            rwa [List.getElem?_take_of_lt (by omega), List.getElem?_drop] at hi
          refine yields_same (.slice (if cap = p then A else A.map (·.add (p * sz))) (q - p) (cap - p)) ?_ (.pure (.sl (b := b') (off := off + p * sz) (us := fun i j => us (p + i) j) (by simp; omega) (by omega) (by omega) (fun hne => ?_)
            (fun i c hi => hsz _ _ (hel i c hi)) (fun i c j c' hi hj => ?_) (fun i c j c' hi hj => h1 _ _ _ _ (hel i c hi) hj) (fun i c j c' hi hj => hr _ _ _ _ (hel i c hi) hj)))
          · simp only [execOp, Instr.sliceAt, Instr.slice, hax, Sem.run_bind, Sem.run_pure, Result.andThen_ok, run_underlying hu, Option.map_none, hrun, run_sizeT (hse ▸ hpos), ← hse]
          · have hlt : p < es.length := by
              rcases Nat.lt_or_ge p es.length with h' | h'
              · exact h'
              · exfalso; apply hne; rw [List.drop_eq_nil_of_le h']; simp
            obtain ⟨rfl, hb⟩ := hA (by rintro rfl; simp at hlt)
            rw [if_neg (by omega)]
            exact ⟨by simp [Addr.add_none], hb⟩
          · have := hcc _ _ _ _ (hel i c hi) hj
            rwa [Nat.add_mul, ← Nat.add_assoc] at this
    · cases hv
  · rename_i e esz b ag s e' sz o n hk
    split at hv
    · rename_i he
      obtain ⟨he, hpos⟩ := he
      subst he
      obtain ⟨hu, hse, _, _⟩ := ti_slice hk
      cases hc : cutD n l u with
      | none => simp [hc] at hv
      | some pq =>
        obtain ⟨p, q⟩ := pq
        simp only [hc, Option.map_some, Option.some.injEq] at hv
        subst hv
        generalize hax : a.eval x = vx at hx
        cases hx with
        | pure h => cases h
        | @osl _ _ _ _ _ off cap pl hp hsz h0' hoff hn hcap =>
          obtain ⟨hrun, k1, k2⟩ := bounds_run (P := P) (isS := true) (cap := cap) h hl hh hc hn
          have hrun2 : (execOp a.eval ⟨dst, .slice t x lo hi none, ty, pos, af, g⟩).run P w = .ok (.value (.slice (if cap = p then some ⟨pl.b, off, none⟩ else some ⟨pl.b, off + p * sz, none⟩) (q - p) (cap - p))) w := by
            simp only [execOp, Instr.sliceAt, Instr.slice, hax, Sem.run_bind, Sem.run_pure, Result.andThen_ok, run_underlying hu, Option.map_none, hrun, run_sizeT (hse ▸ hpos), ← hse, Option.map_some, Addr.add_none]
          by_cases hcp : cap = p
          · rw [if_pos hcp] at hrun2
            refine yields_same _ hrun2 (.osl hp hsz (fun h0 => ⟨(h0' (by omega)).1, ?_⟩) (fun hq => by omega) (by omega) ⟨by omega, hcap.2⟩)
            have := h0' (by omega)
            omega
          · rw [if_neg hcp] at hrun2
            refine yields_same _ hrun2 (.osl hp hsz (fun h0 => ?_) (fun hq => ?_) (by omega) ⟨by omega, hcap.2⟩)
            · have hp0 : p = 0 := by omega
              subst hp0
              have := h0' (by omega)
              simp only [Nat.zero_mul, Nat.add_zero, Nat.sub_zero]
              exact this
            · rw [hoff (by omega), Nat.add_mul]
    · cases hv
  · cases hv

end Go.V
