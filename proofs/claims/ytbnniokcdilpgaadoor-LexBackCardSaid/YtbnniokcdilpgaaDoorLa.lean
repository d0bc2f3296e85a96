/-
  Lex: plain data and what the functions compute.
-/
import Derived.Test.YtbnniokcdilpgaaDoorLs
namespace Go.V.Lx
open Go.Proofs Go.RowKit
set_option linter.unusedSimpArgs false
set_option linter.unusedVariables false

structure Tok where
  k : Int
  t : List UInt8
  n : Int
  a : Int
  deriving DecidableEq
def Tok.d (x : Tok) : D := .agg [.int .i64 x.k, .str x.t, .int .i64 x.n, .int .i64 x.a]
def toks (l : List Tok) : D := .sl 4 (l.map Tok.d)
def scD (s : List UInt8) (i : Int) (x : D) : D := .agg [.str s, .int .i64 i, x]
def signs : List UInt8 := [123, 125, 40, 41, 59, 44, 61, 58, 46, 60, 62, 33, 43, 45, 42, 47]
def isLt (n : Int) : Bool := decide (97 ≤ n) && decide (n ≤ 122) || decide (65 ≤ n) && decide (n ≤ 90)
def isFg (n : Int) : Bool := decide (48 ≤ n) && decide (n ≤ 57)
def isSp (n : Int) : Bool := n == 32 || n == 9 || n == 10 || n == 13
def isSg (c : UInt8) : Bool := decide (0 ≤ Lib.indexByte signs c)
def cls (c : UInt8) : Int := if isLt c.toNat then 2 else if isFg c.toNat then 3 else if (c.toNat : Int) == 95 then 5 else if isSp c.toNat then 1 else if isSg c then 4 else 0
def isPart (c : UInt8) : Bool := isLt c.toNat || isFg c.toNat || (c.toNat : Int) == 95
def nameB (s : List UInt8) : Bool := match s with
  | [] => false
  | c :: _ => decide (s.length ≤ 32) && isLt c.toNat && s.all isPart
def oneSign : List UInt8 → Bool
  | [c] => decide (cls c = 4)
  | _ => false
def validB (x : Tok) : Bool :=
  if x.k = 1 then nameB x.t && decide (x.n = 0)
  else if x.k = 2 then decide (x.t = []) && decide (0 ≤ x.n) && decide (x.n ≤ 1099511627776)
  else if x.k = 3 then oneSign x.t && decide (x.n = 0)
  else false
theorem weak_eq {x y : D} (h : x = y) : Weak x y := h ▸ .refl _
theorem pureO {tab : List (Nat × List (Nat × Nat))} {base nxt lo : Nat} {yl : Option (List (List D) × Nat × Nat)} {pn df : Bool} {P : Program} {bx : Bxs} {f : Nat} {ds : List D} {K2 : Cl → D → Bxs → Prop} {d : D} (h : CallsTo P f ds d) (hp : D.pureL ds = true) (hk : K2 .n d bx) : callD ⟨orac P, tab, base, nxt, lo, yl, pn, df⟩ f ds bx K2 := call_pure h hp hk
theorem pureT {tab : List (Nat × List (Nat × Nat))} {base nxt lo : Nat} {yl : Option (List (List D) × Nat × Nat)} {pn df : Bool} {P : Program} {tb : FuncId → Nat → List D → Bxs → (D → Bxs → Prop) → (D → Bxs → Prop) → Prop} {it : FuncId → List D → List (List D) → Nat → Prop} {bx : Bxs} {f : Nat} {ds : List D} {K2 : Cl → D → Bxs → Prop} {d : D} (h : CallsTo P f ds d) (hp : D.pureL ds = true) (hk : K2 .n d bx) : callD ⟨⟨(orac P).to, tb, it⟩, tab, base, nxt, lo, yl, pn, df⟩ f ds bx K2 := call_pure h hp hk
def intN : D → Nat
  | .int _ n => n.toNat
  | _ => 0
end Go.V.Lx
