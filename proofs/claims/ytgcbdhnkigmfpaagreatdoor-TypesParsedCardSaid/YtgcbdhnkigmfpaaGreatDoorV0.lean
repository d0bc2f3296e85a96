/-
  The data level: plain data in place of values in memory, a weakest precondition over the model's own code that speaks of plain data alone. Definitions and the rules by which it is evaluated.
-/
import Derived.WalkKit
import Derived.OrdersIn
namespace Go.V
universe u
open Go.RowKit

/-- Data. any: stands for any value (the record of the deferred calls). abool: some boolean. glo: any value beside which the laid variables of packages are as they were laid. loc: a place in a variable of the activation's own (slot, epoch, element, cell); osl: a slice over such a variable (slot, epoch, cells an element, first element, length); omap: a map of the activation's own. -/
inductive D where
  | undef
  | int (k : IntKind) (n : Int)
  | bool (b : Bool)
  | str (s : List UInt8)
  | raw (x : Value)
  | nilsl
  | agg (ds : List D)
  | tup (ds : List D)
  | sl (sz : Nat) (es : List D)
  | cref (d : D) (j : Nat)
  | loc (t e i j : Nat)
  | osl (t e sz o n : Nat)
  | omap (t e : Nat)
  | fn (f : Fn) (caps : List D)
  | bfn (f : FuncId) (first : List D)
  | ifc (t : TypeId) (d : D)
  | any (ds : List D)
  | glo
  | abool
  deriving Inhabited

/-- A mark beside an argument: simp lets an argument be on whose value another one's type hangs. -/
structure Tok {α : Sort u} (a : α) : Type where

/-- The cells that a datum takes. -/
def D.cells : D → List D
  | .agg ds => ds
  | d => [d]

/-- its value fills one cell -/
def D.one : D → Bool
  | .undef | .agg _ | .tup _ | .any _ | .glo => false
  | .raw x => x.oneCell'
  | _ => true

/-- A variable (or an array) of the activation's own: its epoch, what may be done with it (0 nothing, 1 read and write, 2 read; 3: it is a map, or one's place in a map), the cells of an element, the elements. -/
structure Bx where
  ep : Nat
  k : Nat
  sz : Nat
  ty : TypeId
  es : List D

/-- a variable that holds cells -/
def lv (k : Nat) : Prop := k ≠ 0 ∧ k ≠ 3
theorem lv0 : lv 0 = False := by simp [lv]
theorem lv1 : lv 1 = True := by simp [lv]
theorem lv2 : lv 2 = True := by simp [lv]
theorem lv3 : lv 3 = False := by simp [lv]
instance (k : Nat) : Decidable (lv k) := inferInstanceAs (Decidable (_ ∧ _))

end Go.V
