/- The data level: plain data in place of values in memory, a weakest precondition over the model's own code that speaks of plain data alone. Definitions and the rules by which it is evaluated. -/
import Derived.WalkKit
import Derived.OrdersIn
import Derived.KernelRfl
set_option linter.unusedSimpArgs false
set_option linter.unusedVariables false
namespace Go.V
universe u
open Go.RowKit
theorem oM{p:Prop}(h:p:=by omega):p:=h
theorem sI{p:Prop}(h:p:=by simp):p:=h
theorem sG{p:Prop}(h:p:=by simp[go_sem]):p:=h
theorem aj{p:Prop}(h:p:=by kernel_rfl):p:=h
theorem ax{α:Sort _}{a b:α}(h:a=b:=by exact Eq.trans rfl rfl):a=b:=h
inductive D where
 |undef
 |int (k:IntKind) (n:Int)
 |bool (b:Bool)
 |str (s:List UInt8)
 |raw (x:Value)
 |nilsl
 |agg (ds:List D)
 |tup (ds:List D)
 |sl (sz:Nat) (es:List D)
 |clp (sz:Nat) (es:List D)
 |cref (d:D) (j:Nat)
 |loc (t e i j:Nat)
 |osl (t e sz o n:Nat)
 |csl (t e i j n:Nat)
 |omap (t e:Nat)
 |fn (f:Fn) (caps:List D)
 |bfn (f:FuncId) (first:List D)
 |ifc (t:TypeId) (d:D)
 |any (ds:List D)
 |glo
 |abool
 deriving Inhabited
structure Tok{α:Sort u}(a:α):Type where
def D.cells:D->List D
 | .agg ds=>ds
 |d=>[d]
def D.one:D->Bool
 | .undef| .agg _| .tup _| .any _| .glo=>false
 | .raw x=>x.oneCell'
 |_=>true
structure Bx where
 ep:Nat
 k:Nat
 sz:Nat
 ty:TypeId
 es:List D
def lv(k:Nat):Prop:=k≠0/\k≠3
theorem CC:lv 0=False:=by simp[lv]
theorem Mo:lv 1=True:=by simp[lv]
theorem QC:lv 2=True:=by simp[lv]
instance(k:Nat):Decidable (lv k):=inferInstanceAs (Decidable (_/\_))
end Go.V
