/- Plain laws: V0. -/
import Derived.WalkKit
import Derived.OrdersIn
import Derived.KernelRfl
set_option linter.all false
set_option maxHeartbeats 8000000
namespace Go.V
universe u
open Go.RowKit
def oM{p:Prop}(h:p:=by omega):p:=h
def sI{p:Prop}(h:p:=by simp):p:=h
def sG{p:Prop}(h:p:=by simp[go_sem]):p:=h
def ak{p:Prop}(h:p:=by kernel_rfl):p:=h
def ay{α:Sort _}{a b:α}(h:a=b:=by exact Eq.trans rfl rfl):a=b:=h
def gS:=@List.getElem?_eq_some_iff
def mG:=@List.mem_of_getElem?
def gE:=@List.getElem?_eq_getElem
def sJ:=@Option.some.injEq
def mS:=@Option.map_eq_some_iff
def bA:=@Bool.and_eq_true
def tL:=@List.take_length
def nT:=@Bool.not_true
def nF:=@Bool.not_false
def gM:=@List.getElem?_map
def mC:=@List.map_cons
def aG:=@Array.getElem?_toList
inductive D where
 |undef
 |int (k:IntKind) (n:Int)
 |bool (b:Bool)
 |str (s:List UInt8)
 |raw (x:Value)
 |aq
 |agg (ds:List D)
 |aI (ds:List D)
 |sl (sz:Nat) (es:List D)
 |ij (sz:Nat) (es:List D)
 |cG (d:D) (j:Nat)
 |loc (t e i j:Nat)
 |bp (t e sz o n:Nat)
 |fJ (t e i j n:Nat)
 |omap (t e:Nat)
 |fn (f:Fn) (caps:List D)
 |iC (f:FuncId) (first:List D)
 |dI (t:TypeId) (d:D)
 |any (ds:List D)
 |fK
 |ic
 deriving Inhabited
structure Tok{α:Sort u}(a:α):Type where
def D.cells:D->List D
 | .agg ds=>ds
 |d=>[d]
def D.one:D->Bool
 | .undef| .agg _| .aI _| .any _| .fK=>false
 | .raw x=>x.oneCell'
 |_=>true
structure Bx where
 ep:Nat
 k:Nat
 sz:Nat
 ty:TypeId
 es:List D
def lv(k:Nat):Prop:=k≠0/\k≠3
def Kx:lv 0=False:=by simp[lv]
def Xw:lv 1=True:=by simp[lv]
def lv2:lv 2=True:=by simp[lv]
instance(k:Nat):Decidable (lv k):=inferInstanceAs (Decidable (_/\_))
end Go.V
