/- Lemmas on plain data and programs: part B34. -/
import Derived.Test.YtkknfajchefgaaaGreatDoorB21
import Derived.Test.YtkknfajchefgaaaGreatDoorB33
set_option linter.all false
set_option maxHeartbeats 8000000
set_option maxRecDepth 100000
namespace Go.V.St
open Go.Proofs Go.Proofs.Tryz Go.RowKit Go.V.Lx Go.V.Gr Go.V.Ty
def adO{α:Type}(p:α->Bool)(l:List α):(l.any fun x=> !p x)= !l.all p:=awN
@[simp] def lM(n:Int):Bool:=decide (0<=n)&&decide (n<1099511627776)
@[simp] def S1(n:Int):Bool:=decide (0<=n)&&decide (n<32)
def zO(l:List ae):Bool:=decide ((1:Int)<=l.length)&&decide ((l.length:Int)<=4)&&l.all dG
def D_(x:Term):Bool:=aX x.no 0 1048576&&lM x.at_&&lM x.known&&S1 x.bH&&zO x.src&&if x.gone then decide ((x.vn.length:Int)=0)&&decide (x.cat=[])else zO x.vn&&iP x.cat
def Bm(last:Int)(x:Term):Option Int:=if D_ x&&decide (last<x.no)then some x.no else none
def vl(l:List Term):Int:=if 1024<(l.length:Int)then 2 else if(l.foldlM Bm (-1)).isSome then 0 else 270
instance(n:Int):Ct 248 [I n] True (.bool (lM n)):=by
 refine dp f248 [] [.tmp 2] fun pre=>?_;exact zF
instance(n:Int):Ct 249 [I n] True (.bool (S1 n)):=by
 refine dp f249 [] [.tmp 2] fun pre=>?_;exact zF
instance(s:ae):Ct 288 [.str s] True (.bool (!dG s)):=by
 refine dp f288 [] [.tmp 2] fun pre=>?_;exact zE
instance(l:List ae):Ct 250 [.sl 1 (l.map D.str)] True (.bool (zO l)):=by
 refine dp f250 [] [.tmp 2] fun pre=>?_;have hA:=adO dG l;unfold zO;generalize List.all l _=A at *;exact zF
instance(s:ae):Ct 155 [.str s] (Lm s) (.bool (iP s)):=⟨N5 s⟩
instance(x:Term):Ct 181 [x.d] (Lm x.cat) (.bool (D_ x)):=by
 refine dp f181 [] [.tmp 2] fun pre=>?_;unfold D_;exact zF
abbrev EE(x:Term):Prop:=Lm x.cat/\Lm x.src/\Lm x.vn
instance(l:List Term):Ct 137 [.sl 8 (l.map Term.d)] (∀x∈l,EE x) (I (vl l)):=by
 refine dp f137 [] [.tmp 2] fun pre=>?_;unfold vl;generalize hA:List.foldlM Bm (-1) l=A;refine zW ?_;intros;refine yV l Bm (-1) hA 11 [(2,3),(5,5),(11,26)] [(5,5)] (fun j s τ _=>τ 3=I s) oM sG sG (fun j x s τ β hx hj hw hi h3 cH=>?_) fun s τ β hn hi h3 ha=>?_
 ·obtain⟨NF,eA,hx3⟩:=pre x (aat hx);unfold Bm at cH⊢;clear pre;exact zF
 ·exact zF
end Go.V.St
