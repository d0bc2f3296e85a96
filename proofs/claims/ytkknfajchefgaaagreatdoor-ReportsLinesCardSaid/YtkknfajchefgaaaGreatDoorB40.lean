/- Lemmas on plain data and programs: part B40. -/
import Derived.Test.YtkknfajchefgaaaGreatDoorB38
import Derived.Test.YtkknfajchefgaaaGreatDoorB39
set_option linter.all false
set_option maxHeartbeats 8000000
set_option maxRecDepth 100000
namespace Go.V.St
open Go.Proofs Go.RowKit Go.V.Lx Go.V.Gr Go.V.Ty
abbrev zL(g:aA):Prop:=ov g/\∀x∈g.rules,x.parts.length<=65536
attribute [local go_sem] aA.d
structure iU(s:cP):Prop where
 gr:∀g∈s.grams,zL g
 te:∀x∈s.cB,EE x
 vi:∀v∈s.aC,Od v
 ki:∀v∈s.cr,i64 v.kind
 lg:Lm s.grams
 lt:Lm s.cB
 lv:Lm s.aC
 li:Lm s.cr
 lh:Lm s.heard
def Tt(p:(aA×bn)×Nat):Bool:=(decide (p.2=0)||decide (jm p.1.1=0))&&decide (p.1.2.bH=(p.2:Int))
def NW(s:cP):Bool:=(s.grams.zip s.bp).zipIdx.all Tt
def fI(s:cP):Bool:=decide ((s.grams.length:Int)=s.langs)&&decide ((s.bp.length:Int)=s.langs)&&decide (vl s.cB=0)&&decide (sK s.bG=0)&&decide (im s.bp s.cy=0)&&NW s&&s.cB.all fun t=>decide (t.bH<s.langs)
def adm{s:cP}{j:Nat}{x:(aA×bn)×Nat}(h:(s.grams.zip s.bp).zipIdx[j]? =some x):s.grams[j]? =some x.1.1/\s.bp[j]? =some x.1.2/\x.2=j:=awN
def wJ(n:Int)(last:Int)(v:aV):Option Int:=if mM v&&decide (v.bH<n)&&decide (last<v.no)then some v.no else none
def T0(s:cP)(v:bD):Bool:=decide (v.bH<s.langs)&&decide (0<=SB v.jB s.aC)
noncomputable def iE(s:cP):Bool:=(s.aC.foldlM (wJ s.langs) (-1)).isSome&&decide (hU s.cr=0)&&s.cr.all (T0 s)
end Go.V.St
namespace Go.V.St
open Go.Proofs Go.RowKit Go.V.Lx Go.V.Gr Go.V.Ty
def zn(src at_:Int)(h:bL):Option Int:=if lM h.at_&&decide (at_<=h.at_)&&decide (0<=h.src)&&decide (h.src<src)&&SE h then some h.at_ else none
def uT(s:cP):Bool:=(s.heard.foldlM (zn s.sources) 0).isSome
noncomputable def rh(s:cP):Bool:=vh s.sources s.langs s.chunk s.quiet s.late s.gap s.most&&fI s&&iE s&&uT s
noncomputable def eN(s:cP):Int:=if(4096:Int)<s.heard.length\/(4096:Int)<s.aC.length then 2 else if rh s then 0 else 540
end Go.V.St
