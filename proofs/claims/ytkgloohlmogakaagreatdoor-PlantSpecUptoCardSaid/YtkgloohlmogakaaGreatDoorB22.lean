/- Lemmas on plain data and programs: part B22. -/
import Derived.Test.YtkgloohlmogakaaGreatDoorB21
import Derived.Test.YtkgloohlmogakaaGreatDoorB16
import Derived.Test.YtkgloohlmogakaaGreatDoorB15
set_option linter.all false
set_option maxHeartbeats 8000000
set_option maxRecDepth 100000
namespace Go.V.St
open Go.Proofs Go.Proofs.Tryz Go.RowKit Go.V.Lx Go.V.Gr Go.V.Ty
abbrev Xf(g:aS):Prop:=mK g/\∀x∈g.rules,x.parts.length<=65536
attribute [local go_sem] aS.d
instance(g:aS):Ct 144 [.agg [.str g.name,strs g.au,.str g.start,I g.no,.sl 5 (g.entries.map Entry.d),.sl 5 (g.rules.map aE.d)]] (Xf g) (I (jK g)):=⟨fun h=>O8 QH g h.1 h.2⟩
instance(l:List cj):Ct 142 [.sl 10 (l.map cj.d)] True (I (jN l)):=⟨fun _=>Oy l⟩
instance(bs:List aO)(ts:List bS):Ct 143 [.sl 5 (bs.map aO.d),.sl 7 (ts.map bS.d)] True (I (dM bs ts)):=⟨fun _=>LQ bs ts⟩
instance(l:List ca):Ct 146 [.sl 4 (l.map ca.d)] True (I (ej l)):=⟨fun _=>LS l⟩
structure eA(s:aV):Prop where
 gr:∀g∈s.eD,Xf g
 te:∀x∈s.dU,C0 x
 vi:∀v∈s.cr,N7 v
 ki:∀v∈s.eL,i64 v.kind
 lg:Lm s.eD
 lt:Lm s.dU
 lv:Lm s.cr
 li:Lm s.eL
 lh:Lm s.heard
def FR(p:(aS×aO)×Nat):Bool:=(decide (p.2=0)||decide (jK p.1.1=0))&&decide (p.1.2.cw=(p.2:Int))
def CT(s:aV):Bool:=(s.eD.zip s.eh).zipIdx.all FR
def fE(s:aV):Bool:=decide ((s.eD.length:Int)=s.er)&&decide ((s.eh.length:Int)=s.er)&&decide (nI s.dU=0)&&decide (jN s.mN=0)&&decide (dM s.eh s.jX=0)&&CT s&&s.dU.all fun t=>decide (t.cw<s.er)
def Kw{s:aV}{j:Nat}{x:(aS×aO)×Nat}(h:(s.eD.zip s.eh).zipIdx[j]? =some x):s.eD[j]? =some x.1.1/\s.eh[j]? =some x.1.2/\x.2=j:=by
 rw[List.getElem?_zipIdx,mS]at h;obtain⟨p,h,rfl⟩:=h;rw[List.getElem?_zip_eq_some]at h;exact⟨h.1,h.2,by simp⟩
instance(s:aV):Ct 76 [s.d] (eA s) (.bool (fE s)):=by
 refine bf f76 [] [.tmp 2] fun pre=>?_;obtain⟨gr,te,vi,ki,lg,lt,lv,li,lh⟩:=pre;unfold fE CT;generalize hA:List.all (List.zipIdx _) _=A;generalize hB:List.all s.dU _=B;clear vi ki li lh lv;have lb:Lm (s.eD.zip s.eh).zipIdx:=by simp[List.length_zipIdx,List.length_zip];omega
 repeat' first|exact zQ|with_reducible apply zJ<;>intro _|refine zK ?_
 have hn:((s.eD.zip s.eh).zipIdx.length:Int)=s.er:=by simp[List.length_zipIdx,List.length_zip];omega
 refine gR _ hA 4 [(2,2),(4,4),(41,66)] [] lb sG (fun j x τ β hx hj hw hi aP=>?_) fun τ β tC hi ha=>?_
 ·obtain⟨h1,h2,h3⟩:=Kw hx;rw[hn]at hj;have hg:=gr _ (mG h1);unfold FR at aP⊢;obtain⟨⟨g,b⟩,k⟩:=x;simp only at h1 h2 h3 hg aP⊢;subst h3;clear hx gr hn lb hA hB te;rcases k with _|k
  ·have hj:(0:Int)<s.er:=oM;repeat' first|exact zQ|with_reducible apply zJ<;>intro _|refine zK ?_
   all_goals first|with_reducible exact .refl _|(refine ab ?_;have aP:=aP.out zz;simp[*];done)|((try refine ab ?_);exact zz)
  ·have hp:(0:Int)<((k+1:Nat):Int):=oM;repeat' first|exact zQ|with_reducible apply zJ<;>intro _|refine zK ?_
   all_goals first|with_reducible exact .refl _|(refine ab ?_;have aP:=aP.out zz;simp[*];done)|((try refine ab ?_);exact zz)
 ·rw[hn]at tC hi;repeat' first|exact zQ|with_reducible apply zJ<;>intro _|refine zK ?_
  refine gR s.dU hB 5 [(2,2),(5,5),(67,81)] [] lt sG (fun j x τ β hx hj hw hi aP=>?_) fun τ β tC hi ha=>?_
  ·repeat' first|exact zQ|with_reducible apply zJ<;>intro _|refine zK ?_
   all_goals first|with_reducible exact .refl _|(refine ab ?_;have aP:=aP.out zz;simp[*];done)|((try refine ab ?_);exact zz)
  ·repeat' first|exact zQ|with_reducible apply zJ<;>intro _|refine zK ?_
def qK(n:Int)(last:Int)(v:cy):Option Int:=if gX v&&decide (v.cw<n)&&decide (last<v.no)then some v.no else none
def IF(s:aV)(v:ca):Bool:=decide (v.cw<s.er)&&decide (0<=Co v.iP s.cr)
noncomputable def fX(s:aV):Bool:=(s.cr.foldlM (qK s.er) (-1)).isSome&&decide (ej s.eL=0)&&s.eL.all (IF s)
instance(s:aV):Ct 77 [s.d] (eA s) (.bool (fX s)):=by
 refine bf f77 [] [.tmp 2] fun pre=>?_;obtain⟨gr,te,vi,ki,lg,lt,lv,li,lh⟩:=pre;unfold fX;generalize hA:List.foldlM (qK _) _ _=A;generalize hB:List.all s.eL _=B;clear ki lg lt lh gr te;repeat' first|exact zQ|with_reducible apply zJ<;>intro _|refine zK ?_
 refine o_ _ _ _ hA 3 [(2,4),(6,44)] [(4,4)] (fun j s' τ _=>D8 s.cr cy.no (-1) j s') lv sG (.inl ⟨rfl,rfl⟩) (fun j x s' τ β hx hj hw hi h3 aP=>?_) fun s' τ β hn hi h3 ha=>?_
 ·have nx:D8 s.cr cy.no (-1) (j+1) x.no:=.inr ⟨j,x,rfl,hx,rfl⟩;have tD:gX x=true-> -1<x.no:=fun h=>by simp[gX]at h;omega
  unfold qK at aP⊢;have hv:=vi x (mG hx);clear vi hA hB;cases hvb:gX x<;>rw[hvb]at aP tD
  ·rcases h3 with⟨rfl,rfl⟩|⟨k,y,rfl,hy,rfl⟩
   ·have hj:(0:Int)<s.cr.length:=oM;repeat' first|exact zQ|with_reducible apply zJ<;>intro _|refine zK ?_
    all_goals first|with_reducible exact .refl _|(refine ab ?_;have aP:=aP.out zz;simp[*];done)|((try refine ab ?_);exact zz)
   ·repeat' first|exact zQ|with_reducible apply zJ<;>intro _|refine zK ?_
    all_goals first|with_reducible exact .refl _|(refine ab ?_;have aP:=aP.out zz;simp[*];done)|((try refine ab ?_);exact zz)
  replace tD:=tD rfl;rcases h3 with⟨rfl,rfl⟩|⟨k,y,rfl,hy,rfl⟩
  ·have hj:(0:Int)<s.cr.length:=oM;repeat' first|exact zQ|with_reducible apply zJ<;>intro _|refine zK ?_
   rotate_left
   ·exact⟨by simp,x.no,zz,nx⟩
   all_goals first|with_reducible exact .refl _|(refine ab ?_;have aP:=aP.out zz;simp[*];done)|((try refine ab ?_);exact zz)
  ·have hk:IntKind.i64.wrap (((k+1:Nat):Int) - 1)=(k:Int):=by rw[ik _ oM oM];omega
   have hp:(0:Int)<((k+1:Nat):Int):=oM;repeat' first|exact zQ|with_reducible apply zJ<;>intro _|refine zK ?_
   rotate_left 2
   ·exact⟨x.no,zz,nx⟩
   all_goals first|with_reducible exact .refl _|(refine ab ?_;have aP:=aP.out zz;simp[*];done)|((try refine ab ?_);exact zz)
 ·repeat' first|exact zQ|with_reducible apply zJ<;>intro _|refine zK ?_
  refine gR s.eL hB 5 [(2,2),(5,5),(49,76)] [] li sG (fun j x τ β hx hj hw hi aP=>?_) fun τ β tC hi ha=>?_
  ·unfold IF at aP⊢;repeat' first|exact zQ|with_reducible apply zJ<;>intro _|refine zK ?_
   all_goals first|with_reducible exact .refl _|(refine ab ?_;have aP:=aP.out zz;simp[*];done)|((try refine ab ?_);exact zz)
  ·repeat' first|exact zQ|with_reducible apply zJ<;>intro _|refine zK ?_
   all_goals first|with_reducible exact .refl _|(refine ab ?_;have aP:=aP.out zz;simp[*];done)|((try refine ab ?_);exact zz)
end Go.V.St
namespace Go.V.St
open Go.Proofs Go.Proofs.Tryz Go.RowKit Go.V.Lx Go.V.Gr Go.V.Ty
def rm(src at_:Int)(h:bc):Option Int:=if uR h.at_&&decide (at_<=h.at_)&&decide (0<=h.src)&&decide (h.src<src)&&Cu h then some h.at_ else none
def kC(s:aV):Bool:=(s.heard.foldlM (rm s.sources) 0).isSome
noncomputable def ua(s:aV):Bool:=tZ s.sources s.er s.chunk s.quiet s.late s.pL s.most&&fE s&&fX s&&kC s
noncomputable def bQ(s:aV):Int:=if(4096:Int)<s.heard.length\/(4096:Int)<s.cr.length then 2 else if ua s then 0 else 540
instance(s:aV):Ct 78 [s.d] (Lm s.heard) (.bool (kC s)):=by
 refine bf f78 [] [.tmp 2] fun pre=>?_;unfold kC;generalize hA:List.foldlM (rm _) _ _=A;repeat' first|exact zQ|with_reducible apply zJ<;>intro _|refine zK ?_
 refine o_ _ _ _ hA 3 [(2,55)] [(4,4)] (fun j s' τ _=>D8 s.heard bc.at_ 0 j s') pre sG (.inl ⟨rfl,rfl⟩) (fun j x s' τ β hx hj hw hi h3 aP=>?_) fun s' τ β hn hi h3 ha=>?_
 ·have nx:D8 s.heard bc.at_ 0 (j+1) x.at_:=.inr ⟨j,x,rfl,hx,rfl⟩;unfold rm at aP⊢;clear hA;cases hv:Cu x<;>rw[hv]at aP
  ·have aP:Hid (True->A=none):=fun _=>aP.out sI;rcases h3 with⟨rfl,rfl⟩|⟨k,y,rfl,hy,rfl⟩
   ·have hj:(0:Int)<s.heard.length:=oM;repeat' first|exact zQ|with_reducible apply zJ<;>intro _|refine zK ?_
    all_goals first|with_reducible exact .refl _|(refine ab ?_;have aP:=aP.out zz;simp[*];done)|((try refine ab ?_);exact zz)
   ·have hk:IntKind.i64.wrap (((k+1:Nat):Int) - 1)=(k:Int):=by rw[ik _ oM oM];omega
    have hp:(0:Int)<((k+1:Nat):Int):=oM;repeat' first|exact zQ|with_reducible apply zJ<;>intro _|refine zK ?_
    all_goals first|with_reducible exact .refl _|(refine ab ?_;have aP:=aP.out zz;simp[*];done)|((try refine ab ?_);exact zz)
  rcases h3 with⟨rfl,rfl⟩|⟨k,y,rfl,hy,rfl⟩
  ·have hj:(0:Int)<s.heard.length:=oM;repeat' first|exact zQ|with_reducible apply zJ<;>intro _|refine zK ?_
   all_goals first|exact⟨by simp,x.at_,zz,nx⟩|exact⟨x.at_,zz,nx⟩|skip
   all_goals first|with_reducible exact .refl _|(refine ab ?_;have aP:=aP.out zz;simp[*];done)|((try refine ab ?_);exact zz)
  ·have hk:IntKind.i64.wrap (((k+1:Nat):Int) - 1)=(k:Int):=by rw[ik _ oM oM];omega
   have hp:(0:Int)<((k+1:Nat):Int):=oM;repeat' first|exact zQ|with_reducible apply zJ<;>intro _|refine zK ?_
   all_goals first|exact⟨by simp,x.at_,zz,nx⟩|exact⟨x.at_,zz,nx⟩|skip
   all_goals first|with_reducible exact .refl _|(refine ab ?_;have aP:=aP.out zz;simp[*];done)|((try refine ab ?_);exact zz)
 ·repeat' first|exact zQ|with_reducible apply zJ<;>intro _|refine zK ?_
  all_goals first|with_reducible exact .refl _|(refine ab ?_;have aP:=aP.out zz;simp[*];done)|((try refine ab ?_);exact zz)
instance(s:aV):Ct 37 [s.d] (eA s) (I (bQ s)):=by
 refine bf f37 [] [.tmp 2] fun pre=>?_;have lh:=pre.lh;repeat' first|exact zQ|with_reducible apply zJ<;>intro _|refine zK ?_
 all_goals (refine ab (congrArg I ?_);unfold bQ ua;first|(rw[if_pos oM];done)|(rw[if_neg oM];simp[*];done))
end Go.V.St
