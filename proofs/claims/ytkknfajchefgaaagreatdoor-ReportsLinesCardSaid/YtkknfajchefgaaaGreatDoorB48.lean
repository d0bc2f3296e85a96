/- Lemmas on plain data and programs: part B48. -/
import Derived.Test.YtkknfajchefgaaaGreatDoorB46
import Derived.Test.YtkknfajchefgaaaGreatDoorB47
set_option linter.all false
set_option maxHeartbeats 8000000
set_option maxRecDepth 100000
namespace Go.V.Rp
open Go.Proofs Go.Proofs.Tryz Go.RowKit Go.V.Lx Go.V.Gr Go.V.Ty Go.V.St
def Ie{P:Program}{C:Calc}{Q:DX->Env->ab->Prop}{σ:Env}{bx:ab}{c:Code}{α:Type}(l:List α)(n:Nat)(N:Int)(hN:N=n){p:α->Bool}{A:Bool}(hA:(l.take n).all p=A)(i:Nat)(M MB:List (Nat×Nat))(hl:Lm l)(h0:σ i= .int .i64 0)
 (hb:∀(j:Nat) x τ β,l[j]? =some x->(j:Int)<(l.length:Int)->(j:Int)<N->IntKind.i64.wrap ((j:Int)+1)=((j+1:Nat):Int)->τ i= .int .i64 j->Hid (p x=false->A=false)->
  cD P C c (dK (LN M MB σ bx fun τ' _=>τ' i= .int .i64 ((j+1:Nat):Int)/\p x=true) Q) (an M τ σ) (an MB β bx))
 (he:∀τ β (m:Nat),(¬(m:Int)<(l.length:Int))\/(m:Int)<(l.length:Int)/\¬(m:Int)<N->τ i= .int .i64 m->A=true->cD P C c (dK (fun _ _=>False) Q) (an M τ σ) (an MB β bx)):cD P C (.loop c) Q σ bx:=by
 have zr:(l.take n).length=min n l.length:=afd;refine ql (l.take n) hA i M MB awN h0 (fun j x τ β hx h1 h2 hi cH=>?_) fun τ β hn hi ha=>?_
 ·exact awN
 exact awN
def Yz(x:Word):Bool:= !(decide ((10:Int)<(x.alts.length:Int))||decide ((200:Int)<(x.t.length:Int)))
def Gj(l:List Word):Bool:= !(decide ((80:Int)<(l.length:Int))&&decide ((l.length:Int)<=4096)||decide ((5000:Int)<(l.length:Int)))&&(l.take 100).all Yz
instance(l:List Word):Ct 79 [.sl 5 (l.map Word.d)] (Lm l) (.bool (Gj l)):=by
 refine dp f79 [] [.tmp 2] fun pre=>?_;unfold Gj;generalize hA:List.all _ _=A;repeat' first|exact zQ|with_reducible apply zJ<;>intro _|refine zK ?_
 all_goals first|exact aq (aaR D.bool av8)|skip
 all_goals refine Ie l 100 100 rfl hA 3 [(2,3),(17,42)] [] pre sG (fun j x τ β hx hj GH hw hi cH=>?_) fun τ β m hn hi ha=>?_
 all_goals first
  |(
   unfold Yz at cH⊢;repeat' first|exact zQ|with_reducible apply zJ<;>intro _|refine zK ?_
   all_goals first|with_reducible exact .refl _|(refine aq ?_;have cH:=cH.out zz;simp[*];done)|((try refine aq ?_);exact zz)
   done)
  |(rcases hn with hn|⟨hn,GM⟩<;>
   (
    repeat' first|exact zQ|with_reducible apply zJ<;>intro _|refine zK ?_
    all_goals first|with_reducible exact .refl _|(refine aq ?_;have cH:=cH.out zz;simp[*];done)|((try refine aq ?_);exact zz)))
def aaE(x:Sign):Bool:= !(decide ((40:Int)<(x.t.length:Int))||decide ((10:Int)<(x.c.length:Int)))
def LB(v:aV):Bool:= !(decide ((20:Int)<(v.bq.gs.length:Int))||decide ((20:Int)<(v.bq.ks.length:Int))||decide ((70:Int)<(v.cz.length:Int))||decide ((40:Int)<(v.br.bl.length:Int)))
def Yy(v:aV):Bool:=LB v&&v.cz.all aaE
def Gi(l:List aV):Bool:= !(decide ((4:Int)<(l.length:Int))&&decide ((l.length:Int)<=4096)||decide ((4200:Int)<(l.length:Int)))&&(l.take 10).all Yy
instance(l:List aV):Ct 37 [.sl 14 (l.map aV.d)] (Lm l) (.bool (Gi l)):=by
 refine dp f37 [] [.tmp 2] fun pre=>?_;unfold Gi;generalize hA:List.all _ _=A;repeat' first|exact zQ|with_reducible apply zJ<;>intro _|refine zK ?_
 all_goals first|exact aq (aaR D.bool av8)|skip
 all_goals refine Ie l 10 10 rfl hA 3 [(2,5),(19,82)] [(4,4)] pre sG (fun j x τ β hx hj GH hw hi cH=>?_) fun τ β m hn hi ha=>?_
 all_goals first
  |(rcases hn with hn|⟨hn,GM⟩<;>
   (
    repeat' first|exact zQ|with_reducible apply zJ<;>intro _|refine zK ?_
    simp_all[aq]))
  |skip
 all_goals
  unfold Yy at cH⊢;generalize hB:List.all x.cz _=B at *;have Nr:LB x= !(decide ((20:Int)<(x.bq.gs.length:Int))||decide ((20:Int)<(x.bq.ks.length:Int))||decide ((70:Int)<(x.cz.length:Int))||decide ((40:Int)<(x.br.bl.length:Int))):=rfl;generalize LB x=F at *;replace Nr:Hid _:=Nr;repeat' first|exact zQ|with_reducible apply zJ<;>intro _|refine zK ?_
  all_goals first
   |(have cH:=cH.out (by rw[Nr.out];simp[*]);exact aq (aaR D.bool av8))
   |skip
  all_goals
   refine ql x.cz hB 5 [(2,2),(5,5),(58,82)] [] awN sG (fun k y τ' β' hy hk nG oH Y1=>?_) fun τ' β' GM oH oe=>?_
   ·unfold aaE at Y1⊢;have Y2:(!(decide ((40:Int)<(y.t.length:Int))||decide ((10:Int)<(y.c.length:Int))))=false->A=false:=fun h=>cH.out (by rw[Y1.out h];simp);replace Y2:Hid _:=Y2;clear cH Y1 Nr;repeat' first|exact zQ|with_reducible apply zJ<;>intro _|refine zK ?_
    all_goals first
     |(have cH:=Y2.out awJ;exact aq (aaR D.bool av8))
     |rfl
   ·have hF:F=true:=by rw[Nr.out];simp[*]
    clear Nr cH;repeat' first|exact zQ|with_reducible apply zJ<;>intro _|refine zK ?_
    all_goals exact aq (aaR D.bool av8)
instance(l:List Word)(a b c d e:Int):Ct 40 [.agg [I a,I b,I c,I d,I e,.sl 5 (l.map Word.d)]] (Lm l) (.bool (Gj l)):=by
 refine dp f40 [] [.tmp 2] fun pre=>?_;exact zE
def LA(l:List Term):Bool:=decide ((l.length:Int)<=30)||decide ((1024:Int)<(l.length:Int))&&decide ((l.length:Int)<=1100)
instance(l:List Term):Ct 39 [.sl 8 (l.map Term.d)] (Lm l) (.bool (LA l)):=by
 refine dp f39 [] [.tmp 2] fun pre=>?_;unfold LA;exact zF
def abc{T G:Prop}(main:(Unit->T)->G)(pf:T):G:=main fun _=>pf
def Xe{g:aA}(h:ov g):Sz g:=⟨h.Ih,h.EY,h.Dh,fun x hx=>(h.dw x hx).len,fun x hx=>⟨(h.rules x hx).Fo,(h.rules x hx).YI⟩⟩
attribute [local go_sem] aA.d
instance(g:aA):Ct 38 [.agg [.str g.name,strs g.aB,.str g.start,I g.no,.sl 5 (g.entries.map Entry.d),.sl 5 (g.rules.map aF.d)]] (ov g) (.bool (Ty.sq g)):=⟨fun h=>ah6 g (Xe h) h.name h.start⟩
def Sx(s:cP):Bool:=decide ((3:Int)<s.sources)&&decide (s.sources<=16)||decide ((3:Int)<(s.grams.length:Int))||decide ((8:Int)<(s.cB.length:Int))||decide ((8:Int)<(s.bG.length:Int))||decide ((4:Int)<(s.bp.length:Int))||decide ((8:Int)<(s.cy.length:Int))||decide ((12:Int)<(s.cr.length:Int))|| !Gi s.aC||decide ((16:Int)<(s.heard.length:Int))&&decide ((s.heard.length:Int)<=4096)||decide ((4200:Int)<(s.heard.length:Int))
def Sy(g:aA):Bool:= !(!Ty.sq g||decide ((10:Int)<(g.rules.length:Int))||decide ((8:Int)<(g.aB.length:Int))&&decide ((g.aB.length:Int)<=32))
def Yx(s:cP):Bool:= !LA s.cB||decide ((1:Int)<s.langs)&&decide ((8:Int)<s.most)&&decide (s.most<=16)
def SA(h:bL):Bool:= !(!Gj h.words||decide ((5:Int)<(h.words.length:Int)))
def Au(s:cP):Bool:= !Sx s&&s.grams.all Sy&& !Yx s&&(s.heard.take 20).all SA
attribute [local go_sem] List.append_eq List.cons_append List.nil_append
instance ah5(s:cP):Ct 16 [s.d] ((∀g∈s.grams,ov g)/\Lm s.grams/\Lm s.cB/\Lm s.aC/\Lm s.heard/\(∀h∈s.heard,Lm h.words)) (.bool (Au s)):=by
 refine dp f16 [] [.tmp 2] fun pre=>?_;obtain⟨g1,g2,g3,g4,g5,g6⟩:=pre;unfold Au;generalize hA:List.all s.grams _=A;generalize hB:List.all (List.take 20 s.heard) _=E;have h0:Sx s=(decide ((3:Int)<s.sources)&&decide (s.sources<=16)||decide ((3:Int)<(s.grams.length:Int))||decide ((8:Int)<(s.cB.length:Int))||decide ((8:Int)<(s.bG.length:Int))||decide ((4:Int)<(s.bp.length:Int))||decide ((8:Int)<(s.cy.length:Int))||decide ((12:Int)<(s.cr.length:Int))|| !Gi s.aC||decide ((16:Int)<(s.heard.length:Int))&&decide ((s.heard.length:Int)<=4096)||decide ((4200:Int)<(s.heard.length:Int))):=rfl;generalize Sx s=F0 at *;replace h0:Hid _:=h0;replace g1:Hid _:=g1;replace g6:Hid _:=g6;apply abc
 ·intro tail;repeat' first|exact zQ|with_reducible apply zJ<;>intro _|refine zK ?_
  all_goals first
   |exact aq (aaR D.bool (by rw[h0.out];grind))
   |skip
  all_goals exact fresh (fun σ' B=>F0=false/\σ' 1= .loc 1 1 0 0/\σ' 3=I 0/\B 1=⟨1,1,15,33,[s.d]⟩) ⟨by rw[h0.out];simp[*],sG,sG,sG⟩ (tail ())
 ·rintro σ B ⟨rfl,k1,k3,b1⟩;clear h0;refine ql s.grams hA 3 [(2,3),(75,118)] [] g2 k3 (fun j x τ β hx hj hw hi cH=>?_) fun τ β hn hi ha=>?_
  ·have GW:=g1.out x (aat hx);unfold Sy at cH⊢;exact zF
  ·have h2:Yx s=(!LA s.cB||decide ((1:Int)<s.langs)&&decide ((8:Int)<s.most)&&decide (s.most<=16)):=rfl;generalize Yx s=F2 at *;replace h2:Hid _:=h2;apply abc
   ·intro tail;repeat' first|exact zQ|with_reducible apply zJ<;>intro _|refine zK ?_
    all_goals first
     |exact aq (aaR D.bool (by rw[h2.out];grind))
     |skip
    all_goals exact fresh (fun σ' B=>F2=false/\σ' 1= .loc 1 1 0 0/\σ' 4=I 0/\B 1=⟨1,1,15,33,[s.d]⟩) ⟨by rw[h2.out];simp[*],avJ,sG,by simp[go_sem,b1]⟩ (tail ())
   ·clear k1 k3 b1;rintro σ B ⟨rfl,k1,k3,b1⟩;refine Ie s.heard 20 20 rfl hB 4 [(2,2),(4,4),(141,171)] [] g5 k3 (fun j x τ β hx hj GH hw hi cH=>?_) fun τ β m hn hi ha=>?_
    ·have GW:=g6.out x (aat hx);unfold SA at cH⊢;exact zF
    ·rcases hn with hn|⟨hn,GM⟩
     all_goals
      exact zF
def C4(s:cP):Prop:=(∀g∈s.grams,ov g)/\Lm s.grams/\Lm s.cB/\Lm s.aC/\Lm s.heard/\∀h∈s.heard,Lm h.words
def DK(l:List Fix):Bool:=decide ((l.length:Int)<=20)||decide ((1024:Int)<(l.length:Int))&&decide ((l.length:Int)<=1100)
instance(l:List Fix):Ct 17 [.sl 8 (l.map Fix.d)] True (.bool (DK l)):=by
 refine dp f17 [] [.tmp 2] fun pre=>?_;unfold DK;exact zF
instance(r:Rec):Ct 7 [r.d] (C4 r.s) (.bool (Au r.s&&DK r.cn)):=by
 refine dp f7 [] [.tmp 2] fun pre=>?_;have key:Ct 16 [r.s.d] (C4 r.s) (.bool (Au r.s)):=ah5 r.s;haveI:Ct 16 [r.s.d] True (.bool (Au r.s)):=⟨fun _=>key.h pre⟩
 clear key;exact zF
end Go.V.Rp
namespace Go.V.Rp
open Go.Proofs Go.Proofs.Tryz Go.RowKit Go.V.Lx Go.V.Gr Go.V.Ty Go.V.St
instance(l:List ae):Ct 129 [strs l,strs l] (Lm l) (.bool true):=by
 refine dp f129 [] [.tmp 4] fun pre=>?_;refine zW ?_;intros;refine bT l [(4,5),(11,25)] [] (fun j τ _=>τ 5=I j) pre sG (fun j x τ β hx hj hw hi=>?_) fun τ β hn hi=>?_<;>repeat' first|exact zQ|with_reducible apply zJ<;>intro _|refine zK ?_
instance(x:Term):Ct 64 [x.d,x.d] (Lm x.src/\Lm x.vn) (.bool true):=by
 refine dp f64 [] [.tmp 4] fun pre=>?_;obtain⟨h1,h2⟩:=pre;exact zE
instance(l:List Term):Ct 29 [.sl 8 (l.map Term.d),.sl 8 (l.map Term.d)] (Lm l/\∀x∈l,Lm x.src/\Lm x.vn) (.bool true):=by
 refine dp f29 [] [.tmp 4] fun pre=>?_;obtain⟨h1,h2⟩:=pre;replace h2:Hid _:=h2;refine zW ?_;intros;refine bT l [(4,5),(11,26)] [] (fun j τ _=>τ 5=I j) h1 sG (fun j x τ β hx hj hw hi=>?_) fun τ β hn hi=>?_
 ·have GW:=h2.out x (aat hx);exact zE
 ·exact zE
instance(l:List ae):Ct 68 [strs l,strs l] (Lm l) (.bool true):=by
 refine dp f68 [] [.tmp 4] fun pre=>?_;refine zW ?_;intros;refine bT l [(4,5),(11,25)] [] (fun j τ _=>τ 5=I j) pre sG (fun j x τ β hx hj hw hi=>?_) fun τ β hn hi=>?_<;>repeat' first|exact zQ|with_reducible apply zJ<;>intro _|refine zK ?_
instance(l:List Int):Ct 178 [ints l,ints l] (Lm l) (.bool true):=by
 refine dp f178 [] [.tmp 4] fun pre=>?_;refine zW ?_;intros;refine bT l [(4,5),(11,25)] [] (fun j τ _=>τ 5=I j) pre sG (fun j x τ β hx hj hw hi=>?_) fun τ β hn hi=>?_<;>repeat' first|exact zQ|with_reducible apply zJ<;>intro _|refine zK ?_
instance(l:List Sign):Ct 132 [.sl 2 (l.map Sign.d),.sl 2 (l.map Sign.d)] (Lm l/\∀x∈l,Lm x.c) (.bool true):=by
 refine dp f132 [] [.tmp 4] fun pre=>?_;obtain⟨h1,h2⟩:=pre;replace h2:Hid _:=h2;refine zW ?_;intros;refine bT l [(4,5),(11,41)] [] (fun j τ _=>τ 5=I j) h1 sG (fun j x τ β hx hj hw hi=>?_) fun τ β hn hi=>?_
 ·have GW:=h2.out x (aat hx);repeat' first|exact zQ|with_reducible apply zJ<;>intro _|refine zK ?_
  all_goals trace_state
 ·repeat' first|exact zQ|with_reducible apply zJ<;>intro _|refine zK ?_
  all_goals trace_state
instance(x:Fix):Ct 31 [x.d,x.d] (Lm x.words) (.bool true):=by
 refine dp f31 [] [.tmp 4] fun pre=>?_;repeat' first|exact zQ|with_reducible apply zJ<;>intro _|refine zK ?_
 all_goals trace_state
instance(h:bL):Ct 67 [h.d,h.d] (Lm h.words/\∀x∈h.words,Lm x.alts) (.bool true):=by
 refine dp f67 [] [.tmp 4] fun pre=>?_;obtain⟨h1,h2⟩:=pre;replace h2:Hid _:=h2;refine zW ?_;intros;refine bT h.words [(4,4),(7,9),(78,131)] [(8,9)] (fun j τ _=>τ 7=I j) h1 sG (fun j x τ β hx hj hw hi=>?_) fun τ β hn hi=>?_
 ·have GW:=h2.out x (aat hx);repeat' first|exact zQ|with_reducible apply zJ<;>intro _|refine zK ?_
  all_goals trace_state
 ·repeat' first|exact zQ|with_reducible apply zJ<;>intro _|refine zK ?_
  all_goals trace_state
open Go.V.Gr renaming acW->sameR25_c
attribute [local go_sem] List.append_eq List.cons_append List.nil_append
structure Tm(v:aV):Prop where
 g:Lm v.bq.gs
 k:Lm v.bq.ks
 s:Lm v.cz
 c:∀x∈v.cz,Lm x.c
 b:Lm v.br.bl
instance(v:aV):Ct 66 [v.d,v.d] (Tm v) (.bool true):=by
 refine dp f66 [] [.tmp 4] fun pre=>?_;obtain⟨h1,h2,h3,h4,h5⟩:=pre;have hsg:Lm v.cz/\∀x∈v.cz,Lm x.c:=⟨h3,h4⟩
 clear h3 h4;refine zW ?_;intros;refine fresh (fun σ B=>σ 2= .loc 2 1 0 0/\σ 3= .loc 3 1 0 0/\σ 5=I 0/\B 2=⟨1,1,14,62,[v.d]⟩/\B 3=⟨1,1,14,62,[v.d]⟩) ⟨avA,avA,sG,avA,avA⟩ ?_;rintro σ B ⟨q2,q3,qi,b2,b3⟩;refine bT v.bq.gs [(4,5),(121,141)] [] (fun j τ _=>τ 5=I j) h1 qi (fun j x τ β hx hj hw hi=>?_) fun τ β hn hi=>?_
 ·exact zE
 ·refine zW ?_;intros;refine fresh (fun σ B=>σ 2= .loc 2 1 0 0/\σ 3= .loc 3 1 0 0/\σ 6=I 0/\B 2=⟨1,1,14,62,[v.d]⟩/\B 3=⟨1,1,14,62,[v.d]⟩) ⟨avA,avA,sG,avA,avA⟩ ?_;clear q2 q3 qi b2 b3 hi hn;rintro σ B ⟨q2,q3,qi,b2,b3⟩;refine bT v.bq.ks [(4,4),(6,6),(142,162)] [] (fun j τ _=>τ 6=I j) h2 qi (fun j x τ β hx hj hw hi=>?_) fun τ β hn hi=>?_
  ·exact zE
  ·refine zW ?_;intros;refine fresh (fun σ B=>σ 2= .loc 2 1 0 0/\σ 3= .loc 3 1 0 0/\σ 7=I 0/\B 2=⟨1,1,14,62,[v.d]⟩/\B 3=⟨1,1,14,62,[v.d]⟩) ⟨avA,avA,sG,avA,avA⟩ ?_;clear q2 q3 qi b2 b3 hi hn;rintro σ B ⟨q2,q3,qi,b2,b3⟩;refine bT v.br.bl [(4,4),(7,7),(163,183)] [] (fun j τ _=>τ 7=I j) h5 qi (fun j x τ β hx hj hw hi=>?_) fun τ β hn hi=>?_
   ·exact zE
   ·exact zE
structure ZE(s:cP):Prop where
 g:Lm s.grams/\∀g∈s.grams,Sz g
 b:Lm s.bp
 t:Lm s.cy
 v:Lm s.aC/\∀v∈s.aC,Tm v
 i:Lm s.cr
 h:Lm s.heard/\∀h∈s.heard,Lm h.words/\∀x∈h.words,Lm x.alts
theorem YL(g:aA)(h:Sz g):Ct 65 [g.d,g.d] True (.bool true):=⟨fun _=>by have:=sameR25_c g g h h;grind⟩
@[go_sem] def ako(g:aA):(if 6<=g.d.cells.length then some (D.agg (List.take 6 g.d.cells))else none)=some g.d:=ax
instance acX(s:cP):Ct 30 [s.d,s.d] (ZE s) (.bool true):=by
 refine dp f30 [] [.tmp 4] fun pre=>?_;obtain⟨⟨g1,g2⟩,h2,h3,⟨v1,v2⟩,h5,⟨w1,w2⟩⟩:=pre;replace g2:Hid _:=g2;replace v2:Hid _:=v2;replace w2:Hid _:=w2;have hpg:∀g:aA,g.d.pure=true:=rL;refine zW ?_;intros;refine fresh (fun σ B=>σ 2= .loc 2 1 0 0/\σ 3= .loc 3 1 0 0/\σ 5=I 0/\B 2=⟨1,1,15,33,[s.d]⟩/\B 3=⟨1,1,15,33,[s.d]⟩) ⟨avA,avA,sG,avA,avA⟩ ?_;rintro σ B ⟨q2,q3,qi,b2,b3⟩;refine bT s.grams [(4,5),(63,81)] [] (fun j τ _=>τ 5=I j) g1 qi (fun j x τ β hx hj hw hi=>?_) fun τ β hn hi=>?_
 ·have GW:=g2.out x (aat hx);haveI:=YL x GW;have hx6:x.d.cells.length=6:=rfl;have hx7:x.d.cells.all D.one=true:=rfl;have hx8:D.agg x.d.cells=x.d:=rfl;have hx9:List.take 6 x.d.cells=x.d.cells:=rfl;exact zE
 ·refine zW ?_;intros;refine fresh (fun σ B=>σ 2= .loc 2 1 0 0/\σ 3= .loc 3 1 0 0/\σ 6=I 0/\B 2=⟨1,1,15,33,[s.d]⟩/\B 3=⟨1,1,15,33,[s.d]⟩) ⟨avA,avA,sG,avA,avA⟩ ?_;clear q2 q3 qi b2 b3 hi hn;rintro σ B ⟨q2,q3,qi,b2,b3⟩;refine bT s.bp [(4,4),(6,6),(82,99)] [] (fun j τ _=>τ 6=I j) h2 qi (fun j x τ β hx hj hw hi=>?_) fun τ β hn hi=>?_
  ·have hsf:HA 0 [2,2,2,2,2] [I x.bH,I x.m0,I x.m1,I x.m2,I x.m3] [I x.bH,I x.m0,I x.m1,I x.m2,I x.m3]=some true:=by simp[HA,bU,mO,xM]
   exact zE
  ·refine zW ?_;intros;refine fresh (fun σ B=>σ 2= .loc 2 1 0 0/\σ 3= .loc 3 1 0 0/\σ 7=I 0/\B 2=⟨1,1,15,33,[s.d]⟩/\B 3=⟨1,1,15,33,[s.d]⟩) ⟨avA,avA,sG,avA,avA⟩ ?_;clear q2 q3 qi b2 b3 hi hn;rintro σ B ⟨q2,q3,qi,b2,b3⟩;refine bT s.cy [(4,4),(7,7),(100,117)] [] (fun j τ _=>τ 7=I j) h3 qi (fun j x τ β hx hj hw hi=>?_) fun τ β hn hi=>?_
   ·exact zE
   ·refine zW ?_;intros;refine fresh (fun σ B=>σ 2= .loc 2 1 0 0/\σ 3= .loc 3 1 0 0/\σ 8=I 0/\B 2=⟨1,1,15,33,[s.d]⟩/\B 3=⟨1,1,15,33,[s.d]⟩) ⟨avA,avA,sG,avA,avA⟩ ?_;clear q2 q3 qi b2 b3 hi hn;rintro σ B ⟨q2,q3,qi,b2,b3⟩;refine bT s.aC [(4,4),(8,8),(118,136)] [] (fun j τ _=>τ 8=I j) v1 qi (fun j x τ β hx hj hw hi=>?_) fun τ β hn hi=>?_
    ·have GW:=v2.out x (aat hx);exact zE
    ·refine zW ?_;intros;refine fresh (fun σ B=>σ 2= .loc 2 1 0 0/\σ 3= .loc 3 1 0 0/\σ 9=I 0/\B 2=⟨1,1,15,33,[s.d]⟩/\B 3=⟨1,1,15,33,[s.d]⟩) ⟨avA,avA,sG,avA,avA⟩ ?_;clear q2 q3 qi b2 b3 hi hn;rintro σ B ⟨q2,q3,qi,b2,b3⟩;refine bT s.cr [(4,4),(9,9),(137,154)] [] (fun j τ _=>τ 9=I j) h5 qi (fun j x τ β hx hj hw hi=>?_) fun τ β hn hi=>?_
     ·exact zE
     ·refine zW ?_;intros;refine fresh (fun σ B=>σ 2= .loc 2 1 0 0/\σ 3= .loc 3 1 0 0/\σ 10=I 0/\B 2=⟨1,1,15,33,[s.d]⟩/\B 3=⟨1,1,15,33,[s.d]⟩) ⟨avA,avA,sG,avA,avA⟩ ?_;clear q2 q3 qi b2 b3 hi hn;rintro σ B ⟨q2,q3,qi,b2,b3⟩;refine bT s.heard [(4,4),(10,10),(155,173)] [] (fun j τ _=>τ 10=I j) w1 qi (fun j x τ β hx hj hw hi=>?_) fun τ β hn hi=>?_
      ·have GW:=w2.out x (aat hx);exact zE
      ·exact zE
structure C6(r:Rec):Prop where
 s:ZE r.s
 t:Lm r.s.cB/\∀x∈r.s.cB,Lm x.src/\Lm x.vn
 h:Lm r.s.bG
 f:Lm r.cn/\∀x∈r.cn,Lm x.words
instance(r:Rec):Ct 10 [r.d,r.d] (C6 r) (.bool true):=by
 refine dp f10 [] [.tmp 4] fun pre=>?_;obtain⟨hs,ht,hh,xb,GG⟩:=pre;have key:Ct 30 [r.s.d,r.s.d] (ZE r.s) (.bool true):=acX r.s;haveI:Ct 30 [r.s.d,r.s.d] True (.bool true):=⟨fun _=>key.h hs⟩
 replace GG:Hid _:=GG;clear key hs;refine zW ?_;intros;refine fresh (fun σ B=>σ 2= .loc 2 1 0 0/\σ 3= .loc 3 1 0 0/\σ 5=I 0/\B 2=⟨1,1,16,36,[r.d]⟩/\B 3=⟨1,1,16,36,[r.d]⟩) ⟨avA,avA,sG,avA,avA⟩ ?_;rintro σ B ⟨q2,q3,qi,b2,b3⟩;refine bT r.s.bG [(4,5),(52,72)] [] (fun j τ _=>τ 5=I j) hh qi (fun j x τ β hx hj hw hi=>?_) fun τ β hn hi=>?_
 ·exact zE
 ·refine zW ?_;intros;refine fresh (fun σ B=>σ 2= .loc 2 1 0 0/\σ 3= .loc 3 1 0 0/\σ 6=I 0/\B 2=⟨1,1,16,36,[r.d]⟩/\B 3=⟨1,1,16,36,[r.d]⟩) ⟨avA,avA,sG,avA,avA⟩ ?_;clear q2 q3 qi b2 b3 hi hn;rintro σ B ⟨q2,q3,qi,b2,b3⟩;refine bT r.cn [(4,4),(6,6),(73,91)] [] (fun j τ _=>τ 6=I j) xb qi (fun j x τ β hx hj hw hi=>?_) fun τ β hn hi=>?_
  ·have GW:=GG.out x (aat hx);exact zE
  ·exact zE
end Go.V.Rp
namespace Go.V.Rp
open Go.Proofs Go.Proofs.Tryz Go.RowKit Go.V.Lx Go.V.Gr Go.V.Ty Go.V.St
def sW(r:Rec):List Item:=r.s.cB.map .term++(r.s.bG.map .bG++(r.s.bp.map .ey++(r.s.cy.map .fV++(r.s.aC.flatMap vI++(r.s.cr.map .visit++(r.s.heard.flatMap hI++r.cn.map .fix))))))
theorem pw(r:Rec):items r=[.fU r.s.sources r.s.langs r.s.chunk r.s.quiet r.s.late r.s.gap r.s.most]++(r.s.grams.tail.map .ej++sW r):=by grind [items,sW]
structure C5(r:Rec):Prop where
 s:St.iU r.s
 h:∀x∈r.s.heard,Oc x
 pr:∀g∈r.s.grams.tail,Pr (cN g 0)
 lo:Lm r.s.bG/\Lm r.s.bp/\Lm r.s.cy/\Lm r.cn
 v:∀v∈r.s.aC,Lm v.cz/\Lm v.br.bl/\∀x∈v.cz,Lm x.c
 f:∀x∈r.cn,Lm x.words
 z:bQ r=0->(∀x∈r.s.heard,yk x=true)->(aQ [.fU r.s.sources r.s.langs r.s.chunk r.s.quiet r.s.late r.s.gap r.s.most]).length+(aQ (sW r)).length<=1099511627776/\r.s.grams.length<=1048576
def ru{g:aA}(h:jm g=0):g.entries.length<=65536/\g.rules.length<=65536/\∀x∈g.rules,x.parts≠[]/\x.parts.length<=65536:=by
 have r0:(bF g).2=0:=ae5 fun h'=>h' ((Mr h').symm.trans h)
 grind [Bc,bF]
theorem pU.ym{B2 X B:ab}{M:List (Nat×Nat)}(h:pU B2 X)(hX:cO M X B)(h5:aZ M 5=true:=by rfl)(h4:aZ M 414=true:=by rfl):cO M B2 B:=fun q hq=>by
 have h1:q≠5:=fun e=>awN
 have h2:q≠414:=fun e=>awN
 exact(h q h1 h2).trans (hX q hq)
def KP(r:Rec)(s:ae)(σ:Env)(β:ab):Prop:=σ 1= .loc 1 1 0 0/\σ 4= .loc 4 1 0 0/\σ 5= .loc 5 1 0 0/\β 1=⟨1,1,16,36,[r.d]⟩/\β 4=⟨1,1,15,33,[r.s.d]⟩/\dF β 1 s
def Nd(g:aA):aQ [.ej g]=yI kD [.s (rq g)]:=Rv (i:=.ej g) (by
 show cL [rq g]=cL ([]++fL (rq g))
 grind [uf,Rn])
theorem Nb{g:aA}(h:lA g):(aQ [.ej g]).length<=65546:=by
 rw[Nd];have h1:(rq g).length<=65536:=h.2;unfold yI;simp only[afs,List.flatMap_nil,Arg.f,aez,uf,aaY,aa5,aeW];have:kD.length=7:=rfl;exact oM
def Co:∀l:List aA,(∀g∈l,lA g)->(aQ (l.map .ej)).length<=l.length * 65546
 :=by intro a;induction a<;>grind [eu,Nb]
theorem dF.str{bx:ab}{e:Nat}{s:ae}(h:dF bx e s)(hs:s≠[]):∃c e',bx 5=⟨e,1,2,87,[.agg [c,.ba 414 e' 1 0 (cM s).length]]⟩/\bx 414=⟨e',1,1,5,cM s⟩:=by
 obtain⟨c,x,hb,hc,hx⟩:=h;rcases hx with⟨_,h2⟩|⟨t,e',ht,rfl,h2⟩
 ·exact absurd (List.map_eq_nil_iff.1 h2) hs
 exact awN
@[go_sem] def al5(sz:Nat)(ag:Bool)(z:List D)(g a b c d:Int):kK ⟨.arr 4 1 false,sz,ag,z⟩ (.bR (.agg [I g,I a,I b,I c,I d]) 1) none none=some (.sl 1 [I a,I b,I c,I d]):=by simp[kK,fy,D.cells,D.one]
def ai3{r:Rec}(h:bQ r=0):∃g0 gl,r.s.grams=g0::gl/\∀g∈gl,jm g=0:=by
 obtain⟨h1,h2,h3,h4,h5⟩:=vf h;unfold rh at h1;simp only[aas]at h1;obtain⟨⟨⟨s1,s2⟩,s3⟩,s4⟩:=h1;unfold vh at s1;unfold fI at s2;simp only[aas,aaH,aX]at s1 s2;obtain⟨⟨⟨⟨⟨⟨l1,l2⟩,l3⟩,l4⟩,l5⟩,l6⟩,l7⟩:=s2;have hz:=RX l6 oM;cases hg:r.s.grams<;>grind
def adP{l:List bL}(h:(l.any fun x=> !yk x)=false):∀x∈l,yk x=true:=av6
theorem I5(r:Rec)(ok:C5 r):Ct 8 [r.d] True (.aL [.str (cw r).1,I (cw r).2]):=by
 refine fnH f8 (n:=379) [(2000032,[])] [.tmp 2,.tmp 3] fun pre=>?_;generalize hR:cw r=R;unfold cw at hR;have BL:=ok.s;repeat' first|exact zQ|with_reducible apply zJ<;>intro _|refine zK ?_
 rotate_left
 ·rename_i h0;rw[aaO h0]at hR;subst hR;exact .refl _
 rename_i h0;rw[aaw (by simp[h0])]at hR;obtain⟨g0,gl,hg,GD⟩:=ai3 h0;have Cr:=Ao r;rw[hg]at Cr;have hoh:=ok.h;have hlh:=BL.lh;have hpg:∀g:aA,g.d.pure=true:=rL;have NB:smE g0:=by
  have:=(BL.gr g0 awN).1;exact⟨this.Ih,this.EY,this.Dh⟩
 have vN:=UW g0;have hlg:=BL.lg;rw[hg]at hlg;replace BL:Hid _:=BL;replace vN:Hid _:=vN;replace hR:Hid _:=hR;replace Cr:Hid _:=Cr;replace GD:Hid _:=GD;replace ok:Hid _:=ok;repeat' first|exact zQ|with_reducible apply zJ<;>intro _|refine zK ?_
 ·rename_i he ha;have hc:¬Am r=true:=fun h=>by
   obtain⟨x,hx,h3⟩:=ak7.1 ha;have:=(Cr.out.1 h).2.1 x hx
   exact awN
  exact arp
 rotate_left
 ·rename_i he;have hc:¬Am r=true:=fun h=>by
   obtain⟨⟨l,h2⟩,_⟩:=Cr.out.1 h;injection h2 with h2 h3;rw[vN.out.2 h2]at he;cases he
  exact arp
 rename_i he ha;have Ey:=adP ha;obtain rfl:=vN.out.1 he;obtain⟨oO,tF⟩:=ok.out.z h0 Ey;have eB:Hid (∀i,i∈items r->(∀g,i= .ej g->lA g)->fC par i):=fun i hi hgi=>(CK h0 Ey i hi fun g _ e=>hgi g e).1;have fk:=om (eB.out (.fU r.s.sources r.s.langs r.s.chunk r.s.quiet r.s.late r.s.gap r.s.most) (by simp[items]) (fun g h=>awI));have Az:Hid ((∀g∈gl,lA g)->R=(aQ (items r),0)):=fun h=>by
  have hR:=hR.out;rw[aaO (Cr.out.2 ⟨⟨gl,rfl⟩,Ey,h⟩)]at hR
  exact awN
 have sD:Hid (¬(∀g∈gl,lA g)->R=([],590)):=fun h=>by
  have hR:=hR.out;rw[aaw (fun hc=>h (Cr.out.1 hc).2.2)]at hR
  exact awN
 replace fk:Hid _:=fk;have zu:=ok.out.pr;replace Ey:Hid _:=Ey;clear vN NB he ha Cr hR hoh;refine kS (.fU r.s.sources r.s.langs r.s.chunk r.s.quiet r.s.late r.s.gap r.s.most) [.n r.s.sources,.n r.s.langs,.n r.s.chunk,.n r.s.quiet,.n r.s.late,.n r.s.gap,.n r.s.most] (s:=[]) ⟨.raw (.pointer none),.ak,rfl,.inl rfl,.nil _ _ _ _⟩ ?_ (by have:=fk.out;simp_all[Item.ns,Arg.ok]) fun d B h1 h2=>?_
 ·exact awN
 rw[adC]at h1;have b1:B 1=⟨1,1,16,36,[r.d]⟩:=(h2 1 awL awL).trans rfl;have b4:B 4=⟨1,1,15,33,[r.s.d]⟩:=(h2 4 awL awL).trans rfl;have hit:=pw r;rw[hg,List.tail_cons]at hit;rw[hit,lq,lq]at Az;clear h2 fk hit;have bh:aQ [.fU r.s.sources r.s.langs r.s.chunk r.s.quiet r.s.late r.s.gap r.s.most]≠[]:=fun h=>by grind [Jj]
 generalize aQ [.fU r.s.sources r.s.langs r.s.chunk r.s.quiet r.s.late r.s.gap r.s.most]=s0 at *;replace oO:Hid _:=oO;refine zW ?_;intros;refine fresh (fun σ β=>KP r s0 σ β/\σ 79= .sl 6 (gl.map aA.d)/\σ 80= .int .i64 gl.length/\σ 81= .int .i64 0) ⟨⟨avA,avA,avA,b1,b4,h1⟩,by simp[go_sem,aeu],sG,sG⟩ ?_;clear b1 b4 h1;rintro σ B ⟨⟨q1,q4,q5,b1,b4,h1⟩,qa,qb,qc⟩;replace zu:Hid (∀g∈gl,Pr (cN g 0)):=fun g hm=>ok.out.pr g awN;have QO:gl.length<=1048576:=awN
 refine bT gl [(2,3),(7,9),(81,102)] (bE [5,414,7]) (fun j τ β=>τ 81= .int .i64 j/\dF β 1 (s0++aQ ((gl.take j).map .ej))/\∀g∈gl.take j,lA g) awN ⟨qc,avm,sI⟩ (fun j x τ β hx hj hw hi=>?_) fun τ β hn hi=>?_
 ·obtain⟨i1,i2,i3⟩:=hi;obtain⟨k1,k2⟩:=jT Item.ej gl j hx;have uY:=aat hx;have hcx:=GD.out x uY;obtain⟨c1,c2,c3⟩:=ru hcx;have hP:=zu.out x uY;have hlen:=Co _ i3;rw[afd]at hlen;have nF:(aQ [.ej x])=yI kD [.s (rq x)]:=Nd x;have hgx:rq x=(eb (cN x 0)).1:=rfl;have eJ:lA x<->(eb (cN x 0)).2=0/\(eb (cN x 0)).1.length<=65536:=Iff.rfl;have hx6:x.d.cells.length=6:=rfl;have hx7:x.d.cells.all D.one=true:=rfl;have hx8:D.agg x.d.cells=x.d:=rfl;have hx9:List.take 6 x.d.cells=x.d.cells:=rfl;haveI:Ct 24 [x.d] True (cN x 0).d:=⟨fun _=>FY x c1 c2 c3⟩
  haveI:Ct 23 [(cN x 0).d] True (.aL [.str (eb (cN x 0)).1,I (eb (cN x 0)).2]):=⟨fun _=>Ru _ hP⟩
  have eK:dF (an (bE [5,414,7]) β B) 1 (s0++aQ ((gl.take j).map .ej)):=i2.of av9 av9;have hjn:j<gl.length:=(aaL.1 hx).1;have mc:(s0++aQ ((gl.take j).map .ej)).length<=1099511627776+1048576 * 65546:=by have:=oO.out;grind
  have gV:Hid (¬lA x->R=([],590)):=fun h=>sD.out fun h'=>h (h' x uY);have hi3:Hid (lA x->∀g∈gl.take (j+1),lA g):=fun h g hm=>auJ
  rw[k1,<-aaU];generalize s0++aQ ((gl.take j).map .ej)=s2 at *;generalize hPL:eb (cN x 0)=PL at *;replace eJ:Hid _:=eJ;replace nF:Hid _:=nF;replace hgx:Hid _:=hgx;clear i2 i3 k1 k2 h1 hlen hP c1 c2 c3 hcx uY;repeat' first|exact zQ|with_reducible apply zJ<;>intro _|refine zK ?_
  ·rename_i e1 e2;rw[gV.out (fun h=>by have:=(eJ.out.1 h).2;omega)];exact .refl _
  ·rename_i e1 e2;have ae1:=eJ.out.2 ⟨e1,oM⟩;have hlen:=Nb ae1;refine kS (.ej x) [.s PL.1] (eK.of awx awx) oM (by simp[Arg.ok]) (fun d2 B2 h2 fH=>?_) rfl rfl (by show cL [PL.1]=cL ([]++fL (rq x));rw[hgx.out,uf,adC,Rn]);have eW:cO (bE [5,414,7]) B2 B:=fH.ym ag;replace gV:Hid _:=gV;repeat' first|exact zQ|with_reducible apply zJ<;>intro _|refine zK ?_
   exact hi3.out ae1
  ·rename_i e1;rw[gV.out (fun h=>e1 (eJ.out.1 h).1)];exact .refl _
 ·obtain⟨i1,i2,i3⟩:=hi;rw[aaP]at i2 i3;have GS:=Az.out i3;have eB:Hid (∀i,i∈items r->fC par i):=NQ h0 Ey.out (by rw[hg];exact i3);have anh:=Co gl i3;have h1:dF (an (bE [5,414,7]) β B) 1 (s0++aQ (gl.map .ej)):=i2.of av9 av9;have hl:(s0++aQ (gl.map .ej)).length+(aQ (sW r)).length<=140737488355328:=by have:=oO.out;grind
  have jt:s0++aQ (gl.map .ej)≠[]:=fun h=>bh (ae6.1 h).1;unfold sW at hl GS;simp only[lq]at hl GS;rw[<-aaU]at GS;generalize mc:s0++aQ (gl.map .ej)=s1 at *;simp only[aaY]at hl;have hR:Hid _:=GS;clear GS;clear i2 i3 Az sD oO anh zu GD bh mc;replace hl:Hid _:=hl;have bh:=jt;clear jt;refine zW ?_;intros;refine fresh (fun σ β=>KP r s1 σ β/\σ 104= .sl 8 (r.s.cB.map Term.d)/\σ 105= .int .i64 r.s.cB.length/\σ 106= .int .i64 0) ⟨⟨avA,avA,avA,avU,avU,h1⟩,sG,sG,sG⟩ ?_;clear b1 b4 h1;rintro σ B ⟨⟨q1,q4,q5,b1,b4,h1⟩,qa,qb,qc⟩;refine bT r.s.cB [(11,11),(106,160)] (bE [5,414,11]) (fun j τ β=>τ 106= .int .i64 j/\dF β 1 (s1++aQ ((r.s.cB.take j).map .term))) BL.out.lt ⟨qc,avm⟩ (fun j x τ β hx hj hw hi=>?_) fun τ β hn hi=>?_
  ·obtain⟨i1,i2⟩:=hi;obtain⟨k1,k2⟩:=jT Item.term r.s.cB j hx;have uY:=aat hx;have ju:∀i∈[.term x],fC par i:=fun i hi=>eB.out i avH;rw[k1,<-aaU];have hs:(s1++aQ ((r.s.cB.take j).map .term)).length+(aQ ([.term x])).length<=140737488355328:=avh
   generalize s1++aQ ((r.s.cB.take j).map .term)=sX at *;have eK:dF (an (bE [5,414,11]) β B) 1 sX:=i2.of av9 av9;replace hs:Hid _:=hs;replace ju:Hid _:=ju;clear i2 k1 k2 h1;have ho:=om (ju.out (.term x) (aey.2 rfl));obtain⟨t1,t2,t3⟩:=BL.out.te x uY;replace ho:Hid _:=ho;repeat' first|exact zQ|with_reducible apply zJ<;>intro _|refine zK ?_
   ·rename_i eJ;refine kS (.term x) [.n x.no,.n x.at_,.n x.known,.n x.bH,.n (x.src.length:Int),.ss x.src] (eK.of awx awx) hs.out ar_ (fun d2 B2 h2 fH=>?_) rfl rfl asb;have eW:cO (bE [5,414,11]) B2 B:=fH.ym ag;exact zE
   ·rename_i eJ;refine kS (.term x) [.n x.no,.n x.at_,.n x.known,.n x.bH,.n (x.src.length:Int),.ss x.src,.s x.cat,.ss x.vn] (eK.of awx awx) hs.out arY (fun d2 B2 h2 fH=>?_) rfl rfl asb;have eW:cO (bE [5,414,11]) B2 B:=fH.ym ag;exact zE
  ·obtain⟨i1,i2⟩:=hi;rw[aaP]at i2;have h1:dF (an (bE [5,414,11]) β B) 1 (s1++aQ (r.s.cB.map .term)):=i2.of av9 av9;have eh:=hl.out;have qw:(s1++aQ (r.s.cB.map .term)).length=s1.length+(aQ (r.s.cB.map .term)).length:=aaY;rw[<-ae8,<-qw]at eh;have mC:=hR.out;rw[<-aaU]at mC;have jt:s1++aQ (r.s.cB.map .term)≠[]:=fun h=>bh (ae6.1 h).1;clear i2 qw hl bh hR;generalize s1++aQ (r.s.cB.map .term)=s2 at *;have bh:=jt;have hl:Hid _:=eh;have hR:Hid _:=mC;clear eh jt mC;refine zW ?_;intros;refine fresh (fun σ β=>KP r s2 σ β/\σ 162= .sl 10 (r.s.bG.map cY.d)/\σ 163= .int .i64 r.s.bG.length/\σ 164= .int .i64 0) ⟨⟨avA,avA,avA,avU,avU,h1⟩,sG,sG,sG⟩ ?_;clear b1 b4 h1;rintro σ B ⟨⟨q1,q4,q5,b1,b4,h1⟩,qa,qb,qc⟩;refine bT r.s.bG [(13,13),(164,202)] (bE [5,414,13]) (fun j τ β=>τ 164= .int .i64 j/\dF β 1 (s2++aQ ((r.s.bG.take j).map .bG))) ok.out.lo.1 ⟨qc,avm⟩ (fun j x τ β hx hj hw hi=>?_) fun τ β hn hi=>?_
   ·obtain⟨i1,i2⟩:=hi;obtain⟨k1,k2⟩:=jT Item.bG r.s.bG j hx;have uY:=aat hx;have ju:∀i∈[.bG x],fC par i:=fun i hi=>eB.out i avH;rw[k1,<-aaU];have hs:(s2++aQ ((r.s.bG.take j).map .bG)).length+(aQ ([.bG x])).length<=140737488355328:=avh
    generalize s2++aQ ((r.s.bG.take j).map .bG)=sX at *;have eK:dF (an (bE [5,414,13]) β B) 1 sX:=i2.of av9 av9;replace hs:Hid _:=hs;replace ju:Hid _:=ju;clear i2 k1 k2 h1;have ho:=om (ju.out (.bG x) (aey.2 rfl));have hwsp:IntKind.i64.wrap (x.sp+1)=x.sp+1:=by have h:=(ju.out (.bG x) (aey.2 rfl)).1 (x.sp+1) avX;grind [iT,vV]
    have hwlang:IntKind.i64.wrap (x.bH+1)=x.bH+1:=by have h:=(ju.out (.bG x) (aey.2 rfl)).1 (x.bH+1) avX;grind [iT,vV]
    replace ho:Hid _:=ho;refine zW ?_;intros;refine kS (.bG x) [.n x.no,.n x.kind,.n (x.sp+1),.n x.first,.n x.last,.n (x.bH+1),.n x.from_,.n x.HV,.n x.known,.n x.ms] (eK.of awx awx) hs.out arY (fun d2 B2 h2 fH=>?_);have eW:cO (bE [5,414,13]) B2 B:=fH.ym ag;exact zE
   ·obtain⟨i1,i2⟩:=hi;rw[aaP]at i2;have h1:dF (an (bE [5,414,13]) β B) 1 (s2++aQ (r.s.bG.map .bG)):=i2.of av9 av9;have eh:=hl.out;have uU:(s2++aQ (r.s.bG.map .bG)).length=s2.length+(aQ (r.s.bG.map .bG)).length:=aaY;rw[<-ae8,<-uU]at eh;have mC:=hR.out;rw[<-aaU]at mC;have jt:s2++aQ (r.s.bG.map .bG)≠[]:=fun h=>bh (ae6.1 h).1;clear i2 uU hl bh hR;generalize s2++aQ (r.s.bG.map .bG)=s3 at *;have bh:=jt;have hl:Hid _:=eh;have hR:Hid _:=mC;clear eh jt mC;refine zW ?_;intros;refine fresh (fun σ β=>KP r s3 σ β/\σ 204= .sl 5 (r.s.bp.map bn.d)/\σ 205= .int .i64 r.s.bp.length/\σ 206= .int .i64 0) ⟨⟨avA,avA,avA,avU,avU,h1⟩,sG,sG,sG⟩ ?_;clear b1 b4 h1;rintro σ B ⟨⟨q1,q4,q5,b1,b4,h1⟩,qa,qb,qc⟩;refine bT r.s.bp [(15,15),(206,218)] (bE [5,414,15]) (fun j τ β=>τ 206= .int .i64 j/\dF β 1 (s3++aQ ((r.s.bp.take j).map .ey))) ok.out.lo.2.1 ⟨qc,avm⟩ (fun j x τ β hx hj hw hi=>?_) fun τ β hn hi=>?_
    ·obtain⟨i1,i2⟩:=hi;obtain⟨k1,k2⟩:=jT Item.ey r.s.bp j hx;have uY:=aat hx;have ju:∀i∈[.ey x],fC par i:=fun i hi=>eB.out i avH;rw[k1,<-aaU];have hs:(s3++aQ ((r.s.bp.take j).map .ey)).length+(aQ ([.ey x])).length<=140737488355328:=avh
     generalize s3++aQ ((r.s.bp.take j).map .ey)=sX at *;have eK:dF (an (bE [5,414,15]) β B) 1 sX:=i2.of av9 av9;replace hs:Hid _:=hs;replace ju:Hid _:=ju;clear i2 k1 k2 h1;have ho:=om (ju.out (.ey x) (aey.2 rfl));replace ho:Hid _:=ho;refine zW ?_;intros;refine Yp [15] (.aD 0 (.aD 3 (.aD 4 (.aD 5 (.both 1 [] (.aD 2 (.both 6 [] (.both 7 [] .fin .stop) .stop)) .stop))))) ar ?_;refine zW ?_;intros;refine kS (.ey x) [.n x.bH,.ns [x.m0,x.m1,x.m2,x.m3]] (eK.of awx awx) hs.out arY (fun d2 B2 h2 fH=>?_);have eW:cO (bE [5,414,15]) B2 B:=fH.ym ag;exact zE
    ·obtain⟨i1,i2⟩:=hi;rw[aaP]at i2;have h1:dF (an (bE [5,414,15]) β B) 1 (s3++aQ (r.s.bp.map .ey)):=i2.of av9 av9;have eh:=hl.out;have VK:(s3++aQ (r.s.bp.map .ey)).length=s3.length+(aQ (r.s.bp.map .ey)).length:=aaY;rw[<-ae8,<-VK]at eh;have mC:=hR.out;rw[<-aaU]at mC;have jt:s3++aQ (r.s.bp.map .ey)≠[]:=fun h=>bh (ae6.1 h).1;clear i2 VK hl bh hR;generalize s3++aQ (r.s.bp.map .ey)=s4 at *;have bh:=jt;have hl:Hid _:=eh;have hR:Hid _:=mC;clear eh jt mC;refine zW ?_;intros;refine fresh (fun σ β=>KP r s4 σ β/\σ 220= .sl 7 (r.s.cy.map cJ.d)/\σ 221= .int .i64 r.s.cy.length/\σ 222= .int .i64 0) ⟨⟨avA,avA,avA,avU,avU,h1⟩,sG,sG,sG⟩ ?_;clear b1 b4 h1;rintro σ B ⟨⟨q1,q4,q5,b1,b4,h1⟩,qa,qb,qc⟩;refine bT r.s.cy [(17,17),(222,249)] (bE [5,414,17]) (fun j τ β=>τ 222= .int .i64 j/\dF β 1 (s4++aQ ((r.s.cy.take j).map .fV))) ok.out.lo.2.2.1 ⟨qc,avm⟩ (fun j x τ β hx hj hw hi=>?_) fun τ β hn hi=>?_
     ·obtain⟨i1,i2⟩:=hi;obtain⟨k1,k2⟩:=jT Item.fV r.s.cy j hx;have uY:=aat hx;have ju:∀i∈[.fV x],fC par i:=fun i hi=>eB.out i avH;rw[k1,<-aaU];have hs:(s4++aQ ((r.s.cy.take j).map .fV)).length+(aQ ([.fV x])).length<=140737488355328:=avh
      generalize s4++aQ ((r.s.cy.take j).map .fV)=sX at *;have eK:dF (an (bE [5,414,17]) β B) 1 sX:=i2.of av9 av9;replace hs:Hid _:=hs;replace ju:Hid _:=ju;clear i2 k1 k2 h1;have ho:=om (ju.out (.fV x) (aey.2 rfl));replace ho:Hid _:=ho;refine zW ?_;intros;refine kS (.fV x) [.n x.no,.n x.at_,.n x.known,.n x.LS,.n x.from_,.n x.RI,.n x.ms] (eK.of awx awx) hs.out arY (fun d2 B2 h2 fH=>?_);have eW:cO (bE [5,414,17]) B2 B:=fH.ym ag;exact zE
     ·obtain⟨i1,i2⟩:=hi;rw[aaP]at i2;have h1:dF (an (bE [5,414,17]) β B) 1 (s4++aQ (r.s.cy.map .fV)):=i2.of av9 av9;have eh:=hl.out;have hl4:(s4++aQ (r.s.cy.map .fV)).length=s4.length+(aQ (r.s.cy.map .fV)).length:=aaY;rw[<-ae8,<-hl4]at eh;have mC:=hR.out;rw[<-aaU]at mC;have jt:s4++aQ (r.s.cy.map .fV)≠[]:=fun h=>bh (ae6.1 h).1;clear i2 hl4 hl bh hR;generalize s4++aQ (r.s.cy.map .fV)=s5 at *;have bh:=jt;have hl:Hid _:=eh;have hR:Hid _:=mC;clear eh jt mC;refine zW ?_;intros;refine fresh (fun σ β=>KP r s5 σ β/\σ 251= .sl 14 (r.s.aC.map aV.d)/\σ 252= .int .i64 r.s.aC.length/\σ 253= .int .i64 0) ⟨⟨avA,avA,avA,avU,avU,h1⟩,sG,sG,sG⟩ ?_;clear b1 b4 h1;rintro σ B ⟨⟨q1,q4,q5,b1,b4,h1⟩,qa,qb,qc⟩;refine bT r.s.aC [(19,19),(253,259)] [(5,5),(19,19),(400,599)] (fun j τ β=>τ 253= .int .i64 j/\dF β 1 (s5++aQ ((r.s.aC.take j).flatMap vI))) BL.out.lv ⟨qc,avm⟩ (fun j x τ β hx hj hw hi=>?_) fun τ β hn hi=>?_
      ·obtain⟨i1,i2⟩:=hi;obtain⟨k1,k2⟩:=FM vI r.s.aC j hx;have uY:=aat hx;have ju:∀i∈vI x,fC par i:=fun i hi=>eB.out i arG;rw[k1,<-aaU];have hs:(s5++aQ ((r.s.aC.take j).flatMap vI)).length+(aQ (vI x)).length<=140737488355328:=avh
       generalize s5++aQ ((r.s.aC.take j).flatMap vI)=sX at *;have eK:dF (an [(5,5),(19,19),(400,599)] β B) 1 sX:=i2.of av9 av9;replace hs:Hid _:=hs;replace ju:Hid _:=ju;clear i2 k1 k2 h1;obtain⟨v1,v2⟩:=BL.out.vi x uY;obtain⟨v3,v4,v5⟩:=ok.out.v x uY;refine zW ?_;intros;refine ao (aan 1 sX x _ (eK.of awx awx) ⟨ju.out,v1,v2,v3,v4,v5⟩ hs.out) rfl fun d2 B2 hq=>?_;obtain⟨h2,fH⟩:=hq;have eW:cO [(5,5),(19,19),(400,599)] B2 B:=fun q hq=>by
        have h3:q≠5/\(q<400\/600<=q):=avf
        refine(fH q h3.2 h3.1).trans ?_;exact(ag:cO [(5,5),(19,19),(400,599)] _ B) q hq
       exact zE
      ·obtain⟨i1,i2⟩:=hi;rw[aaP]at i2;have h1:dF (an [(5,5),(19,19),(400,599)] β B) 1 (s5++aQ (r.s.aC.flatMap vI)):=i2.of av9 av9;have eh:=hl.out;have hl5:(s5++aQ (r.s.aC.flatMap vI)).length=s5.length+(aQ (r.s.aC.flatMap vI)).length:=aaY;rw[<-ae8,<-hl5]at eh;have mC:=hR.out;rw[<-aaU]at mC;have jt:s5++aQ (r.s.aC.flatMap vI)≠[]:=fun h=>bh (ae6.1 h).1;clear i2 hl5 hl bh hR;generalize s5++aQ (r.s.aC.flatMap vI)=s6 at *;have bh:=jt;have hl:Hid _:=eh;have hR:Hid _:=mC;clear eh jt mC;refine zW ?_;intros;refine fresh (fun σ β=>KP r s6 σ β/\σ 261= .sl 4 (r.s.cr.map bD.d)/\σ 262= .int .i64 r.s.cr.length/\σ 263= .int .i64 0) ⟨⟨avA,avA,avA,avU,avU,h1⟩,sG,sG,sG⟩ ?_;clear b1 b4 h1;rintro σ B ⟨⟨q1,q4,q5,b1,b4,h1⟩,qa,qb,qc⟩;refine bT r.s.cr [(21,21),(263,281)] (bE [5,414,21]) (fun j τ β=>τ 263= .int .i64 j/\dF β 1 (s6++aQ ((r.s.cr.take j).map .visit))) BL.out.li ⟨qc,avm⟩ (fun j x τ β hx hj hw hi=>?_) fun τ β hn hi=>?_
       ·obtain⟨i1,i2⟩:=hi;obtain⟨k1,k2⟩:=jT Item.visit r.s.cr j hx;have uY:=aat hx;have ju:∀i∈[.visit x],fC par i:=fun i hi=>eB.out i avH;rw[k1,<-aaU];have hs:(s6++aQ ((r.s.cr.take j).map .visit)).length+(aQ ([.visit x])).length<=140737488355328:=avh
        generalize s6++aQ ((r.s.cr.take j).map .visit)=sX at *;have eK:dF (an (bE [5,414,21]) β B) 1 sX:=i2.of av9 av9;replace hs:Hid _:=hs;replace ju:Hid _:=ju;clear i2 k1 k2 h1;have ho:=om (ju.out (.visit x) (aey.2 rfl));replace ho:Hid _:=ho;refine zW ?_;intros;refine kS (.visit x) [.n x.at_,.n x.jB,.n x.kind,.n x.bH] (eK.of awx awx) hs.out ar_ (fun d2 B2 h2 fH=>?_);have eW:cO (bE [5,414,21]) B2 B:=fH.ym ag;exact zE
       ·obtain⟨i1,i2⟩:=hi;rw[aaP]at i2;have h1:dF (an (bE [5,414,21]) β B) 1 (s6++aQ (r.s.cr.map .visit)):=i2.of av9 av9;have eh:=hl.out;have hl6:(s6++aQ (r.s.cr.map .visit)).length=s6.length+(aQ (r.s.cr.map .visit)).length:=aaY;rw[<-ae8,<-hl6]at eh;have mC:=hR.out;rw[<-aaU]at mC;have jt:s6++aQ (r.s.cr.map .visit)≠[]:=fun h=>bh (ae6.1 h).1;clear i2 hl6 hl bh hR;generalize s6++aQ (r.s.cr.map .visit)=s7 at *;have bh:=jt;have hl:Hid _:=eh;have hR:Hid _:=mC;clear eh jt mC;refine zW ?_;intros;refine fresh (fun σ β=>KP r s7 σ β/\σ 283= .sl 8 (r.s.heard.map bL.d)/\σ 284= .int .i64 r.s.heard.length/\σ 285= .int .i64 0) ⟨⟨avA,avA,avA,avU,avU,h1⟩,sG,sG,sG⟩ ?_;clear b1 b4 h1;rintro σ B ⟨⟨q1,q4,q5,b1,b4,h1⟩,qa,qb,qc⟩;refine bT r.s.heard [(23,24),(26,26),(285,342)] (bE [5,414,23,24,26]) (fun j τ β=>τ 285= .int .i64 j/\dF β 1 (s7++aQ ((r.s.heard.take j).flatMap hI))) BL.out.lh ⟨qc,avm⟩ (fun j x τ β hx hj hw hi=>?_) fun τ β hn hi=>?_
        ·obtain⟨i1,i2⟩:=hi;obtain⟨k1,k2⟩:=FM hI r.s.heard j hx;have uY:=aat hx;have ju:∀i∈hI x,fC par i:=fun i hi=>eB.out i arG;rw[k1,<-aaU];have hs:(s7++aQ ((r.s.heard.take j).flatMap hI)).length+(aQ (hI x)).length<=140737488355328:=avh
         generalize s7++aQ ((r.s.heard.take j).flatMap hI)=sX at *;have eK:dF (an (bE [5,414,23,24,26]) β B) 1 sX:=i2.of av9 av9;replace hs:Hid _:=hs;replace ju:Hid _:=ju;clear i2 k1 k2 h1;have ho:=om (ju.out (.heard x.at_ x.src x.seq x.sY x.kind x.sR x.cut) (aeY ..));obtain⟨w1,w2⟩:=ok.out.h x uY;have how:∀w∈x.words,fC par (.word w):=fun w hw=>ju.out _ (aa2 _ (aa1.2 ⟨w,hw,rfl⟩));have hht:aQ (hI x)=aQ [.heard x.at_ x.src x.seq x.sY x.kind x.sR x.cut]++aQ (x.words.map .word):=by rw[<-lq];rfl
         have dq:=hs.out;rw[hht,aaY]at dq;rw[hht,<-aaU];replace ho:Hid _:=ho;replace how:Hid _:=how;replace dq:Hid _:=dq;clear hht hs ju;refine zW ?_;intros;refine kS (.heard x.at_ x.src x.seq x.sY x.kind x.sR x.cut) [.n x.at_,.n x.src,.n x.seq,.n x.sY,.n x.kind,.n x.sR,.n x.cut] (eK.of awx awx) (by have:=dq.out;omega) arY (fun d2 B2 h2 fH=>?_);have eW:cO (bE [5,414,23,24,26]) B2 B:=fH.ym ag;have b24:=(fH 24 awL awL).trans (aY _ _ _);have uU:(sX++aQ [.heard x.at_ x.src x.seq x.sY x.kind x.sR x.cut]).length=sX.length+(aQ [.heard x.at_ x.src x.seq x.sY x.kind x.sR x.cut]).length:=aaY;rw[<-aaU]at *;have tB:=dq.out;rw[<-ae8,<-uU]at tB;clear eK fH uU dq ho;generalize sX++aQ [.heard x.at_ x.src x.seq x.sY x.kind x.sR x.cut]=s98 at *;replace tB:Hid _:=tB;refine zW ?_;intros;refine bT x.words [(26,26),(320,341)] (bE [5,414,26]) (fun k τ β=>τ 320= .int .i64 k/\dF β 1 (s98++aQ ((x.words.take k).map .word))) w1 ⟨sG,by simpa[eu]using h2⟩ (fun k y τ2 β2 hy hk hwk oH=>?_) fun τ2 β2 GM oH=>?_
         ·obtain⟨j1,j2⟩:=oH;obtain⟨k1,k2⟩:=jT Item.word x.words k hy;have hym:=aat hy;have ho:=om (how.out y hym);have w3:=w2 y hym;rw[k1,<-aaU];have hs:(s98++aQ ((x.words.take k).map .word)).length+(aQ [.word y]).length<=140737488355328:=by have:=tB.out;grind
          generalize s98++aQ ((x.words.take k).map .word)=s97 at *;have eK:dF (an (bE [5,414,26]) β2 B2) 1 s97:=j2.of av9 av9;replace ho:Hid _:=ho;clear j2 k1 k2 h2;refine zW ?_;intros;refine kS (.word y) [.n y.f,.n y.u,.n y.s,.s y.t,.ss y.alts] (eK.of awx awx) hs ar_ (fun d3 B3 h3 Nj=>?_) rfl rfl aul;have eW:cO (bE [5,414,26]) B3 B2:=Nj.ym ag;exact zE
         ·obtain⟨j1,j2⟩:=oH;rw[aaP]at j2;have eK:dF (an (bE [5,414,26]) β2 B2) 1 (s98++aQ (x.words.map .word)):=j2.of av9 av9;refine zW ?_;intros;exact eK
        ·obtain⟨i1,i2⟩:=hi;rw[aaP]at i2;have h1:dF (an (bE [5,414,23,24,26]) β B) 1 (s7++aQ (r.s.heard.flatMap hI)):=i2.of av9 av9;have eh:=hl.out;have hl7:(s7++aQ (r.s.heard.flatMap hI)).length=s7.length+(aQ (r.s.heard.flatMap hI)).length:=aaY;rw[<-ae8,<-hl7]at eh;have mC:=hR.out;rw[<-aaU]at mC;have jt:s7++aQ (r.s.heard.flatMap hI)≠[]:=fun h=>bh (ae6.1 h).1;clear i2 hl7 hl bh hR;generalize s7++aQ (r.s.heard.flatMap hI)=s8 at *;have bh:=jt;have hl:Hid _:=eh;have hR:Hid _:=mC;clear eh jt mC;refine zW ?_;intros;refine fresh (fun σ β=>KP r s8 σ β/\σ 344= .sl 8 (r.cn.map Fix.d)/\σ 345= .int .i64 r.cn.length/\σ 346= .int .i64 0) ⟨⟨avA,avA,avA,avU,avU,h1⟩,sG,sG,sG⟩ ?_;clear b1 b4 h1;rintro σ B ⟨⟨q1,q4,q5,b1,b4,h1⟩,qa,qb,qc⟩;refine bT r.cn [(28,28),(346,376)] (bE [5,414,28]) (fun j τ β=>τ 346= .int .i64 j/\dF β 1 (s8++aQ ((r.cn.take j).map .fix))) ok.out.lo.2.2.2 ⟨qc,avm⟩ (fun j x τ β hx hj hw hi=>?_) fun τ β hn hi=>?_
         ·obtain⟨i1,i2⟩:=hi;obtain⟨k1,k2⟩:=jT Item.fix r.cn j hx;have uY:=aat hx;have ju:∀i∈[.fix x],fC par i:=fun i hi=>eB.out i (by grind [items]);rw[k1,<-aaU];have hs:(s8++aQ ((r.cn.take j).map .fix)).length+(aQ ([.fix x])).length<=140737488355328:=avh
          generalize s8++aQ ((r.cn.take j).map .fix)=sX at *;have eK:dF (an (bE [5,414,28]) β B) 1 sX:=i2.of av9 av9;replace hs:Hid _:=hs;replace ju:Hid _:=ju;clear i2 k1 k2 h1;have ho:=om (ju.out (.fix x) (aey.2 rfl));have wf:=ok.out.f x uY;replace ho:Hid _:=ho;refine zW ?_;intros;refine kS (.fix x) [.n x.no,.n x.at_,.n x.known,.n x.sp,.n x.first,.n x.last,.s x.reason,.ss x.words] (eK.of awx awx) hs.out arY (fun d2 B2 h2 fH=>?_) rfl rfl aul;have eW:cO (bE [5,414,28]) B2 B:=fH.ym ag;exact zE
         ·obtain⟨i1,i2⟩:=hi;rw[aaP]at i2;have h1:dF (an (bE [5,414,28]) β B) 1 (s8++aQ (r.cn.map .fix)):=i2.of av9 av9;refine zW ?_;intros;have jt:s8++aQ (r.cn.map .fix)≠[]:=fun h=>bh (ae6.1 h).1;obtain⟨c,e',p1,p2⟩:=h1.str jt;refine ao (string_b 400 1 e' c _ jt _ p1 p2) rfl fun d2 B2 hq=>?_;obtain⟨rfl,rfl⟩:=hq;have hR:=hR.out;subst hR;exact zE
end Go.V.Rp
