/- Plants: what is equal to itself (terms, decisions, words, what is heard). -/
import Derived.Test.YtkgloohlmogakaaGreatDoorB38
set_option linter.unusedSimpArgs false
set_option linter.unusedVariables false
set_option linter.unnecessarySimpa false
set_option maxRecDepth 100000
namespace Go.V.Jn
open Go.Proofs Go.RowKit Go.V.Lx Go.V.Gr Go.V.Ty Go.V.St
instance(l:List ah):Ct Tryz.prog 170 [strs l,strs l] (Lm l) (.bool true):=by
 refine bm (fn:=Tryz.f170) [] [.tmp 4] fun pre=>?_;repeat' first|exact zQ|with_reducible refine zJ (fun _=>?_) fun _=>?_|refine zK ?_|fail
 refine bO l [(4,5),(11,25)] [] (fun j τ _=>τ 5=I j) pre sG (fun j x τ β hx hj hw hi=>?_) fun τ β hn hi=>?_<;>repeat' first|exact zQ|with_reducible refine zJ (fun _=>?_) fun _=>?_|refine zK ?_|fail
instance(x:Term):Ct Tryz.prog 115 [x.d,x.d] (Lm x.src/\Lm x.tgt) (.bool true):=by
 refine bm (fn:=Tryz.f115) [] [.tmp 4] fun pre=>?_;obtain⟨h1,h2⟩:=pre;repeat' first|exact zQ|with_reducible refine zJ (fun _=>?_) fun _=>?_|refine zK ?_|fail
instance(l:List Term):Ct Tryz.prog 66 [.sl 8 (l.map Term.d),.sl 8 (l.map Term.d)] (Lm l/\∀x∈l,Lm x.src/\Lm x.tgt) (.bool true):=by
 refine bm (fn:=Tryz.f66) [] [.tmp 4] fun pre=>?_;obtain⟨h1,h2⟩:=pre;replace h2:Hid _:=h2;repeat' first|exact zQ|with_reducible refine zJ (fun _=>?_) fun _=>?_|refine zK ?_|fail
 refine bO l [(4,5),(11,26)] [] (fun j τ _=>τ 5=I j) h1 sG (fun j x τ β hx hj hw hi=>?_) fun τ β hn hi=>?_
 ·have hxo:=h2.out x (List.mem_of_getElem? hx);repeat' first|exact zQ|with_reducible refine zJ (fun _=>?_) fun _=>?_|refine zK ?_|fail
 ·repeat' first|exact zQ|with_reducible refine zJ (fun _=>?_) fun _=>?_|refine zK ?_|fail
instance(l:List bE):Ct Tryz.prog 67 [.sl 10 (l.map bE.d),.sl 10 (l.map bE.d)] (Lm l) (.bool true):=by
 refine bm (fn:=Tryz.f67) [] [.tmp 4] fun pre=>?_;repeat' first|exact zQ|with_reducible refine zJ (fun _=>?_) fun _=>?_|refine zK ?_|fail
 refine bO l [(4,5),(11,25)] [] (fun j τ _=>τ 5=I j) pre sG (fun j x τ β hx hj hw hi=>?_) fun τ β hn hi=>?_<;>repeat' first|exact zQ|with_reducible refine zJ (fun _=>?_) fun _=>?_|refine zK ?_|fail
instance(l:List Int):Ct Tryz.prog 171 [ints l,ints l] (Lm l) (.bool true):=by
 refine bm (fn:=Tryz.f171) [] [.tmp 4] fun pre=>?_;repeat' first|exact zQ|with_reducible refine zJ (fun _=>?_) fun _=>?_|refine zK ?_|fail
 refine bO l [(4,5),(11,25)] [] (fun j τ _=>τ 5=I j) pre sG (fun j x τ β hx hj hw hi=>?_) fun τ β hn hi=>?_<;>repeat' first|exact zQ|with_reducible refine zJ (fun _=>?_) fun _=>?_|refine zK ?_|fail
attribute [local go_sem] List.append_eq List.cons_append List.nil_append
set_option maxHeartbeats 2000000 in
instance(l:List Word):Ct Tryz.prog 114 [.sl 5 (l.map Word.d),.sl 5 (l.map Word.d)] (Lm l/\∀x∈l,Lm x.alts) (.bool true):=by
 refine bm (fn:=Tryz.f114) [] [.tmp 4] fun pre=>?_;obtain⟨h1,h2⟩:=pre;replace h2:Hid _:=h2;repeat' first|exact zQ|with_reducible refine zJ (fun _=>?_) fun _=>?_|refine zK ?_|fail
 refine bO l [(4,6),(12,109)] [] (fun j τ _=>τ 5=I j) h1 sG (fun j x τ β hx hj hw hi=>?_) fun τ β hn hi=>?_
 ·have hxo:=h2.out x (List.mem_of_getElem? hx);repeat' first|exact zQ|with_reducible refine zJ (fun _=>?_) fun _=>?_|refine zK ?_|fail
  refine bO x.alts [(4,4),(6,6),(83,109)] [] (fun j τ _=>τ 6=I j) hxo sG (fun k y τ' β' hy hk hw2 hi2=>?_) fun τ' β' hn2 hi2=>?_<;>repeat' first|exact zQ|with_reducible refine zJ (fun _=>?_) fun _=>?_|refine zK ?_|fail
 ·repeat' first|exact zQ|with_reducible refine zJ (fun _=>?_) fun _=>?_|refine zK ?_|fail
instance(l:List Word)(a b c d e:Int):Ct Tryz.prog 65 [.agg [I a,I b,I c,I d,I e,.sl 5 (l.map Word.d)],.agg [I a,I b,I c,I d,I e,.sl 5 (l.map Word.d)]] (Lm l/\∀x∈l,Lm x.alts) (.bool true):=by
 refine bm (fn:=Tryz.f65) [] [.tmp 4] fun pre=>?_;repeat' first|exact zQ|with_reducible refine zJ (fun _=>?_) fun _=>?_|refine zK ?_|fail
instance(l:List aD):Ct Tryz.prog 25 [.sl 8 (l.map aD.d),.sl 8 (l.map aD.d)] (Lm l/\∀h∈l,Lm h.words/\∀x∈h.words,Lm x.alts) (.bool true):=by
 refine bm (fn:=Tryz.f25) [] [.tmp 4] fun pre=>?_;obtain⟨h1,h2⟩:=pre;replace h2:Hid _:=h2;repeat' first|exact zQ|with_reducible refine zJ (fun _=>?_) fun _=>?_|refine zK ?_|fail
 refine bO l [(4,5),(11,54)] [] (fun j τ _=>τ 5=I j) h1 sG (fun j x τ β hx hj hw hi=>?_) fun τ β hn hi=>?_
 ·have hxo:=h2.out x (List.mem_of_getElem? hx);repeat' first|exact zQ|with_reducible refine zJ (fun _=>?_) fun _=>?_|refine zK ?_|fail
 ·repeat' first|exact zQ|with_reducible refine zJ (fun _=>?_) fun _=>?_|refine zK ?_|fail
end Go.V.Jn
namespace Go.V.Jn
open Go.Proofs Go.RowKit Go.V.Lx Go.V.Gr Go.V.Ty Go.V.St
attribute [local go_sem] List.append_eq List.cons_append List.nil_append
set_option maxHeartbeats 4000000 in
instance(gs:List dM)(o:Int)(ks:List eU):Ct Tryz.prog 119 [.agg [.sl 3 (gs.map dM.d),I o,.sl 3 (ks.map eU.d)],.agg [.sl 3 (gs.map dM.d),I o,.sl 3 (ks.map eU.d)]] (Lm gs/\Lm ks) (.bool true):=by
 refine bm (fn:=Tryz.f119) [] [.tmp 4] fun pre=>?_;obtain⟨h1,h2⟩:=pre;repeat' first|exact zQ|with_reducible refine zJ (fun _=>?_) fun _=>?_|refine zK ?_|fail
 refine bO gs [(4,5),(30,47)] [] (fun j τ _=>τ 5=I j) h1 sG (fun j x τ β hx hj hw hi=>?_) fun τ β hn hi=>?_
 ·repeat' first|exact zQ|with_reducible refine zJ (fun _=>?_) fun _=>?_|refine zK ?_|fail
 ·repeat' first|exact zQ|with_reducible refine zJ (fun _=>?_) fun _=>?_|refine zK ?_|fail
  refine bO ks [(4,4),(6,6),(48,65)] [] (fun j τ _=>τ 6=I j) h2 sG (fun j x τ' β' hx hj hw hi2=>?_) fun τ' β' hn2 hi2=>?_<;>repeat' first|exact zQ|with_reducible refine zJ (fun _=>?_) fun _=>?_|refine zK ?_|fail
instance(l:List Sign):Ct Tryz.prog 120 [.sl 2 (l.map Sign.d),.sl 2 (l.map Sign.d)] (Lm l/\∀x∈l,Lm x.c) (.bool true):=by
 refine bm (fn:=Tryz.f120) [] [.tmp 4] fun pre=>?_;obtain⟨h1,h2⟩:=pre;replace h2:Hid _:=h2;repeat' first|exact zQ|with_reducible refine zJ (fun _=>?_) fun _=>?_|refine zK ?_|fail
 refine bO l [(4,5),(11,41)] [] (fun j τ _=>τ 5=I j) h1 sG (fun j x τ β hx hj hw hi=>?_) fun τ β hn hi=>?_
 ·have hxo:=h2.out x (List.mem_of_getElem? hx);repeat' first|exact zQ|with_reducible refine zJ (fun _=>?_) fun _=>?_|refine zK ?_|fail
 ·repeat' first|exact zQ|with_reducible refine zJ (fun _=>?_) fun _=>?_|refine zK ?_|fail
set_option maxHeartbeats 4000000 in
instance(w h:Int)(bl:List eB):Ct Tryz.prog 121 [.agg [I w,I h,.sl 4 (bl.map eB.d)],.agg [I w,I h,.sl 4 (bl.map eB.d)]] (Lm bl) (.bool true):=by
 refine bm (fn:=Tryz.f121) [] [.tmp 4] fun pre=>?_;repeat' first|exact zQ|with_reducible refine zJ (fun _=>?_) fun _=>?_|refine zK ?_|fail
 refine bO bl [(4,5),(27,44)] [] (fun j τ _=>τ 5=I j) pre sG (fun j x τ β hx hj hw hi=>?_) fun τ β hn hi=>?_<;>repeat' first|exact zQ|with_reducible refine zJ (fun _=>?_) fun _=>?_|refine zK ?_|fail
def Az(v:bL):Prop:=(Lm v.font.gs/\Lm v.font.ks)/\(Lm v.fe/\∀x∈v.fe,Lm x.c)/\Lm v.screen.bl
set_option maxHeartbeats 4000000 in
instance(s:aN):Ct Tryz.prog 69 [s.d,s.d] (Lm s.viewers/\Lm s.visits/\∀v∈s.viewers,Az v) (.bool true):=by
 refine bm (fn:=Tryz.f69) [] [.tmp 4] fun pre=>?_;obtain⟨h1,h2,h3⟩:=pre;replace h3:Hid _:=h3;repeat' first|exact zQ|with_reducible refine zJ (fun _=>?_) fun _=>?_|refine zK ?_|fail
 refine bO s.viewers [(4,7),(25,112)] [(6,7)] (fun j τ _=>τ 5=I j) h1 sG (fun j x τ β hx hj hw hi=>?_) fun τ β hn hi=>?_
 ·obtain⟨p1,p2,p3⟩:=h3.out x (List.mem_of_getElem? hx);have hF:aq Tryz.prog 119 [x.font.d,x.font.d] (.bool true):=by
   have key:Ct Tryz.prog 119 [x.font.d,x.font.d] (Lm x.font.gs/\Lm x.font.ks) (.bool true):=inferInstance;exact key.h p1
  have hS:aq Tryz.prog 121 [x.screen.d,x.screen.d] (.bool true):=by
   have key:Ct Tryz.prog 121 [x.screen.d,x.screen.d] (Lm x.screen.bl) (.bool true):=inferInstance;exact key.h p3
  have hG:aq Tryz.prog 120 [.sl 2 (x.fe.map Sign.d),.sl 2 (x.fe.map Sign.d)] (.bool true):=by
   have key:Ct Tryz.prog 120 [.sl 2 (x.fe.map Sign.d),.sl 2 (x.fe.map Sign.d)] (Lm x.fe/\∀y∈x.fe,Lm y.c) (.bool true):=inferInstance;exact key.h p2
  haveI:Ct Tryz.prog 119 [x.font.d,x.font.d] True (.bool true):=⟨fun _=>hF⟩
  haveI:Ct Tryz.prog 121 [x.screen.d,x.screen.d] True (.bool true):=⟨fun _=>hS⟩
  haveI:Ct Tryz.prog 120 [.sl 2 (x.fe.map Sign.d),.sl 2 (x.fe.map Sign.d)] True (.bool true):=⟨fun _=>hG⟩
  clear hF hS hG p1 p2 p3;repeat' first|exact zQ|with_reducible refine zJ (fun _=>?_) fun _=>?_|refine zK ?_|fail
 ·repeat' first|exact zQ|with_reducible refine zJ (fun _=>?_) fun _=>?_|refine zK ?_|fail
  refine bO s.visits [(4,4),(8,8),(113,130)] [] (fun j τ _=>τ 8=I j) h2 sG (fun j x τ' β' hx hj hw hi2=>?_) fun τ' β' hn2 hi2=>?_<;>repeat' first|exact zQ|with_reducible refine zJ (fun _=>?_) fun _=>?_|refine zK ?_|fail
end Go.V.Jn
namespace Go.V.Jn
open Go.Proofs Go.RowKit Go.V.Lx Go.V.Gr Go.V.Ty Go.V.St
attribute [local go_sem] List.append_eq List.cons_append List.nil_append aO.d
instance(g:aO):Ct Tryz.prog 68 [.agg [.str g.name,strs g.cats,.str g.start,I g.no,.sl 5 (g.entries.map Entry.d),.sl 5 (g.rules.map aC.d)],.agg [.str g.name,strs g.cats,.str g.start,I g.no,.sl 5 (g.entries.map Entry.d),.sl 5 (g.rules.map aC.d)]] (Sz g) (.bool true):=⟨fun h=>by have:=CQ g g h h;rwa[decide_eq_true rfl]at this⟩
structure HP(s:aN):Prop where
 te:Lm s.terms/\∀x∈s.terms,Lm x.src/\Lm x.tgt
 ho:Lm s.house
 gr:∀g∈s.grams,Sz g
 lg:Lm s.grams
 lb:Lm s.budgets
 lt:Lm s.trades
 vi:Lm s.viewers/\Lm s.visits/\∀v∈s.viewers,Az v
 he:Lm s.heard/\∀h∈s.heard,Lm h.words/\∀x∈h.words,Lm x.alts
set_option maxHeartbeats 4000000 in
instance Jb(s:aN):Ct Tryz.prog 26 [s.d,s.d] (HP s) (.bool true):=by
 refine bm (fn:=Tryz.f26) [] [.tmp 4] fun pre=>?_;obtain⟨h1,h2,h3,h4,h5,h6,h7,h8⟩:=pre;replace h3:Hid _:=h3;have hT:aq Tryz.prog 66 [.sl 8 (s.terms.map Term.d),.sl 8 (s.terms.map Term.d)] (.bool true):=by
  have key:Ct Tryz.prog 66 [.sl 8 (s.terms.map Term.d),.sl 8 (s.terms.map Term.d)] (Lm s.terms/\∀x∈s.terms,Lm x.src/\Lm x.tgt) (.bool true):=inferInstance;exact key.h h1
 have hV:aq Tryz.prog 69 [s.d,s.d] (.bool true):=by
  have key:Ct Tryz.prog 69 [s.d,s.d] (Lm s.viewers/\Lm s.visits/\∀v∈s.viewers,Az v) (.bool true):=inferInstance;exact key.h h7
 have hH:aq Tryz.prog 25 [.sl 8 (s.heard.map aD.d),.sl 8 (s.heard.map aD.d)] (.bool true):=by
  have key:Ct Tryz.prog 25 [.sl 8 (s.heard.map aD.d),.sl 8 (s.heard.map aD.d)] (Lm s.heard/\∀h∈s.heard,Lm h.words/\∀x∈h.words,Lm x.alts) (.bool true):=inferInstance;exact key.h h8
 haveI:Ct Tryz.prog 66 [.sl 8 (s.terms.map Term.d),.sl 8 (s.terms.map Term.d)] True (.bool true):=⟨fun _=>hT⟩
 haveI:Ct Tryz.prog 69 [s.d,s.d] True (.bool true):=⟨fun _=>hV⟩
 haveI:Ct Tryz.prog 25 [.sl 8 (s.heard.map aD.d),.sl 8 (s.heard.map aD.d)] True (.bool true):=⟨fun _=>hH⟩
 clear hT hV hH h1 h7 h8;have hsl:∀x:aJ,yT 0 [2,2,2,2,2] [I x.lang,I x.m0,I x.m1,I x.m2,I x.m3] [I x.lang,I x.m0,I x.m1,I x.m2,I x.m3]=some true:=fun x=>if_pos ⟨rfl,by simp[go_sem],by simp[go_sem]⟩;repeat' first|exact zQ|with_reducible refine zJ (fun _=>?_) fun _=>?_|refine zK ?_|fail
 refine fresh (fun σ' B=>σ' 2= .loc 2 1 0 0/\σ' 3= .loc 3 1 0 0/\σ' 5=I 0/\B 2=⟨1,1,15,33,[s.d]⟩/\B 3=⟨1,1,15,33,[s.d]⟩) ⟨by simp[go_sem, *],by simp[go_sem, *],by simp[go_sem, *],by simp[go_sem, *],by simp[go_sem, *]⟩ ?_;rintro σ B ⟨k2,k3,k5,b2,b3⟩;refine bO s.grams [(4,5),(56,74)] [] (fun j τ _=>τ 5=I j) h4 k5 (fun j x τ β hx hj hw hi=>?_) fun τ β hn hi=>?_
 ·have hxo:=h3.out x (List.mem_of_getElem? hx);repeat' first|exact zQ|with_reducible refine zJ (fun _=>?_) fun _=>?_|refine zK ?_|fail
 ·repeat' first|exact zQ|with_reducible refine zJ (fun _=>?_) fun _=>?_|refine zK ?_|fail
  refine fresh (fun σ' B=>σ' 2= .loc 2 1 0 0/\σ' 3= .loc 3 1 0 0/\σ' 6=I 0/\B 2=⟨1,1,15,33,[s.d]⟩/\B 3=⟨1,1,15,33,[s.d]⟩) ⟨by simp[go_sem, *],by simp[go_sem, *],by simp[go_sem, *],by simp[go_sem, *],by simp[go_sem, *]⟩ ?_;clear hn hi;rintro σ1 B1 ⟨q2,q3,q5,c2,c3⟩;clear k2 k3 k5 b2 b3;refine bO s.budgets [(4,4),(6,6),(75,92)] [] (fun j τ _=>τ 6=I j) h5 q5 (fun j x τ β hx hj hw hi=>?_) fun τ β hn hi=>?_
  ·repeat' first|exact zQ|with_reducible refine zJ (fun _=>?_) fun _=>?_|refine zK ?_|fail
  ·repeat' first|exact zQ|with_reducible refine zJ (fun _=>?_) fun _=>?_|refine zK ?_|fail
   refine fresh (fun σ' B=>σ' 2= .loc 2 1 0 0/\σ' 3= .loc 3 1 0 0/\σ' 7=I 0/\B 2=⟨1,1,15,33,[s.d]⟩/\B 3=⟨1,1,15,33,[s.d]⟩) ⟨by simp[go_sem, *],by simp[go_sem, *],by simp[go_sem, *],by simp[go_sem, *],by simp[go_sem, *]⟩ ?_;clear hn hi;rintro σ2 B2 ⟨k2,k3,k5,b2,b3⟩;clear q2 q3 q5 c2 c3;refine bO s.trades [(4,4),(7,7),(93,110)] [] (fun j τ _=>τ 7=I j) h6 k5 (fun j x τ β hx hj hw hi=>?_) fun τ β hn hi=>?_
   ·repeat' first|exact zQ|with_reducible refine zJ (fun _=>?_) fun _=>?_|refine zK ?_|fail
   ·repeat' first|exact zQ|with_reducible refine zJ (fun _=>?_) fun _=>?_|refine zK ?_|fail
end Go.V.Jn
