/- Lemmas on plain data and programs: part B33. -/
import Derived.Test.YtkgloohlmogakaaGreatDoorB32
set_option linter.all false
set_option maxHeartbeats 8000000
set_option maxRecDepth 100000
namespace Go.V.Jn
open Go.Proofs Go.Proofs.Tryz Go.RowKit Go.V.Lx Go.V.Gr Go.V.Ty Go.V.St
instance(l:List ah):Ct 170 [strs l,strs l] (Lm l) (.bool true):=by
 refine bf f170 [] [.tmp 4] fun pre=>?_;repeat' first|exact zQ|with_reducible apply zJ<;>intro _|refine zK ?_
 refine cm l [(4,5),(11,25)] [] (fun j τ _=>τ 5=I j) pre sG (fun j x τ β hx hj hw hi=>?_) fun τ β hn hi=>?_<;>repeat' first|exact zQ|with_reducible apply zJ<;>intro _|refine zK ?_
instance(x:Term):Ct 115 [x.d,x.d] (Lm x.src/\Lm x.Dv) (.bool true):=by
 refine bf f115 [] [.tmp 4] fun pre=>?_;obtain⟨h1,h2⟩:=pre;repeat' first|exact zQ|with_reducible apply zJ<;>intro _|refine zK ?_
instance(l:List Term):Ct 66 [.sl 8 (l.map Term.d),.sl 8 (l.map Term.d)] (Lm l/\∀x∈l,Lm x.src/\Lm x.Dv) (.bool true):=by
 refine bf f66 [] [.tmp 4] fun pre=>?_;obtain⟨h1,h2⟩:=pre;replace h2:Hid _:=h2;repeat' first|exact zQ|with_reducible apply zJ<;>intro _|refine zK ?_
 refine cm l [(4,5),(11,26)] [] (fun j τ _=>τ 5=I j) h1 sG (fun j x τ β hx hj hw hi=>?_) fun τ β hn hi=>?_
 ·have EZ:=h2.out x (mG hx);repeat' first|exact zQ|with_reducible apply zJ<;>intro _|refine zK ?_
 ·repeat' first|exact zQ|with_reducible apply zJ<;>intro _|refine zK ?_
instance(l:List cj):Ct 67 [.sl 10 (l.map cj.d),.sl 10 (l.map cj.d)] (Lm l) (.bool true):=by
 refine bf f67 [] [.tmp 4] fun pre=>?_;repeat' first|exact zQ|with_reducible apply zJ<;>intro _|refine zK ?_
 refine cm l [(4,5),(11,25)] [] (fun j τ _=>τ 5=I j) pre sG (fun j x τ β hx hj hw hi=>?_) fun τ β hn hi=>?_<;>repeat' first|exact zQ|with_reducible apply zJ<;>intro _|refine zK ?_
instance(l:List Int):Ct 171 [ints l,ints l] (Lm l) (.bool true):=by
 refine bf f171 [] [.tmp 4] fun pre=>?_;repeat' first|exact zQ|with_reducible apply zJ<;>intro _|refine zK ?_
 refine cm l [(4,5),(11,25)] [] (fun j τ _=>τ 5=I j) pre sG (fun j x τ β hx hj hw hi=>?_) fun τ β hn hi=>?_<;>repeat' first|exact zQ|with_reducible apply zJ<;>intro _|refine zK ?_
attribute [local go_sem] List.append_eq List.cons_append List.nil_append
instance(l:List Word):Ct 114 [.sl 5 (l.map Word.d),.sl 5 (l.map Word.d)] (Lm l/\∀x∈l,Lm x.alts) (.bool true):=by
 refine bf f114 [] [.tmp 4] fun pre=>?_;obtain⟨h1,h2⟩:=pre;replace h2:Hid _:=h2;repeat' first|exact zQ|with_reducible apply zJ<;>intro _|refine zK ?_
 refine cm l [(4,6),(12,109)] [] (fun j τ _=>τ 5=I j) h1 sG (fun j x τ β hx hj hw hi=>?_) fun τ β hn hi=>?_
 ·have EZ:=h2.out x (mG hx);repeat' first|exact zQ|with_reducible apply zJ<;>intro _|refine zK ?_
  refine cm x.alts [(4,4),(6,6),(83,109)] [] (fun j τ _=>τ 6=I j) EZ sG (fun k y τ' β' hy hk iL gx=>?_) fun τ' β' sc gx=>?_<;>repeat' first|exact zQ|with_reducible apply zJ<;>intro _|refine zK ?_
 ·repeat' first|exact zQ|with_reducible apply zJ<;>intro _|refine zK ?_
instance(l:List Word)(a b c d e:Int):Ct 65 [.agg [I a,I b,I c,I d,I e,.sl 5 (l.map Word.d)],.agg [I a,I b,I c,I d,I e,.sl 5 (l.map Word.d)]] (Lm l/\∀x∈l,Lm x.alts) (.bool true):=by
 refine bf f65 [] [.tmp 4] fun pre=>?_;repeat' first|exact zQ|with_reducible apply zJ<;>intro _|refine zK ?_
instance(l:List bc):Ct 25 [.sl 8 (l.map bc.d),.sl 8 (l.map bc.d)] (Lm l/\∀h∈l,Lm h.words/\∀x∈h.words,Lm x.alts) (.bool true):=by
 refine bf f25 [] [.tmp 4] fun pre=>?_;obtain⟨h1,h2⟩:=pre;replace h2:Hid _:=h2;repeat' first|exact zQ|with_reducible apply zJ<;>intro _|refine zK ?_
 refine cm l [(4,5),(11,54)] [] (fun j τ _=>τ 5=I j) h1 sG (fun j x τ β hx hj hw hi=>?_) fun τ β hn hi=>?_
 ·have EZ:=h2.out x (mG hx);repeat' first|exact zQ|with_reducible apply zJ<;>intro _|refine zK ?_
 ·repeat' first|exact zQ|with_reducible apply zJ<;>intro _|refine zK ?_
end Go.V.Jn
namespace Go.V.Jn
open Go.Proofs Go.Proofs.Tryz Go.RowKit Go.V.Lx Go.V.Gr Go.V.Ty Go.V.St
attribute [local go_sem] List.append_eq List.cons_append List.nil_append
instance(gs:List fK)(o:Int)(ks:List iI):Ct 119 [.agg [.sl 3 (gs.map fK.d),I o,.sl 3 (ks.map iI.d)],.agg [.sl 3 (gs.map fK.d),I o,.sl 3 (ks.map iI.d)]] (Lm gs/\Lm ks) (.bool true):=by
 refine bf f119 [] [.tmp 4] fun pre=>?_;obtain⟨h1,h2⟩:=pre;repeat' first|exact zQ|with_reducible apply zJ<;>intro _|refine zK ?_
 refine cm gs [(4,5),(30,47)] [] (fun j τ _=>τ 5=I j) h1 sG (fun j x τ β hx hj hw hi=>?_) fun τ β hn hi=>?_
 ·repeat' first|exact zQ|with_reducible apply zJ<;>intro _|refine zK ?_
 ·repeat' first|exact zQ|with_reducible apply zJ<;>intro _|refine zK ?_
  refine cm ks [(4,4),(6,6),(48,65)] [] (fun j τ _=>τ 6=I j) h2 sG (fun j x τ' β' hx hj hw gx=>?_) fun τ' β' sc gx=>?_<;>repeat' first|exact zQ|with_reducible apply zJ<;>intro _|refine zK ?_
instance(l:List Sign):Ct 120 [.sl 2 (l.map Sign.d),.sl 2 (l.map Sign.d)] (Lm l/\∀x∈l,Lm x.c) (.bool true):=by
 refine bf f120 [] [.tmp 4] fun pre=>?_;obtain⟨h1,h2⟩:=pre;replace h2:Hid _:=h2;repeat' first|exact zQ|with_reducible apply zJ<;>intro _|refine zK ?_
 refine cm l [(4,5),(11,41)] [] (fun j τ _=>τ 5=I j) h1 sG (fun j x τ β hx hj hw hi=>?_) fun τ β hn hi=>?_
 ·have EZ:=h2.out x (mG hx);repeat' first|exact zQ|with_reducible apply zJ<;>intro _|refine zK ?_
 ·repeat' first|exact zQ|with_reducible apply zJ<;>intro _|refine zK ?_
instance(w h:Int)(bl:List gO):Ct 121 [.agg [I w,I h,.sl 4 (bl.map gO.d)],.agg [I w,I h,.sl 4 (bl.map gO.d)]] (Lm bl) (.bool true):=by
 refine bf f121 [] [.tmp 4] fun pre=>?_;repeat' first|exact zQ|with_reducible apply zJ<;>intro _|refine zK ?_
 refine cm bl [(4,5),(27,44)] [] (fun j τ _=>τ 5=I j) pre sG (fun j x τ β hx hj hw hi=>?_) fun τ β hn hi=>?_<;>repeat' first|exact zQ|with_reducible apply zJ<;>intro _|refine zK ?_
def HJ(v:cy):Prop:=(Lm v.js.gs/\Lm v.js.ks)/\(Lm v.iH/\∀x∈v.iH,Lm x.c)/\Lm v.jV.bl
instance(s:aV):Ct 69 [s.d,s.d] (Lm s.cr/\Lm s.eL/\∀v∈s.cr,HJ v) (.bool true):=by
 refine bf f69 [] [.tmp 4] fun pre=>?_;obtain⟨h1,h2,h3⟩:=pre;replace h3:Hid _:=h3;repeat' first|exact zQ|with_reducible apply zJ<;>intro _|refine zK ?_
 refine cm s.cr [(4,7),(25,112)] [(6,7)] (fun j τ _=>τ 5=I j) h1 sG (fun j x τ β hx hj hw hi=>?_) fun τ β hn hi=>?_
 ·obtain⟨p1,p2,p3⟩:=h3.out x (mG hx);have hF:ao prog 119 [x.js.d,x.js.d] (.bool true):=by
   have key:Ct 119 [x.js.d,x.js.d] (Lm x.js.gs/\Lm x.js.ks) (.bool true):=inferInstance;exact key.h p1
  have hS:ao prog 121 [x.jV.d,x.jV.d] (.bool true):=by
   have key:Ct 121 [x.jV.d,x.jV.d] (Lm x.jV.bl) (.bool true):=inferInstance;exact key.h p3
  have hG:ao prog 120 [.sl 2 (x.iH.map Sign.d),.sl 2 (x.iH.map Sign.d)] (.bool true):=by
   have key:Ct 120 [.sl 2 (x.iH.map Sign.d),.sl 2 (x.iH.map Sign.d)] (Lm x.iH/\∀y∈x.iH,Lm y.c) (.bool true):=inferInstance;exact key.h p2
  haveI:Ct 119 [x.js.d,x.js.d] True (.bool true):=⟨fun _=>hF⟩
  haveI:Ct 121 [x.jV.d,x.jV.d] True (.bool true):=⟨fun _=>hS⟩
  haveI:Ct 120 [.sl 2 (x.iH.map Sign.d),.sl 2 (x.iH.map Sign.d)] True (.bool true):=⟨fun _=>hG⟩
  clear hF hS hG p1 p2 p3;repeat' first|exact zQ|with_reducible apply zJ<;>intro _|refine zK ?_
 ·repeat' first|exact zQ|with_reducible apply zJ<;>intro _|refine zK ?_
  refine cm s.eL [(4,4),(8,8),(113,130)] [] (fun j τ _=>τ 8=I j) h2 sG (fun j x τ' β' hx hj hw gx=>?_) fun τ' β' sc gx=>?_<;>repeat' first|exact zQ|with_reducible apply zJ<;>intro _|refine zK ?_
end Go.V.Jn
namespace Go.V.Jn
open Go.Proofs Go.Proofs.Tryz Go.RowKit Go.V.Lx Go.V.Gr Go.V.Ty Go.V.St
attribute [local go_sem] List.append_eq List.cons_append List.nil_append aS.d
instance(g:aS):Ct 68 [.agg [.str g.name,strs g.au,.str g.start,I g.no,.sl 5 (g.entries.map Entry.d),.sl 5 (g.rules.map aE.d)],.agg [.str g.name,strs g.au,.str g.start,I g.no,.sl 5 (g.entries.map Entry.d),.sl 5 (g.rules.map aE.d)]] (Sz g) (.bool true):=⟨fun h=>by have:=Ko g g h h;rwa[decide_eq_true rfl]at this⟩
structure HI(s:aV):Prop where
 te:Lm s.dU/\∀x∈s.dU,Lm x.src/\Lm x.Dv
 ho:Lm s.mN
 gr:∀g∈s.eD,Sz g
 lg:Lm s.eD
 lb:Lm s.eh
 lt:Lm s.jX
 vi:Lm s.cr/\Lm s.eL/\∀v∈s.cr,HJ v
 he:Lm s.heard/\∀h∈s.heard,Lm h.words/\∀x∈h.words,Lm x.alts
instance SC(s:aV):Ct 26 [s.d,s.d] (HI s) (.bool true):=by
 refine bf f26 [] [.tmp 4] fun pre=>?_;obtain⟨h1,h2,h3,h4,h5,h6,h7,h8⟩:=pre;replace h3:Hid _:=h3;have hT:ao prog 66 [.sl 8 (s.dU.map Term.d),.sl 8 (s.dU.map Term.d)] (.bool true):=by
  have key:Ct 66 [.sl 8 (s.dU.map Term.d),.sl 8 (s.dU.map Term.d)] (Lm s.dU/\∀x∈s.dU,Lm x.src/\Lm x.Dv) (.bool true):=inferInstance;exact key.h h1
 have hV:ao prog 69 [s.d,s.d] (.bool true):=by
  have key:Ct 69 [s.d,s.d] (Lm s.cr/\Lm s.eL/\∀v∈s.cr,HJ v) (.bool true):=inferInstance;exact key.h h7
 have hH:ao prog 25 [.sl 8 (s.heard.map bc.d),.sl 8 (s.heard.map bc.d)] (.bool true):=by
  have key:Ct 25 [.sl 8 (s.heard.map bc.d),.sl 8 (s.heard.map bc.d)] (Lm s.heard/\∀h∈s.heard,Lm h.words/\∀x∈h.words,Lm x.alts) (.bool true):=inferInstance;exact key.h h8
 haveI:Ct 66 [.sl 8 (s.dU.map Term.d),.sl 8 (s.dU.map Term.d)] True (.bool true):=⟨fun _=>hT⟩
 haveI:Ct 69 [s.d,s.d] True (.bool true):=⟨fun _=>hV⟩
 haveI:Ct 25 [.sl 8 (s.heard.map bc.d),.sl 8 (s.heard.map bc.d)] True (.bool true):=⟨fun _=>hH⟩
 clear hT hV hH h1 h7 h8;have mP:∀x:aO,FT 0 [2,2,2,2,2] [I x.cw,I x.m0,I x.m1,I x.m2,I x.m3] [I x.cw,I x.m0,I x.m1,I x.m2,I x.m3]=some true:=fun x=>if_pos ⟨rfl,by simp[go_sem],by simp[go_sem]⟩;repeat' first|exact zQ|with_reducible apply zJ<;>intro _|refine zK ?_
 refine fresh (fun σ' B=>σ' 2= .loc 2 1 0 0/\σ' 3= .loc 3 1 0 0/\σ' 5=I 0/\B 2=⟨1,1,15,33,[s.d]⟩/\B 3=⟨1,1,15,33,[s.d]⟩) ⟨by simp[go_sem, *],by simp[go_sem, *],by simp[go_sem, *],by simp[go_sem, *],by simp[go_sem, *]⟩ ?_;rintro σ B ⟨k2,k3,k5,b2,b3⟩;refine cm s.eD [(4,5),(56,74)] [] (fun j τ _=>τ 5=I j) h4 k5 (fun j x τ β hx hj hw hi=>?_) fun τ β hn hi=>?_
 ·have EZ:=h3.out x (mG hx);repeat' first|exact zQ|with_reducible apply zJ<;>intro _|refine zK ?_
 ·repeat' first|exact zQ|with_reducible apply zJ<;>intro _|refine zK ?_
  refine fresh (fun σ' B=>σ' 2= .loc 2 1 0 0/\σ' 3= .loc 3 1 0 0/\σ' 6=I 0/\B 2=⟨1,1,15,33,[s.d]⟩/\B 3=⟨1,1,15,33,[s.d]⟩) ⟨by simp[go_sem, *],by simp[go_sem, *],by simp[go_sem, *],by simp[go_sem, *],by simp[go_sem, *]⟩ ?_;clear hn hi;rintro σ1 B1 ⟨q2,q3,q5,c2,c3⟩;clear k2 k3 k5 b2 b3;refine cm s.eh [(4,4),(6,6),(75,92)] [] (fun j τ _=>τ 6=I j) h5 q5 (fun j x τ β hx hj hw hi=>?_) fun τ β hn hi=>?_
  ·repeat' first|exact zQ|with_reducible apply zJ<;>intro _|refine zK ?_
  ·repeat' first|exact zQ|with_reducible apply zJ<;>intro _|refine zK ?_
   refine fresh (fun σ' B=>σ' 2= .loc 2 1 0 0/\σ' 3= .loc 3 1 0 0/\σ' 7=I 0/\B 2=⟨1,1,15,33,[s.d]⟩/\B 3=⟨1,1,15,33,[s.d]⟩) ⟨by simp[go_sem, *],by simp[go_sem, *],by simp[go_sem, *],by simp[go_sem, *],by simp[go_sem, *]⟩ ?_;clear hn hi;rintro σ2 B2 ⟨k2,k3,k5,b2,b3⟩;clear q2 q3 q5 c2 c3;refine cm s.jX [(4,4),(7,7),(93,110)] [] (fun j τ _=>τ 7=I j) h6 k5 (fun j x τ β hx hj hw hi=>?_) fun τ β hn hi=>?_
   ·repeat' first|exact zQ|with_reducible apply zJ<;>intro _|refine zK ?_
   ·repeat' first|exact zQ|with_reducible apply zJ<;>intro _|refine zK ?_
instance(p:bI):Ct 15 [p.d,p.d] (HI p.bY/\Lm p.bZ.bh/\okD p.cu) (.bool true):=by
 obtain⟨s,⟨rs,M,y⟩,⟨S,W,L,st⟩⟩:=p;refine bf f15 [] [.tmp 4] fun pre=>?_;obtain⟨h1,h2,h3⟩:=pre;simp only at h1 h2 h3;have hS:=(SC s).h h1;have hJ:ao prog 46 [gm.d ⟨rs,M,y⟩,gm.d ⟨rs,M,y⟩] (.bool true):=by
  have key:∀j:gm,Ct 46 [j.d,j.d] (Lm j.bh/\Lm j.bh) (.bool (decide (j.many=j.many)&&decide (j.sync=j.sync)&&decide (j.bh=j.bh))):=fun j=>inferInstance;have:=(key ⟨rs,M,y⟩).h ⟨h2,h2⟩;simpa using this
 have hD:ao prog 47 [cI.d ⟨S,W,L,st⟩,cI.d ⟨S,W,L,st⟩] (.bool true):=by
  have key:∀d:cI,Ct 47 [d.d,d.d] (okD d) (.bool true):=fun d=>inferInstance;exact(key ⟨S,W,L,st⟩).h h3
 haveI:Ct 26 [s.d,s.d] True (.bool true):=⟨fun _=>hS⟩
 haveI:Ct 46 [gm.d ⟨rs,M,y⟩,gm.d ⟨rs,M,y⟩] True (.bool true):=⟨fun _=>hJ⟩
 haveI:Ct 47 [cI.d ⟨S,W,L,st⟩,cI.d ⟨S,W,L,st⟩] True (.bool true):=⟨fun _=>hD⟩
 clear hS hJ hD h1;repeat' first|exact zQ|with_reducible apply zJ<;>intro _|refine zK ?_
end Go.V.Jn
