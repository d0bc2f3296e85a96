/- Plain laws: B29. -/
import Derived.Test.YtkgloohlmogakaaGreatDoorB28
set_option linter.all false
set_option maxHeartbeats 8000000
set_option maxRecDepth 100000
namespace Go.V.Jn
open Go.Proofs Go.Proofs.Tryz Go.RowKit Go.V.Lx Go.V.Gr Go.V.Ty Go.V.St
instance(l:List ah):Ct 170 [strs l,strs l] (Lm l) (.bool true):=by
 refine bf f170 [] [.tmp 4] fun pre=>?_;repeat' first|exact zQ|with_reducible apply zJ<;>intro _|refine zK ?_
 refine bW l [(4,5),(11,25)] [] (fun j τ _=>τ 5=I j) pre sG (fun j x τ β hx hj hw hi=>?_) fun τ β hn hi=>?_<;>repeat' first|exact zQ|with_reducible apply zJ<;>intro _|refine zK ?_
instance(x:Term):Ct 115 [x.d,x.d] (Lm x.src/\Lm x.DL) (.bool true):=by
 refine bf f115 [] [.tmp 4] fun pre=>?_;obtain⟨h1,h2⟩:=pre;repeat' first|exact zQ|with_reducible apply zJ<;>intro _|refine zK ?_
instance(l:List Term):Ct 66 [.sl 8 (l.map Term.d),.sl 8 (l.map Term.d)] (Lm l/\∀x∈l,Lm x.src/\Lm x.DL) (.bool true):=by
 refine bf f66 [] [.tmp 4] fun pre=>?_;obtain⟨h1,h2⟩:=pre;replace h2:Hid _:=h2;repeat' first|exact zQ|with_reducible apply zJ<;>intro _|refine zK ?_
 refine bW l [(4,5),(11,26)] [] (fun j τ _=>τ 5=I j) h1 sG (fun j x τ β hx hj hw hi=>?_) fun τ β hn hi=>?_
 ·have Fg:=h2.out x (mG hx);repeat' first|exact zQ|with_reducible apply zJ<;>intro _|refine zK ?_
 ·repeat' first|exact zQ|with_reducible apply zJ<;>intro _|refine zK ?_
instance(l:List cu):Ct 67 [.sl 10 (l.map cu.d),.sl 10 (l.map cu.d)] (Lm l) (.bool true):=by
 refine bf f67 [] [.tmp 4] fun pre=>?_;repeat' first|exact zQ|with_reducible apply zJ<;>intro _|refine zK ?_
 refine bW l [(4,5),(11,25)] [] (fun j τ _=>τ 5=I j) pre sG (fun j x τ β hx hj hw hi=>?_) fun τ β hn hi=>?_<;>repeat' first|exact zQ|with_reducible apply zJ<;>intro _|refine zK ?_
instance(l:List Int):Ct 171 [ints l,ints l] (Lm l) (.bool true):=by
 refine bf f171 [] [.tmp 4] fun pre=>?_;repeat' first|exact zQ|with_reducible apply zJ<;>intro _|refine zK ?_
 refine bW l [(4,5),(11,25)] [] (fun j τ _=>τ 5=I j) pre sG (fun j x τ β hx hj hw hi=>?_) fun τ β hn hi=>?_<;>repeat' first|exact zQ|with_reducible apply zJ<;>intro _|refine zK ?_
attribute [local go_sem] List.append_eq List.cons_append List.nil_append
instance(l:List Word):Ct 114 [.sl 5 (l.map Word.d),.sl 5 (l.map Word.d)] (Lm l/\∀x∈l,Lm x.alts) (.bool true):=by
 refine bf f114 [] [.tmp 4] fun pre=>?_;obtain⟨h1,h2⟩:=pre;replace h2:Hid _:=h2;repeat' first|exact zQ|with_reducible apply zJ<;>intro _|refine zK ?_
 refine bW l [(4,6),(12,109)] [] (fun j τ _=>τ 5=I j) h1 sG (fun j x τ β hx hj hw hi=>?_) fun τ β hn hi=>?_
 ·have Fg:=h2.out x (mG hx);repeat' first|exact zQ|with_reducible apply zJ<;>intro _|refine zK ?_
  refine bW x.alts [(4,4),(6,6),(83,109)] [] (fun j τ _=>τ 6=I j) Fg sG (fun k y τ' β' hy hk hZ fU=>?_) fun τ' β' sB fU=>?_<;>repeat' first|exact zQ|with_reducible apply zJ<;>intro _|refine zK ?_
 ·repeat' first|exact zQ|with_reducible apply zJ<;>intro _|refine zK ?_
instance(l:List Word)(a b c d e:Int):Ct 65 [.agg [I a,I b,I c,I d,I e,.sl 5 (l.map Word.d)],.agg [I a,I b,I c,I d,I e,.sl 5 (l.map Word.d)]] (Lm l/\∀x∈l,Lm x.alts) (.bool true):=by
 refine bf f65 [] [.tmp 4] fun pre=>?_;repeat' first|exact zQ|with_reducible apply zJ<;>intro _|refine zK ?_
instance(l:List bn):Ct 25 [.sl 8 (l.map bn.d),.sl 8 (l.map bn.d)] (Lm l/\∀h∈l,Lm h.words/\∀x∈h.words,Lm x.alts) (.bool true):=by
 refine bf f25 [] [.tmp 4] fun pre=>?_;obtain⟨h1,h2⟩:=pre;replace h2:Hid _:=h2;repeat' first|exact zQ|with_reducible apply zJ<;>intro _|refine zK ?_
 refine bW l [(4,5),(11,54)] [] (fun j τ _=>τ 5=I j) h1 sG (fun j x τ β hx hj hw hi=>?_) fun τ β hn hi=>?_
 ·have Fg:=h2.out x (mG hx);repeat' first|exact zQ|with_reducible apply zJ<;>intro _|refine zK ?_
 ·repeat' first|exact zQ|with_reducible apply zJ<;>intro _|refine zK ?_
end Go.V.Jn
namespace Go.V.Jn
open Go.Proofs Go.Proofs.Tryz Go.RowKit Go.V.Lx Go.V.Gr Go.V.Ty Go.V.St
attribute [local go_sem] List.append_eq List.cons_append List.nil_append
instance(gs:List fM)(o:Int)(ks:List iK):Ct 119 [.agg [.sl 3 (gs.map fM.d),I o,.sl 3 (ks.map iK.d)],.agg [.sl 3 (gs.map fM.d),I o,.sl 3 (ks.map iK.d)]] (Lm gs/\Lm ks) (.bool true):=by
 refine bf f119 [] [.tmp 4] fun pre=>?_;obtain⟨h1,h2⟩:=pre;repeat' first|exact zQ|with_reducible apply zJ<;>intro _|refine zK ?_
 refine bW gs [(4,5),(30,47)] [] (fun j τ _=>τ 5=I j) h1 sG (fun j x τ β hx hj hw hi=>?_) fun τ β hn hi=>?_
 ·repeat' first|exact zQ|with_reducible apply zJ<;>intro _|refine zK ?_
 ·repeat' first|exact zQ|with_reducible apply zJ<;>intro _|refine zK ?_
  refine bW ks [(4,4),(6,6),(48,65)] [] (fun j τ _=>τ 6=I j) h2 sG (fun j x τ' β' hx hj hw fU=>?_) fun τ' β' sB fU=>?_<;>repeat' first|exact zQ|with_reducible apply zJ<;>intro _|refine zK ?_
instance(l:List Sign):Ct 120 [.sl 2 (l.map Sign.d),.sl 2 (l.map Sign.d)] (Lm l/\∀x∈l,Lm x.c) (.bool true):=by
 refine bf f120 [] [.tmp 4] fun pre=>?_;obtain⟨h1,h2⟩:=pre;replace h2:Hid _:=h2;repeat' first|exact zQ|with_reducible apply zJ<;>intro _|refine zK ?_
 refine bW l [(4,5),(11,41)] [] (fun j τ _=>τ 5=I j) h1 sG (fun j x τ β hx hj hw hi=>?_) fun τ β hn hi=>?_
 ·have Fg:=h2.out x (mG hx);repeat' first|exact zQ|with_reducible apply zJ<;>intro _|refine zK ?_
 ·repeat' first|exact zQ|with_reducible apply zJ<;>intro _|refine zK ?_
instance(w h:Int)(bl:List gP):Ct 121 [.agg [I w,I h,.sl 4 (bl.map gP.d)],.agg [I w,I h,.sl 4 (bl.map gP.d)]] (Lm bl) (.bool true):=by
 refine bf f121 [] [.tmp 4] fun pre=>?_;repeat' first|exact zQ|with_reducible apply zJ<;>intro _|refine zK ?_
 refine bW bl [(4,5),(27,44)] [] (fun j τ _=>τ 5=I j) pre sG (fun j x τ β hx hj hw hi=>?_) fun τ β hn hi=>?_<;>repeat' first|exact zQ|with_reducible apply zJ<;>intro _|refine zK ?_
def H4(v:cM):Prop:=(Lm v.jw.gs/\Lm v.jw.ks)/\(Lm v.iJ/\∀x∈v.iJ,Lm x.c)/\Lm v.jW.bl
instance(s:bg):Ct 69 [s.d,s.d] (Lm s.cx/\Lm s.eZ/\∀v∈s.cx,H4 v) (.bool true):=by
 refine bf f69 [] [.tmp 4] fun pre=>?_;obtain⟨h1,h2,h3⟩:=pre;replace h3:Hid _:=h3;repeat' first|exact zQ|with_reducible apply zJ<;>intro _|refine zK ?_
 refine bW s.cx [(4,7),(25,112)] [(6,7)] (fun j τ _=>τ 5=I j) h1 sG (fun j x τ β hx hj hw hi=>?_) fun τ β hn hi=>?_
 ·obtain⟨p1,p2,p3⟩:=h3.out x (mG hx);have hF:ao prog 119 [x.jw.d,x.jw.d] (.bool true):=by
   have key:Ct 119 [x.jw.d,x.jw.d] (Lm x.jw.gs/\Lm x.jw.ks) (.bool true):=inferInstance;exact key.h p1
  have hS:ao prog 121 [x.jW.d,x.jW.d] (.bool true):=by
   have key:Ct 121 [x.jW.d,x.jW.d] (Lm x.jW.bl) (.bool true):=inferInstance;exact key.h p3
  have hG:ao prog 120 [.sl 2 (x.iJ.map Sign.d),.sl 2 (x.iJ.map Sign.d)] (.bool true):=by
   have key:Ct 120 [.sl 2 (x.iJ.map Sign.d),.sl 2 (x.iJ.map Sign.d)] (Lm x.iJ/\∀y∈x.iJ,Lm y.c) (.bool true):=inferInstance;exact key.h p2
  haveI:Ct 119 [x.jw.d,x.jw.d] True (.bool true):=⟨fun _=>hF⟩
  haveI:Ct 121 [x.jW.d,x.jW.d] True (.bool true):=⟨fun _=>hS⟩
  haveI:Ct 120 [.sl 2 (x.iJ.map Sign.d),.sl 2 (x.iJ.map Sign.d)] True (.bool true):=⟨fun _=>hG⟩
  clear hF hS hG p1 p2 p3;repeat' first|exact zQ|with_reducible apply zJ<;>intro _|refine zK ?_
 ·repeat' first|exact zQ|with_reducible apply zJ<;>intro _|refine zK ?_
  refine bW s.eZ [(4,4),(8,8),(113,130)] [] (fun j τ _=>τ 8=I j) h2 sG (fun j x τ' β' hx hj hw fU=>?_) fun τ' β' sB fU=>?_<;>repeat' first|exact zQ|with_reducible apply zJ<;>intro _|refine zK ?_
end Go.V.Jn
namespace Go.V.Jn
open Go.Proofs Go.Proofs.Tryz Go.RowKit Go.V.Lx Go.V.Gr Go.V.Ty Go.V.St
attribute [local go_sem] List.append_eq List.cons_append List.nil_append aW.d
instance(g:aW):Ct 68 [.agg [.str g.name,strs g.au,.str g.start,I g.no,.sl 5 (g.entries.map Entry.d),.sl 5 (g.rules.map aH.d)],.agg [.str g.name,strs g.au,.str g.start,I g.no,.sl 5 (g.entries.map Entry.d),.sl 5 (g.rules.map aH.d)]] (Sz g) (.bool true):=⟨fun h=>by have:=KO g g h h;rwa[decide_eq_true rfl]at this⟩
structure H2(s:bg):Prop where
 te:Lm s.eh/\∀x∈s.eh,Lm x.src/\Lm x.DL
 ho:Lm s.nZ
 gr:∀g∈s.eK,Sz g
 lg:Lm s.eK
 lb:Lm s.eF
 lt:Lm s.lj
 vi:Lm s.cx/\Lm s.eZ/\∀v∈s.cx,H4 v
 he:Lm s.heard/\∀h∈s.heard,Lm h.words/\∀x∈h.words,Lm x.alts
instance S9(s:bg):Ct 26 [s.d,s.d] (H2 s) (.bool true):=by
 refine bf f26 [] [.tmp 4] fun pre=>?_;obtain⟨h1,h2,h3,h4,h5,h6,h7,h8⟩:=pre;replace h3:Hid _:=h3;have hT:ao prog 66 [.sl 8 (s.eh.map Term.d),.sl 8 (s.eh.map Term.d)] (.bool true):=by
  have key:Ct 66 [.sl 8 (s.eh.map Term.d),.sl 8 (s.eh.map Term.d)] (Lm s.eh/\∀x∈s.eh,Lm x.src/\Lm x.DL) (.bool true):=inferInstance;exact key.h h1
 have hV:ao prog 69 [s.d,s.d] (.bool true):=by
  have key:Ct 69 [s.d,s.d] (Lm s.cx/\Lm s.eZ/\∀v∈s.cx,H4 v) (.bool true):=inferInstance;exact key.h h7
 have hH:ao prog 25 [.sl 8 (s.heard.map bn.d),.sl 8 (s.heard.map bn.d)] (.bool true):=by
  have key:Ct 25 [.sl 8 (s.heard.map bn.d),.sl 8 (s.heard.map bn.d)] (Lm s.heard/\∀h∈s.heard,Lm h.words/\∀x∈h.words,Lm x.alts) (.bool true):=inferInstance;exact key.h h8
 haveI:Ct 66 [.sl 8 (s.eh.map Term.d),.sl 8 (s.eh.map Term.d)] True (.bool true):=⟨fun _=>hT⟩
 haveI:Ct 69 [s.d,s.d] True (.bool true):=⟨fun _=>hV⟩
 haveI:Ct 25 [.sl 8 (s.heard.map bn.d),.sl 8 (s.heard.map bn.d)] True (.bool true):=⟨fun _=>hH⟩
 clear hT hV hH h1 h7 h8;have mr:∀x:aP,Gb 0 [2,2,2,2,2] [I x.cy,I x.m0,I x.m1,I x.m2,I x.m3] [I x.cy,I x.m0,I x.m1,I x.m2,I x.m3]=some true:=fun x=>if_pos ⟨rfl,by simp[go_sem],by simp[go_sem]⟩;repeat' first|exact zQ|with_reducible apply zJ<;>intro _|refine zK ?_
 refine fresh (fun σ' B=>σ' 2= .loc 2 1 0 0/\σ' 3= .loc 3 1 0 0/\σ' 5=I 0/\B 2=⟨1,1,15,33,[s.d]⟩/\B 3=⟨1,1,15,33,[s.d]⟩) ⟨by simp[go_sem, *],by simp[go_sem, *],by simp[go_sem, *],by simp[go_sem, *],by simp[go_sem, *]⟩ ?_;rintro σ B ⟨k2,k3,k5,b2,b3⟩;refine bW s.eK [(4,5),(56,74)] [] (fun j τ _=>τ 5=I j) h4 k5 (fun j x τ β hx hj hw hi=>?_) fun τ β hn hi=>?_
 ·have Fg:=h3.out x (mG hx);repeat' first|exact zQ|with_reducible apply zJ<;>intro _|refine zK ?_
 ·repeat' first|exact zQ|with_reducible apply zJ<;>intro _|refine zK ?_
  refine fresh (fun σ' B=>σ' 2= .loc 2 1 0 0/\σ' 3= .loc 3 1 0 0/\σ' 6=I 0/\B 2=⟨1,1,15,33,[s.d]⟩/\B 3=⟨1,1,15,33,[s.d]⟩) ⟨by simp[go_sem, *],by simp[go_sem, *],by simp[go_sem, *],by simp[go_sem, *],by simp[go_sem, *]⟩ ?_;clear hn hi;rintro σ1 B1 ⟨q2,q3,q5,c2,c3⟩;clear k2 k3 k5 b2 b3;refine bW s.eF [(4,4),(6,6),(75,92)] [] (fun j τ _=>τ 6=I j) h5 q5 (fun j x τ β hx hj hw hi=>?_) fun τ β hn hi=>?_
  ·repeat' first|exact zQ|with_reducible apply zJ<;>intro _|refine zK ?_
  ·repeat' first|exact zQ|with_reducible apply zJ<;>intro _|refine zK ?_
   refine fresh (fun σ' B=>σ' 2= .loc 2 1 0 0/\σ' 3= .loc 3 1 0 0/\σ' 7=I 0/\B 2=⟨1,1,15,33,[s.d]⟩/\B 3=⟨1,1,15,33,[s.d]⟩) ⟨by simp[go_sem, *],by simp[go_sem, *],by simp[go_sem, *],by simp[go_sem, *],by simp[go_sem, *]⟩ ?_;clear hn hi;rintro σ2 B2 ⟨k2,k3,k5,b2,b3⟩;clear q2 q3 q5 c2 c3;refine bW s.lj [(4,4),(7,7),(93,110)] [] (fun j τ _=>τ 7=I j) h6 k5 (fun j x τ β hx hj hw hi=>?_) fun τ β hn hi=>?_
   ·repeat' first|exact zQ|with_reducible apply zJ<;>intro _|refine zK ?_
   ·repeat' first|exact zQ|with_reducible apply zJ<;>intro _|refine zK ?_
instance(p:bG):Ct 15 [p.d,p.d] (H2 p.cn/\Lm p.cm.bJ/\okD p.cg) (.bool true):=by
 obtain⟨s,⟨rs,M,y⟩,⟨S,W,L,st⟩⟩:=p;refine bf f15 [] [.tmp 4] fun pre=>?_;obtain⟨h1,h2,h3⟩:=pre;simp only at h1 h2 h3;have hS:=(S9 s).h h1;have hJ:ao prog 46 [gy.d ⟨rs,M,y⟩,gy.d ⟨rs,M,y⟩] (.bool true):=by
  have key:∀j:gy,Ct 46 [j.d,j.d] (Lm j.bJ/\Lm j.bJ) (.bool (decide (j.many=j.many)&&decide (j.sync=j.sync)&&decide (j.bJ=j.bJ))):=fun j=>inferInstance;have:=(key ⟨rs,M,y⟩).h ⟨h2,h2⟩;simpa using this
 have hD:ao prog 47 [bV.d ⟨S,W,L,st⟩,bV.d ⟨S,W,L,st⟩] (.bool true):=by
  have key:∀d:bV,Ct 47 [d.d,d.d] (okD d) (.bool true):=fun d=>inferInstance;exact(key ⟨S,W,L,st⟩).h h3
 haveI:Ct 26 [s.d,s.d] True (.bool true):=⟨fun _=>hS⟩
 haveI:Ct 46 [gy.d ⟨rs,M,y⟩,gy.d ⟨rs,M,y⟩] True (.bool true):=⟨fun _=>hJ⟩
 haveI:Ct 47 [bV.d ⟨S,W,L,st⟩,bV.d ⟨S,W,L,st⟩] True (.bool true):=⟨fun _=>hD⟩
 clear hS hJ hD h1;repeat' first|exact zQ|with_reducible apply zJ<;>intro _|refine zK ?_
end Go.V.Jn
