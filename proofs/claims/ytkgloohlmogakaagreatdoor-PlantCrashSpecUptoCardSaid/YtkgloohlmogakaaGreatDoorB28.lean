/- Plain laws: B28. -/
import Derived.Test.YtkgloohlmogakaaGreatDoorB27
import Derived.Test.YtkgloohlmogakaaGreatDoorB22
import Derived.Test.YtkgloohlmogakaaGreatDoorB25
set_option linter.all false
set_option maxHeartbeats 8000000
set_option maxRecDepth 100000
namespace Go.V.Jn
open Go.Proofs Go.Proofs.Tryz Go.RowKit Go.V.Lx Go.V.Gr Go.V.Ty Go.V.St
theorem aS.more{bx:ae}{ts ts':List Nat}{el esz:Nat}{x:D}{xs:List D}(h:aS bx ts el esz x xs)(hs:∀t,t∈ts->t∈ts'):aS bx ts' el esz x xs:=by
 rcases h with h|⟨t,e,ht,h1,h2⟩
 ·exact .inl h
 ·exact .inr ⟨t,e,hs t ht,h1,h2⟩
def LB(bx bx':ae)(l:List Int)(d:D):Prop:=∃x,d= .agg [I 3,I 0,.str [],x]/\aS bx' [120] 158 4 x ((l.map aU.i).map aU.d)/\∀q,q<100->bx' q=bx q
def Xs(l:List Int)(h:l.length<=1099511627776)(bx:ae):bj prog 83 100 [.sl 1 (l.map I),.fn (.func 84) []] bx (fun d bx'=>LB bx bx' l d) (fun _ _=>False):=by
 refine aK (fn:=f83) (tab:=[(5,[(7,4),(7,3)])]) (base:=100) mixed ?_ rfl ak rfl;refine aL _ [.cell 4 158] 24 rfl rfl rfl ak ?_;have hL:Lm l:=by simp[Lm];omega
 repeat' first|exact zQ|with_reducible apply zJ<;>intro _|refine zK ?_
 generalize hE:(bx 104).ep+1=e4 at *;refine bW l [(6,6),(10,22)] [(100,130)] (fun j τ β=>τ 10=I j/\∃x,β 104=⟨e4,1,4,158,[.agg [I 3,I 0,.str [],x]]⟩/\aS β [120] 158 4 x (((l.take j).map aU.i).map aU.d)) hL ⟨by simp[go_sem],.aq,by simp[aj],.nil _ _ _ _⟩ (fun j y τ β hx hj hw hi=>?_) fun τ β hn hi=>?_
 ·obtain⟨iU,x,h4,hv⟩:=hi;have hf:=hv.facts;have fV:((l.take j).map aU.i).map aU.d++[(aU.i y).d]=((l.take (j+1)).map aU.i).map aU.d:=by rw[List.take_add_one,hx];simp
  have fz:(((l.take j).map aU.i).map aU.d).length<=l.length:=by simp;omega
  replace fz:Hid _:=fz;repeat' first|exact zQ|with_reducible apply zJ<;>intro _|refine zK ?_
  refine app [120] (hv.of fun t ht=>by simp at ht;subst ht;simp[aj,bc,dA]) (fun x' β' aX=>?_) (by have:=fz.out;simp only[List.length_cons,List.length_nil];omega);have kK:=aX.facts;replace aX:aS β' [120] 158 4 x' (((l.take j).map aU.i).map aU.d++[(aU.i y).d]):=aX;rw[fV]at aX;clear fV;repeat' first|exact zQ|with_reducible apply zJ<;>intro _|refine zK ?_
  exact⟨x',rfl,aX.of fun t ht=>by simp at ht;subst ht;simp[aj,bc,dA]⟩
 ·obtain⟨iU,x,h4,hv⟩:=hi;rw[tL]at hv;have hf:=hv.facts;repeat' first|exact zQ|with_reducible apply zJ<;>intro _|refine zK ?_
  refine⟨x,rfl,hv.of fun t ht=>by simp at ht;subst ht;simp[aj,bc,dA],fun q hq=>?_⟩;rw[aD oM];refine(di.nH q (by simp[dA];omega)).trans ?_;rw[aD oM,aD oM]
instance(h:bn):Ct 42 [h.d] (okW (c_ h)/\(cz h).length<=1099511620000) (aT (cz h)):=by
 refine bf f42 [(3,[(7,4),(7,3)])] [.tmp 2] fun pre=>?_;obtain⟨ho,hl⟩:=pre;obtain⟨n1,n2⟩:=zX h;have Hg:=yA h;have hf:ng (c_ h)/\e_ (c_ h)<=16/\(cr (c_ h)).length<=1099511627000:=⟨⟨ho,by unfold cz at hl;omega⟩,by omega,by unfold cz at hl;omega⟩
 have sE:h.words.length<=1099511627776/\∀w∈h.words,w.alts.length<=1099511627776:=⟨by omega,fun w hw=>by have:=n2 w hw;omega⟩
 clear n1 n2 Hg ho hl;repeat' first|exact zQ|with_reducible apply zJ<;>intro _|refine zK ?_
 refine aC (Xs [h.at_,h.src,h.seq,h.jX,h.kind,h.lQ,h.cut] sI _) rfl fun d bx1 hq=>?_;obtain⟨x,rfl,hv,hk⟩:=hq;have k1:=hk 1 (by decide);have k2:=hk 3 (by decide);have Wx:=hv.facts;simp[aj]at k1 k2;clear hk;repeat' first|exact zQ|with_reducible apply zJ<;>intro _|refine zK ?_
 refine app [34,120] (aS.more (hv.of fun t ht=>by simp at ht;subst ht;rw[aD (by decide),aD (by decide)]) sI) (fun x' β aX=>?_) sI;have hfx':=aX.facts;have Oj:([h.at_,h.src,h.seq,h.jX,h.kind,h.lQ,h.cut].map aU.i).map aU.d++[D.agg [I 3,I 0,.str [],.sl 4 ((h.words.map cF).map aU.d)]]=[aU.i h.at_,.i h.src,.i h.seq,.i h.jX,.i h.kind,.i h.lQ,.i h.cut,.l (h.words.map cF)].map aU.d:=by simp only[mC,List.map_nil,Ev,nQ,List.cons_append,List.nil_append]
 rw[Oj]at aX;have WO:=Ig aX sI (lx _);clear hv Oj;repeat' first|exact zQ|with_reducible apply zJ<;>intro _|refine zK ?_
 have ae6:(c_ h).d= .agg [I 3,I 0,.str [],.sl 4 ([aU.i h.at_,.i h.src,.i h.seq,.i h.jX,.i h.kind,.i h.lQ,.i h.cut,.l (h.words.map cF)].map aU.d)]:=by rw[c_,nQ]
 have hE:Ct 87 [(c_ h).d] (ng (c_ h)/\e_ (c_ h)<=16/\(cr (c_ h)).length<=1099511627000) (.aI [aT (cr (c_ h)),I 0]):=inferInstance;refine Px (ds':=[(c_ h).d]) (hE.h hf) ?_ rfl ?_
 ·rw[ae6,dS,uf,dS,dS,dS,dS,WO _ fun t ht=>by simp at ht;rcases ht with rfl|rfl<;>simp[aj,bc,dA]];simp[go_sem]
 repeat' first|exact zQ|with_reducible apply zJ<;>intro _|refine zK ?_
 exact .refl _
def BI{bx:ae}{ts:List Nat}{el esz:Nat}{x:D}{xs:List D}(h:aS bx ts el esz x xs)(hp:D.aF xs=true):∃r,bN r (.sl esz xs)/\(r.pure=true/\r.one=true/\r.cells=[r])/\∀bx':ae,(∀t,t∈ts->bx' t=bx t)->bD bx' x=some r:=by
 rcases h with⟨rfl,rfl⟩|⟨t,e,ht,rfl,hb⟩
 ·exact⟨.aq,.nil _,⟨rfl,rfl,rfl⟩,fun bx' _=>rfl⟩
 ·refine⟨_,.refl _,⟨by simpa[D.pure]using hp,rfl,rfl⟩,fun bx' h=>?_⟩;rw[ma,h t ht,hb];exact ej _ _ _ _ _ _ (by decide) rfl hp
def vn{sz:Nat}{ps cs ds:List D}(h:WL cs ds):bN (.sl sz (ps++[.agg cs])) (.sl sz (ps++[.agg ds])):=by
 have key:∀(i:Nat) x x',(ps++[D.agg cs])[i]? =some x->(ps++[D.agg ds])[i]? =some x'->x=x'\/(x= .agg cs/\x'= .agg ds):=fun i x x' hx dQ=>by
  rcases Nat.lt_or_ge i ps.length with hi|hi
  ·rw[List.getElem?_append_left hi]at hx dQ;rw[hx]at dQ;injection dQ with dQ;exact .inl dQ
  ·rw[List.getElem?_append_right hi]at hx dQ;have hi0:i - ps.length=0:=by
    have:=(gS.1 hx).1;simp at this;omega
   rw[hi0]at hx dQ;simp at hx dQ;exact .inr ⟨hx.symm,dQ.symm⟩
 refine .sl sI (fun i x x' hx dQ=>?_) fun i x x' j c c' hx dQ hc fT=>?_
 ·rcases key i x x' hx dQ with rfl|⟨rfl,rfl⟩
  ·rfl
  ·exact h.get.1
 ·rcases key i x x' hx dQ with rfl|⟨rfl,rfl⟩
  ·rw[hc]at fT;injection fT with fT;subst fT;exact .refl _
  ·exact h.get.2 j c c' hc fT
instance (priority:=low)(es:List D):Ct 92 [.sl 4 es] True (.agg [I 3,I 0,.str [],.sl 4 es]):=by
 refine bf f92 [] [.cell 2 158] fun pre=>?_;repeat' first|exact zQ|with_reducible apply zJ<;>intro _|refine zK ?_
def wh{bx:ae}{s:Nat}{l:List D}(q:Nat)(hq:q≠s)(hn:q∉bM (bx s).es):Go.V.eI bx s l q=bx q:=by
 unfold Go.V.eI;rw[aD hq,eL,if_neg hn]
def Ec{bx:ae}{s e k sz ty:Nat}{es l:List D}(h:bx s=⟨e,k,sz,ty,es⟩)(hn:s∉bM es):Go.V.eI bx s l s=⟨e,k,sz,ty,l⟩:=by
 unfold Go.V.eI;rw[dC,eL,h,if_neg hn]
instance(w:Word):Ct 90 [w.d] (w.alts.length<=1099511627776) (cF w).d:=by
 refine bf f90 [(5,[(10,4),(10,3)]),(6,[(13,11),(13,8),(10,8),(13,5),(10,5),(7,5),(13,3),(10,3),(7,3),(4,3)])] [.cell 2 158] fun pre=>?_;repeat' first|exact zQ|with_reducible apply zJ<;>intro _|refine zK ?_
 refine Ac w.alts.length (fun k σ bx=>σ 1= .loc 1 1 0 0/\σ 2= .loc 2 1 0 0/\σ 3= .loc 3 1 0 0/\σ 4=I k/\bx 1=⟨1,1,5,123,[w.d]⟩/\bx 2=⟨1,1,4,158,[.agg [I 0,I 0,.str [],.aq]]⟩/\∃x,bx 3=⟨1,1,4,158,[.agg [I 3,I 0,.str [],x]]⟩/\aS bx [22] 158 4 x (((w.alts.take k).map aU.t).map aU.d)) ⟨by simp[go_sem],by simp[go_sem],by simp[go_sem],by simp[go_sem],by simp[aj],by simp[aj],.aq,by simp[aj],.nil _ _ _ _⟩ ?_ ?_
 ·rintro k σ bx hk ⟨s1,s2,s3,s4,b1,b2,x,b3,hv⟩;refine⟨bx,.inl rfl,?_⟩;obtain⟨y,hy⟩:∃y,w.alts[k]? =some y:=⟨_,gE hk⟩
  have c1:(k:Int)<(w.alts.length:Int):=oM;have w1:IntKind.i64.wrap ((k:Int)+1)=((k+1:Nat):Int):=aE oM;have hf:=hv.facts;have fV:((w.alts.take k).map aU.t).map aU.d++[(aU.t y).d]=((w.alts.take (k+1)).map aU.t).map aU.d:=by rw[List.take_add_one,hy];simp
  have fz:(((w.alts.take k).map aU.t).map aU.d).length<=w.alts.length:=by simp;omega
  replace fz:Hid _:=fz;repeat' first|exact zQ|with_reducible apply zJ<;>intro _|refine zK ?_
  refine app [22] hv (fun x' β aX=>?_) (by have:=fz.out;simp only[List.length_cons,List.length_nil];omega);have kK:=aX.facts;replace aX:aS β [22] 158 4 x' (((w.alts.take k).map aU.t).map aU.d++[(aU.t y).d]):=aX;rw[fV]at aX;clear fV;repeat' first|exact zQ|with_reducible apply zJ<;>intro _|refine zK ?_
  exact⟨x',rfl,aX.of fun t ht=>by simp at ht;subst ht;simp[aj,bc,dA]⟩
 ·rintro σ bx ⟨s1,s2,s3,s4,b1,b2,x,b3,hv⟩;rw[tL]at hv;obtain⟨r,r1,r2,r3⟩:=BI hv (lx _);have vV:∀q,q≠22->q∉bM [D.agg [I 3,I 0,.str [],x]]:=fun q h1 h2=>by
   simp[bM,Go.V.names]at h2;have:=aS.names hv q h2;simp at this;omega
  have ho:cY bx (bx 3).es=some [.agg [I 3,I 0,.str [],r]]:=by
   rw[b3];simp[go_sem,r3 bx (fun _ _=>rfl)]
  refine⟨_,.inr ⟨rfl,3,_,by rw[b3],ho,rfl⟩,?_⟩;have m1:=(wh (l:=[.agg [I 3,I 0,.str [],r]]) (bx:=bx) (s:=3) 1 (by decide) (by rw[b3];exact vV 1 (by decide))).trans b1;have m2:=(wh (l:=[.agg [I 3,I 0,.str [],r]]) (bx:=bx) (s:=3) 2 (by decide) (by rw[b3];exact vV 2 (by decide))).trans b2;have m3:=Ec (l:=[.agg [I 3,I 0,.str [],r]]) b3 (vV 3 (by decide));generalize Go.V.eI bx 3 [.agg [I 3,I 0,.str [],r]]=M at *;have c1:¬(w.alts.length:Int)<(w.alts.length:Int):=oM;clear b1 b2 b3 hv r3 ho vV;obtain⟨r2,r4,r5⟩:=r2;repeat' first|exact zQ|with_reducible apply zJ<;>intro _|refine zK ?_
  rw[Ey];refine gh (.cons (.refl _) (.cons (.refl _) (.cons (.refl _) (.cons ?_ .nil))));exact vn (ps:=[_,_,_,_]) (.cons (.refl _) (.cons (.refl _) (.cons (.refl _) (.cons r1 .nil))))
instance(h:bn):Ct 45 [h.d] (okW (c_ h)/\(cz h).length<=1099511620000) (aT (cz h)):=by
 refine bf f45 [(6,[(10,4),(10,3)]),(7,[(29,27),(29,23),(26,23),(29,19),(26,19),(22,19),(29,16),(26,16),(22,16),(18,16),(29,13),(26,13),(22,13),(18,13),(15,13),(29,10),(26,10),(22,10),(18,10),(15,10),(12,10),(29,8),(26,8),(22,8),(18,8),(15,8),(12,8),(9,8)])] [.tmp 2] fun pre=>?_;obtain⟨ho,hl⟩:=pre;obtain⟨n1,n2⟩:=zX h;have Hg:=yA h;have hft:ng (c_ h)/\e_ (c_ h)<=16:=⟨⟨ho,by unfold cz at hl;omega⟩,by omega⟩
 have sE:h.words.length<=1099511627776/\∀w∈h.words,w.alts.length<=1099511627776:=⟨by omega,fun w hw=>by have:=n2 w hw;omega⟩
 clear n1 n2 Hg ho hl;obtain⟨Ki,sE⟩:=sE;repeat' first|exact zQ|with_reducible apply zJ<;>intro _|refine zK ?_
 refine Ac h.words.length (fun k σ bx=>σ 1= .loc 1 1 0 0/\σ 4= .loc 4 1 0 0/\σ 3= .loc 3 1 0 0/\σ 5=I k/\bx 1=⟨1,1,8,48,[h.d]⟩/\bx 4=⟨1,1,4,44,[.agg [I h.kind,I h.lQ,I h.cut,.sl 5 (h.words.map Word.d)]]⟩/\∃x,bx 3=⟨1,1,4,158,[.agg [I 3,I 0,.str [],x]]⟩/\aS bx [28] 158 4 x (((h.words.take k).map cF).map aU.d)) ⟨by simp[go_sem],by simp[go_sem],by simp[go_sem],by simp[go_sem],by simp[aj],by simp[aj],.aq,by simp[aj],.nil _ _ _ _⟩ ?_ ?_
 ·rintro k σ bx hk ⟨s1,s2,s3,s4,b1,b2,x,b3,hv⟩;refine⟨bx,.inl rfl,?_⟩;obtain⟨y,hy⟩:∃y,h.words[k]? =some y:=⟨_,gE hk⟩
  have c1:(k:Int)<(h.words.length:Int):=oM;have hyw:=sE y (mG hy);have w1:IntKind.i64.wrap ((k:Int)+1)=((k+1:Nat):Int):=aE oM;have hf:=hv.facts;have fV:((h.words.take k).map cF).map aU.d++[(cF y).d]=((h.words.take (k+1)).map cF).map aU.d:=by rw[List.take_add_one,hy];simp
  have fz:(((h.words.take k).map cF).map aU.d).length<=h.words.length:=by simp;omega
  replace fz:Hid _:=fz;repeat' first|exact zQ|with_reducible apply zJ<;>intro _|refine zK ?_
  refine app [28] hv (fun x' β aX=>?_) (by have:=fz.out;simp only[List.length_cons,List.length_nil];omega);have kK:=aX.facts;replace aX:aS β [28] 158 4 x' (((h.words.take k).map cF).map aU.d++[(cF y).d]):=aX;rw[fV]at aX;clear fV;repeat' first|exact zQ|with_reducible apply zJ<;>intro _|refine zK ?_
  exact⟨x',rfl,aX.of fun t ht=>by simp at ht;subst ht;simp[aj,bc,dA]⟩
 ·rintro σ bx ⟨s1,s2,s3,s4,b1,b2,x,b3,hv⟩;rw[tL]at hv;obtain⟨r,r1,r2,r3⟩:=BI hv (lx _);have vV:∀q,q≠28->q∉bM [D.agg [I 3,I 0,.str [],x]]:=fun q h1 h2=>by
   simp[bM,Go.V.names]at h2;have:=aS.names hv q h2;simp at this;omega
  have ho:cY bx (bx 3).es=some [.agg [I 3,I 0,.str [],r]]:=by
   rw[b3];simp[go_sem,r3 bx (fun _ _=>rfl)]
  refine⟨_,.inr ⟨rfl,3,_,by rw[b3],ho,rfl⟩,?_⟩;have m1:=(wh (l:=[.agg [I 3,I 0,.str [],r]]) (bx:=bx) (s:=3) 1 (by decide) (by rw[b3];exact vV 1 (by decide))).trans b1;have m2:=(wh (l:=[.agg [I 3,I 0,.str [],r]]) (bx:=bx) (s:=3) 4 (by decide) (by rw[b3];exact vV 4 (by decide))).trans b2;have m3:=Ec (l:=[.agg [I 3,I 0,.str [],r]]) b3 (vV 3 (by decide));generalize Go.V.eI bx 3 [.agg [I 3,I 0,.str [],r]]=M at *;have c1:¬(h.words.length:Int)<(h.words.length:Int):=oM;clear b1 b2 b3 hv r3 ho vV;obtain⟨r2,r4,r5⟩:=r2;have hE:Ct 91 [(c_ h).d] (ng (c_ h)/\e_ (c_ h)<=16) (.aI [aT (cr (c_ h)),I 0]):=inferInstance;haveI:Ct 91 [.agg [I 3,I 0,.str [],.sl 4 [.agg [I 1,I h.at_,.str [],.sl 4 []],.agg [I 1,I h.src,.str [],.sl 4 []],.agg [I 1,I h.seq,.str [],.sl 4 []],.agg [I 1,I h.jX,.str [],.sl 4 []],.agg [I 1,I h.kind,.str [],.sl 4 []],.agg [I 1,I h.lQ,.str [],.sl 4 []],.agg [I 1,I h.cut,.str [],.sl 4 []],.agg [I 3,I 0,.str [],r]]]] True (.aI [aT (cz h),I 0]):=⟨fun _=>(hE.h hft).Ti (by
   rw[Hk];refine gh (.cons (.refl _) (.cons (.refl _) (.cons (.refl _) (.cons ?_ .nil))));exact vn (ps:=[_,_,_,_,_,_,_]) (.cons (.refl _) (.cons (.refl _) (.cons (.refl _) (.cons r1 .nil)))))⟩
  clear hE;repeat' first|exact zQ|with_reducible apply zJ<;>intro _|refine zK ?_
abbrev oG(h:bn):Prop:=okW (c_ h)/\(cz h).length<=1099511620000
instance(s:bg):Ct 56 [s.d] (s.heard.length<=1099511627776/\∀h∈s.heard,oG h) (.sl 1 ((s.heard.map cz).map aT)):=by
 refine bf f56 [(1000005,[])] [.tmp 2] fun pre=>?_;obtain⟨hl,hh⟩:=pre;have hL:Lm s.heard:=by simp[Lm];omega
 repeat' first|exact zQ|with_reducible apply zJ<;>intro _|refine zK ?_
 refine bW s.heard [(3,4),(6,21)] (h_ [5,21]) (fun j τ β=>τ 4=I j/\aS β [5,21] 71 1 (τ 3) (((s.heard.take j).map cz).map aT)) hL ⟨by simp[go_sem],by simpa[go_sem]using .inr ⟨5,1,by simp,rfl,rfl⟩⟩ (fun j y τ β hx hj hw hi=>?_) fun τ β hn hi=>?_
 ·obtain⟨iU,hv⟩:=hi;generalize v8:τ 3=x at *;have hf:=hv.facts;have hy:=hh y (mG hx);have fV:((s.heard.take j).map cz).map aT++[aT (cz y)]=((s.heard.take (j+1)).map cz).map aT:=by rw[List.take_add_one,hx];simp
  have fz:(((s.heard.take j).map cz).map aT).length<=s.heard.length:=by simp;omega
  replace fz:Hid _:=fz;clear hh;repeat' first|exact zQ|with_reducible apply zJ<;>intro _|refine zK ?_
  refine app [5,21] (hv.mix _) (fun x' β' aX=>?_) (by have:=fz.out;simp only[List.length_cons,List.length_nil];omega);have kK:=aX.facts;rw[fV]at aX;clear fV;repeat' first|exact zQ|with_reducible apply zJ<;>intro _|refine zK ?_
  exact aX.mix _
 ·obtain⟨iU,hv⟩:=hi;rw[tL]at hv;generalize v8:τ 3=x at *;have hf:=hv.facts;clear hh;repeat' first|exact zQ|with_reducible apply zJ<;>intro _|refine zK ?_
  exact vI (hv.mix _) rfl
def Ui(s:bg)(hl:s.heard.length<=1099511627776)(hh:∀h∈s.heard,oG h)(e0:Nat):zY prog 95 ⟨e0,1,15,33,[s.d]⟩ (s.heard.map fun h=>[aT (cz h)]) none 20:=by
 refine CE mixed (fn:=f95) (tab:=[]) ?_ rfl rfl ak;refine CF _ 18 rfl rfl rfl ak ?_;intro gs l e bx hk hz hb;change bx (gs+1)=⟨e,1,15,33,[s.d]⟩at hb;replace hh:Hid _:=hh;repeat' first|exact zQ|with_reducible apply zJ<;>intro _|refine zK ?_
 refine yt (0:Nat) (fun g=>s.heard.length - g) [(4,4),(8,17)] (fun g τ β=>τ 8=I g/\(β gs).sz=g/\(β gs).k=0/\β (gs+1)=⟨e,1,15,33,[s.d]⟩) ⟨by simp[go_sem],hz,hk,hb⟩ ?_;rintro k τ β ⟨h8,hz,hk,hb⟩;by_cases ar:k<s.heard.length
 ·obtain⟨y,hy⟩:∃y,s.heard[k]? =some y:=⟨_,gE ar⟩
  have hyo:=hh.out y (mG hy);have c1:(k:Int)<(s.heard.length:Int):=oM;clear hh;have w1:IntKind.i64.wrap ((k:Int)+1)=((k+1:Nat):Int):=aE oM;have n1:¬gs=gs+2+4:=oM;have n2:¬gs+1=gs+2+4:=oM;have n3:¬gs=gs+1:=oM;have n4:¬gs+1=gs:=oM;repeat' first|exact zQ|with_reducible apply zJ<;>intro _|refine zK ?_
  refine tp rfl sG (by simp[aj,hz,hy,n1]) fun bx1=>⟨?_,?_⟩
  ·repeat' first|exact zQ|with_reducible apply zJ<;>intro _|refine zK ?_
   exact⟨k+1,by omega,rfl,rfl⟩
  ·repeat' first|exact zQ|with_reducible apply zJ<;>intro _|refine zK ?_
   exact .inl trivial
 ·have c1:¬(k:Int)<(s.heard.length:Int):=oM;repeat' first|exact zQ|with_reducible apply zJ<;>intro _|refine zK ?_
  exact⟨by omega,.inl trivial⟩
def OU(s:bg)(bx:ae):bj prog 50 60 [s.d] bx (fun d bx'=>d= .fn (.func 95) [.loc 61 ((bx 61).ep+1) 0 0]/\bx'=aj bx 61 ⟨(bx 61).ep+1,1,15,33,[s.d]⟩) (fun _ _=>False):=by
 refine aK (fn:=f50) (tab:=[]) (base:=60) mixed ?_ rfl ak rfl;refine aL _ [.tmp 2] 4 rfl rfl rfl ak ?_;repeat' first|exact zQ|with_reducible apply zJ<;>intro _|refine zK ?_
def RG(bx bx':ae)(s:bg)(d:D):Prop:=aS bx' [91] 71 1 d ((s.heard.map cz).map aT)/\∀q,q<61->bx' q=bx q
def Yg(s:bg)(hl:s.heard.length<=1099511627776)(hh:∀h∈s.heard,oG h)(e:Nat)(bx:ae)(hb:bx 61=⟨e,1,15,33,[s.d]⟩):bj prog 94 80 [.aq,.fn (.func 95) [.loc 61 e 0 0]] bx
 (fun d bx'=>RG bx bx' s d) (fun _ _=>False):=by
 refine aK (fn:=f94) (tab:=[]) (base:=80) mixed ?_ rfl ak rfl;refine aL _ [.tmp 4] 13 rfl rfl rfl ak ?_;repeat' first|exact zQ|with_reducible apply zJ<;>intro _|refine zK ?_
 refine EF 95 61 e ⟨e,1,15,33,[s.d]⟩ _ none 20 (fun n bx'=>∃x,bx' 82=⟨(bx 82).ep+1,1,1,34,[x]⟩/\aS bx' [91] 71 1 x (((s.heard.take n).map cz).map aT)/\Hid (∀q,q<61->bx' q=bx q)) sG oM (by simp[go_sem,hb]) (Ui s hl hh e) ?_ ?_ ?_
 ·repeat' first|exact zQ|with_reducible apply zJ<;>intro _|refine zK ?_
  exact⟨_,rfl,.nil _ _ _ _,fun q hq=>by rw[if_pos oM,if_neg oM,if_neg oM]⟩
 ·intro n it bx1 hi ⟨x,G4,hv,hq⟩;rw[gM,mS]at hi;obtain⟨y,hy,rfl⟩:=hi;have hn:n<s.heard.length:=(gS.1 hy).1;rw[ky oM]at G4;replace hv:=hv.Az (fun t ht=>by simp at ht;omega);have iM:∀q,q<61->bx1 q=bx q:=fun q h=>by rw[<-hq.out q h,ky oM]
  replace iM:Hid _:=iM;clear hq hh;have hf:=hv.facts;have fV:((s.heard.take n).map cz).map aT++[aT (cz y)]=((s.heard.take (n+1)).map cz).map aT:=by rw[List.take_add_one,hy];simp
  have fz:(((s.heard.take n).map cz).map aT).length<=s.heard.length:=by simp;omega
  replace fz:Hid _:=fz;repeat' first|exact zQ|with_reducible apply zJ<;>intro _|refine zK ?_
  refine app [91] hv (fun x' β aX=>?_) (by have:=fz.out;simp only[List.length_cons,List.length_nil];omega);have hf:=aX.facts;rw[fV]at aX;clear fV;repeat' first|exact zQ|with_reducible apply zJ<;>intro _|refine zK ?_
  exact⟨fun s h1 h2=>by rw[if_neg oM,if_pos oM,if_neg oM],x',rfl,aX.of fun t ht=>by simp at ht;subst ht;simp[bU,aj,bc,dA],fun q h=>by rw[if_pos oM,if_neg oM,if_neg oM];exact iM.out q h⟩
 ·intro bx1 ⟨x,G4,hv,hq⟩;rw[ky oM]at G4;replace hv:=hv.Az (fun t ht=>by simp at ht;omega);have iM:∀q,q<61->bx1 q=bx q:=fun q h=>by rw[<-hq.out q h,ky oM]
  replace iM:Hid _:=iM;clear hq hh;rw[List.length_map,tL]at hv;have hf:=hv.facts;simp only[Eg];repeat' first|exact zQ|with_reducible apply zJ<;>intro _|refine zK ?_
  exact⟨hv,iM.out⟩
def Tt(s:bg)(hl:s.heard.length<=1099511627776)(hh:∀h∈s.heard,oG h)(e:Nat)(bx:ae)(hb:bx 61=⟨e,1,15,33,[s.d]⟩):bj prog 49 70 [.fn (.func 95) [.loc 61 e 0 0]] bx (fun d bx'=>RG bx bx' s d) (fun _ _=>False):=by
 refine aK (fn:=f49) (tab:=[]) (base:=70) mixed ?_ rfl ak rfl;refine aL _ [.tmp 2] 5 rfl rfl rfl ak ?_;repeat' first|exact zQ|with_reducible apply zJ<;>intro _|refine zK ?_
 refine aC (Yg s hl hh e bx hb) rfl fun d bx1 hq=>?_;have hf:=hq.1.facts;repeat' first|exact zQ|with_reducible apply zJ<;>intro _|refine zK ?_
@[reducible] def bG.d(p:bG):D:=.agg [I p.cn.sources,I p.cn.eG,I p.cn.chunk,I p.cn.quiet,I p.cn.late,I p.cn.qA,I p.cn.most,.sl 6 (p.cn.eK.map aW.d),.sl 8 (p.cn.eh.map Term.d),.sl 10 (p.cn.nZ.map cu.d),.sl 5 (p.cn.eF.map aP.d),.sl 7 (p.cn.lj.map bS.d),.sl 14 (p.cn.cx.map cM.d),.sl 4 (p.cn.eZ.map cj.d),.sl 8 (p.cn.heard.map bn.d),
 .sl 1 (p.cm.bJ.map aT),I p.cm.many,I p.cm.sync,.sl 1 (p.cg.a_.map aT),.sl 2 (p.cg.br.map bE.d),I p.cg.left,.bool p.cg.stop]
structure qi(p:bG):Prop where
 cn:St.fB p.cn
 hl:p.cn.heard.length<=1099511627776
 hh:∀h∈p.cn.heard,oG h
 ju:pK p.cm.bJ
 dk:okD p.cg
instance(s:bg)(n:Int):Ct 11 [s.d,I n] (St.fB s) (.aI [(jg s n).1.d,I (jg s n).2]):=by
 refine bf f11 [] [.cell 4 41,.tmp 5] fun pre=>?_;generalize hR:jg s n=R;have hlh:=pre.lh;by_cases h1:cd s=0
 rotate_left
 ·unfold jg at hR;rw[if_neg h1]at hR;subst hR;repeat' first|exact zQ|with_reducible apply zJ<;>intro _|refine zK ?_
  exact wk
 by_cases h2:s.heard.length=0
 rotate_left
 ·unfold jg at hR;rw[if_pos h1,if_neg h2]at hR;subst hR;have c:(0:Int)<(s.heard.length:Int):=oM;repeat' first|exact zQ|with_reducible apply zJ<;>intro _|refine zK ?_
  exact wk
 have c:¬(0:Int)<(s.heard.length:Int):=oM;unfold jg at hR;rw[if_pos h1,if_pos h2]at hR;by_cases hn:1<=n/\n<=4096
 rotate_left
 ·have hN:nG n=(d0,1):=by unfold nG;rw[if_neg hn]
  rw[hN,if_neg (by decide)]at hR;subst hR;repeat' first|exact zQ|with_reducible apply zJ<;>intro _|refine zK ?_
  exact wk
 have hN:nG n=(⟨List.replicate n.toNat dD,[],-1,false⟩,0):=by unfold nG;rw[if_pos hn]
 have p_:cO ⟨List.replicate n.toNat dD,[],-1,false⟩=true:=tt (by simp;omega) (fun b hb=>by obtain⟨_,rfl⟩:=List.mem_replicate.1 hb;exact rY) oM oM;have hO:cV ⟨List.replicate n.toNat dD,[],-1,false⟩=(⟨[],n,0⟩,0):=by
  unfold cV;rw[if_pos p_,if_neg sI,if_pos sI];simp only[zG,List.length_replicate,List.length_nil];rw[Int.toNat_of_nonneg oM];rfl
 have hk:okD ⟨List.replicate n.toNat dD,[],-1,false⟩:=⟨by simp[Lm];omega,by simp[Lm]⟩
 clear p_;generalize(⟨List.replicate n.toNat dD,[],-1,false⟩:bV)=dk at *;rw[hN]at hR;simp only[if_true,hO]at hR;subst hR;repeat' first|exact zQ|with_reducible apply zJ<;>intro _|refine zK ?_
 exact wk
section
variable (a b c d e f g:Int) (gr:List aW) (te:List Term) (ho:List cu) (bu:List aP) (tr:List bS) (vi:List cM) (vs:List cj) (he:List bn)
instance (priority:=low):Ct 34 [.agg [I a,I b,I c,I d,I e,I f,I g,.sl 6 (gr.map aW.d),.sl 8 (te.map Term.d),.sl 10 (ho.map cu.d),.sl 5 (bu.map aP.d),.sl 7 (tr.map bS.d),.sl 14 (vi.map cM.d),.sl 4 (vs.map cj.d),.sl 8 (he.map bn.d)]] (St.fB ⟨a,b,c,d,e,f,g,gr,te,ho,bu,tr,vi,vs,he⟩) (I (cd ⟨a,b,c,d,e,f,g,gr,te,ho,bu,tr,vi,vs,he⟩)):=by
 have key:∀s:bg,Ct 34 [s.d] (St.fB s) (I (cd s)):=fun s=>inferInstance;exact key ⟨a,b,c,d,e,f,g,gr,te,ho,bu,tr,vi,vs,he⟩
end
def Ub{d:bV}(h:(cV d).2=0):cO d=true/\d.stop=false/\d.br=[]/\cV d=(⟨b_ d.a_,d.a_.length,(b_ d.a_).length⟩,0):=by
 unfold cV at h⊢;by_cases h1:cO d=true
 ·rw[if_pos h1]at h⊢;by_cases h2:d.stop=true
  ·rw[if_pos h2]at h;cases h
  ·rw[if_neg h2]at h⊢;by_cases h3:d.br.length=0
   ·rw[if_pos h3];exact⟨h1,by simpa using h2,List.length_eq_zero_iff.1 h3,rfl⟩
   ·rw[if_neg h3]at h;cases h
 ·rw[if_neg h1]at h;cases h
def H6{d:bV}(h1:cO d=true)(h2:d.stop=false)(h3:d.br=[]):cV d=(⟨b_ d.a_,d.a_.length,(b_ d.a_).length⟩,0):=by
 unfold cV;rw[if_pos h1,if_neg (by simp[h2]),if_pos (by simp[h3])]
instance Ef(p:bG):Ct 16 [p.d] (qi p) (I (if iw p then 0 else 580)):=by
 obtain⟨s,⟨rs,M,y⟩,⟨S,W,L,st⟩⟩:=p;refine bf f16 [] [.tmp 2] fun pre=>?_;obtain⟨os,ol,oh,oj,od⟩:=pre;simp only at os ol oh oj od;generalize hR:(if iw ⟨s,⟨rs,M,y⟩,⟨S,W,L,st⟩⟩then 0 else 580:Int)=R;have no:∀(h:¬PG ⟨s,⟨rs,M,y⟩,⟨S,W,L,st⟩⟩),R=580:=fun h=>by rw[<-hR,if_neg (fun h2=>h ((eg _).1 h2))]
 by_cases h1:cd s=0
 rotate_left
 ·obtain rfl:=no fun h=>h1 h.cn;clear hR no;repeat' first|exact zQ|with_reducible apply zJ<;>intro _|refine zK ?_
 by_cases h2:ko ⟨rs,M,y⟩=true
 rotate_left
 ·obtain rfl:=no fun h=>h2 h.cm;clear hR no;repeat' first|exact zQ|with_reducible apply zJ<;>intro _|refine zK ?_
 by_cases h3:L= -1
 rotate_left
 ·obtain rfl:=no fun h=>h3 h.left;clear hR no;repeat' first|exact zQ|with_reducible apply zJ<;>intro _|refine zK ?_
 subst h3;replace hR:Hid _:=hR;replace no:Hid _:=no;repeat' first|exact zQ|with_reducible apply zJ<;>intro _|refine zK ?_
 refine aC (OU s _) rfl fun d bx1 hq=>?_;obtain⟨rfl,rfl⟩:=hq;repeat' first|exact zQ|with_reducible apply zJ<;>intro _|refine zK ?_
 refine wJ (Tt s ol oh _ _ (dC ..)) rfl (fun d bx1 hp=>?_) fun d bx1 hp=>hp.elim;obtain⟨p1,p2⟩:=hp;have hpu:D.aF ((s.heard.map cz).map aT)=true:=by rw[dB];simp[D.pure]
 obtain⟨r,o1,o2⟩:=p1.out hpu;refine⟨r,_,o1,o2,?_⟩;have k1:dX bx1 [d] 1=bx1 1:=by
  rw[eL,if_neg];intro hm;have:=aS.names p1 1 (by simpa[bM]using hm);simp at this
 have k2:=k1.trans (p2 1 (by decide));simp only[aj,reduceIte,Nat.reduceEqDiff]at k2;generalize dX bx1 [d]=B1 at *;clear p1 p2 k1 o1 o2 oh;generalize mL:s.heard.map cz=own at *;replace mL:Hid _:=mL;have Sw:Lm own:=by have:=congrArg List.length mL.out;simp at this;simp[Lm];omega
 by_cases h4:(cV ⟨S,W,-1,st⟩).2=0
 rotate_left
 ·obtain rfl:=no.out fun h=>h4 (by rw[H6 h.cg h.stop h.br]);clear hR no;repeat' first|exact zQ|with_reducible apply zJ<;>intro _|refine zK ?_
 obtain⟨d1,d2,d3,J1⟩:=Ub h4;obtain⟨s1,s2⟩:=(kG d1).1;simp only at s1 s2 d2 d3;have qe:=ui S;have ae0:Lm (b_ S):=by simp[Lm,b_];omega
 obtain⟨⟨m1,m2⟩,j3,j4,j5⟩:=kT h2;simp only at m1 m2 j3 j4 j5;have hrL:Lm rs:=by have:=lr rs;simp[Lm];omega
 have nk:Hid (b_ S=b_ S):=rfl;generalize SC:b_ S=rB at *;replace SC:Hid _:=SC;replace d1:Hid _:=d1;replace d2:Hid _:=d2;replace d3:Hid _:=d3;clear h4 nk qe;by_cases h5:(S.length:Int)=M
 rotate_left
 ·obtain rfl:=no.out fun h=>h5 h.many.symm;clear hR no;repeat' first|exact zQ|with_reducible apply zJ<;>intro _|refine zK ?_
 by_cases h6:own=rs
 rotate_left
 ·obtain rfl:=no.out fun h=>h6 (by rw[<-mL.out];exact h.bJ.symm);have hd:decide (own=rs)=false:=decide_eq_false h6;clear hR no h6;repeat' first|exact zQ|with_reducible apply zJ<;>intro _|refine zK ?_
 subst h6;have hd:decide (own=own)=true:=by simp
 have hyL:Lm (own.take y.toNat):=by simp[Lm]at Sw⊢;omega
 have hc:dV (own.map aT).length (none:Option Int) (some y)=some (0,y.toNat):=by simp[dV];omega
 by_cases h7:rB=own.take y.toNat
 rotate_left
 ·obtain rfl:=no.out fun h=>h7 (by rw[<-SC.out];exact h.read);have qD:decide (rB=own.take y.toNat)=false:=decide_eq_false h7;clear hR no h7;repeat' first|exact zQ|with_reducible apply zJ<;>intro _|refine zK ?_
 have qD:decide (rB=own.take y.toNat)=true:=decide_eq_true h7;have sr:PG ⟨s,⟨own,M,y⟩,⟨S,W,-1,st⟩⟩:=⟨h1,h2,d1.out,d2.out,d3.out,rfl,h5.symm,mL.out.symm,by rw[<-h7,<-SC.out]⟩
 obtain rfl:=hR.out.symm.trans (if_pos ((eg _).2 sr));clear hR no sr h7;repeat' first|exact zQ|with_reducible apply zJ<;>intro _|refine zK ?_
end Go.V.Jn
namespace Go.V.Jn
open Go.Proofs Go.Proofs.Tryz Go.RowKit Go.V.Lx Go.V.Gr Go.V.Ty Go.V.St
instance(p:bG):Ct 18 [p.d] (qi p) (.aI [(fh p).1.d,I (fh p).2]):=by
 obtain⟨s,⟨rs,M,y⟩,⟨S,W,L,st⟩⟩:=p;refine bf f18 [] [.cell 2 41,.tmp 3] fun pre=>?_;have hC:=(Ef ⟨s,⟨rs,M,y⟩,⟨S,W,L,st⟩⟩).h pre;obtain⟨os,ol,oh,oj,od⟩:=pre;simp only at os ol oh oj od;generalize hR:fh ⟨s,⟨rs,M,y⟩,⟨S,W,L,st⟩⟩=R;unfold fh at hR;by_cases h1:iw ⟨s,⟨rs,M,y⟩,⟨S,W,L,st⟩⟩=true
 rotate_left
 ·rw[if_neg h1]at hR hC;haveI:Ct 16 [bG.d ⟨s,⟨rs,M,y⟩,⟨S,W,L,st⟩⟩] True (I 580):=⟨fun _=>hC⟩
  subst hR;clear hC h1;repeat' first|exact zQ|with_reducible apply zJ<;>intro _|refine zK ?_
  exact wk
 rw[if_pos h1]at hR hC;haveI:Ct 16 [bG.d ⟨s,⟨rs,M,y⟩,⟨S,W,L,st⟩⟩] True (I 0):=⟨fun _=>hC⟩
 simp only at hR;have hJ:=Kt rs M y S W L st oj od;generalize hQ:ft ⟨rs,M,y⟩ ⟨S,W,L,st⟩=q at *;obtain⟨j',d',e'⟩:=q;haveI:Ct 58 [.agg [.sl 1 (rs.map aT),I M,I y],.agg [.sl 1 (S.map aT),.sl 2 (W.map bE.d),I L,.bool st]] True (.aI [j'.d,d'.d,I e']):=⟨fun _=>hJ⟩
 clear hC h1 hJ hQ;simp only at hR;by_cases he:e'=0
 ·rw[if_pos he]at hR;subst hR;subst he;repeat' first|exact zQ|with_reducible apply zJ<;>intro _|refine zK ?_
 ·rw[if_neg he]at hR;subst hR;repeat' first|exact zQ|with_reducible apply zJ<;>intro _|refine zK ?_
  exact wk
abbrev pz:D:=.agg [I 0,I 0,I 0,I 0,I 0,I 0,I 0,.aq,.aq,.aq,.aq,.aq,.aq,.aq,.aq,.aq,I 0,I 0,.aq,.aq,I 0,.bool false]
instance (priority:=low)(rs:List ah)(M y:Int)(b:ah):Ct 41 [.agg [.sl 1 (rs.map aT),I M,I y],aT b] (pK rs/\b.length<=1099511627776/\rs.length<=1048576) (.aI [(lK ⟨rs,M,y⟩ b).1.d,I (lK ⟨rs,M,y⟩ b).2]):=by
 have key:∀j:gy,Ct 41 [j.d,aT b] (pK j.bJ/\b.length<=1099511627776/\j.bJ.length<=1048576) (.aI [(lK j b).1.d,I (lK j b).2]):=fun j=>inferInstance;exact key ⟨rs,M,y⟩
instance(p:bG)(h:bn):Ct 13 [p.d,h.d] (qi p/\oG h/\St.fB (cb p.cn (p.cn.heard++[h]))/\(cz h).length<=1099511627776/\p.cm.bJ.length<=1048576) (.aI [(j7 p h).1.d,I (j7 p h).2]):=by
 obtain⟨s,⟨rs,M',y⟩,⟨S,W,L,st⟩⟩:=p;refine bf f13 [(4000005,[(0,2000000002)]),(4,[(6,5),(7,4),(6,4)]),(7,[(9,7)])] [.cell 4 41,.tmp 5] fun pre=>?_;obtain⟨pre,oh2,os2,ob,orl⟩:=pre;have hC:=(Ef ⟨s,⟨rs,M',y⟩,⟨S,W,L,st⟩⟩).h pre;obtain⟨os,ol,oh,oj,od⟩:=pre;simp only at os ol oh oj od os2 orl;generalize hR:j7 ⟨s,⟨rs,M',y⟩,⟨S,W,L,st⟩⟩ h=R;unfold j7 at hR;by_cases h1:iw ⟨s,⟨rs,M',y⟩,⟨S,W,L,st⟩⟩=true
 rotate_left
 ·rw[if_neg h1]at hR hC;haveI:Ct 16 [bG.d ⟨s,⟨rs,M',y⟩,⟨S,W,L,st⟩⟩] True (I 580):=⟨fun _=>hC⟩
  subst hR;clear hC h1;repeat' first|exact zQ|with_reducible apply zJ<;>intro _|refine zK ?_
  exact wk
 rw[if_pos h1]at hR hC;haveI:Ct 16 [bG.d ⟨s,⟨rs,M',y⟩,⟨S,W,L,st⟩⟩] True (I 0):=⟨fun _=>hC⟩
 simp only at hR;clear hC h1;have c5:((s.heard.map bn.d).length+[D.agg [I h.at_,I h.src,I h.seq,I h.jX,I h.kind,I h.lQ,I h.cut,.sl 5 (h.words.map Word.d)]].length) * 80<=140737488355328:=by simp;omega
 have WM:oH ⟨1,1,8,48,s.heard.map bn.d++[D.agg [I h.at_,I h.src,I h.seq,I h.jX,I h.kind,I h.lQ,I h.cut,.sl 5 (h.words.map Word.d)]]⟩ 1 8 0 (s.heard.length+1)=some (.sl 8 ((s.heard++[h]).map bn.d)):=by
  rw[show s.heard.map bn.d++[D.agg [I h.at_,I h.src,I h.seq,I h.jX,I h.kind,I h.lQ,I h.cut,.sl 5 (h.words.map Word.d)]]=(s.heard++[h]).map bn.d by simp];exact ej _ _ _ _ _ _ (by decide) sI (by rw[dB];simp[D.pure,D.aF,dB])
 repeat' first|exact zQ|with_reducible apply zJ<;>intro _|refine zK ?_
 generalize hM:Go.V.eI _ 2 _=M;have n2:M 2=⟨1,1,22,41,[bG.d ⟨cb s (s.heard++[h]),⟨rs,M',y⟩,⟨S,W,L,st⟩⟩]⟩:=by
  rw[<-hM];exact Ec (dC ..) (by simp[bM,Go.V.names])
 have n3:M 3=⟨1,1,8,48,[h.d]⟩:=by
  rw[<-hM,wh 3 (by decide) (by rw[dC];simp[bM,Go.V.names])];simp[aj]
 have n4:M 4=⟨1,1,22,41,[pz]⟩:=by
  rw[<-hM,wh 4 (by decide) (by rw[dC];simp[bM,Go.V.names])];simp[aj]
 clear hM WM c5;have hS:ao prog 34 [(cb s (s.heard++[h])).d] (I (cd (cb s (s.heard++[h])))):=by
  have key:Ct 34 [(cb s (s.heard++[h])).d] (St.fB (cb s (s.heard++[h]))) (I (cd (cb s (s.heard++[h])))):=inferInstance;exact key.h os2
 have hA:ao prog 41 [gy.d ⟨rs,M',y⟩,aT (cz h)] (.aI [(lK ⟨rs,M',y⟩ (cz h)).1.d,I (lK ⟨rs,M',y⟩ (cz h)).2]):=by
  have key:Ct 41 [gy.d ⟨rs,M',y⟩,aT (cz h)] (pK rs/\(cz h).length<=1099511627776/\rs.length<=1048576) (.aI [(lK ⟨rs,M',y⟩ (cz h)).1.d,I (lK ⟨rs,M',y⟩ (cz h)).2]):=inferInstance;exact key.h ⟨oj,ob,orl⟩
 generalize cd (cb s (s.heard++[h]))=e at *;generalize lK ⟨rs,M',y⟩ (cz h)=q at *;obtain⟨j',e2⟩:=q;simp only at hR hA;haveI:Ct 34 [(cb s (s.heard++[h])).d] True (I e):=⟨fun _=>hS⟩
 haveI:Ct 41 [gy.d ⟨rs,M',y⟩,aT (cz h)] True (.aI [j'.d,I e2]):=⟨fun _=>hA⟩
 clear hS hA;by_cases h2:e=0
 rotate_left
 ·rw[if_neg h2]at hR;subst hR;repeat' first|exact zQ|with_reducible apply zJ<;>intro _|refine zK ?_
  exact wk
 rw[if_pos h2]at hR;by_cases h3:e2=0
 ·rw[if_pos h3]at hR;subst hR;repeat' first|exact zQ|with_reducible apply zJ<;>intro _|refine zK ?_
 ·rw[if_neg h3]at hR;subst hR;repeat' first|exact zQ|with_reducible apply zJ<;>intro _|refine zK ?_
  exact wk
def xc{p:bG}(hp:PG p){n:Int}(h0:0<=n)(h1:n<=65536):((fQ p n).2=50/\cZ p n=(p0,50))\/
 ∃q:Nat,((fQ p n).2=0\/(fQ p n).2=40)/\q<=p.cn.heard.length/\okD (fQ p n).1/\cV (fQ p n).1=(⟨(p.cn.heard.take q).map cz,p.cm.many,q⟩,0)/\cZ p n=(⟨cb p.cn (p.cn.heard.take q),⟨(p.cn.heard.take q).map cz,p.cm.many,q⟩,(fQ p n).1⟩,0):=by
 rcases tf hp (n:=n) oM h1 with⟨f1,f2⟩|⟨S,q,L,st,f1,f2,f3,f4,f5,f6,f7,f8,f9,f10,f11⟩
 ·left;have:(fQ p n).2=50:=f1;refine⟨this,?_⟩;unfold cZ;rw[if_pos ((eg p).2 hp),if_pos ⟨h0,h1⟩,this,if_neg oM]
 ·right;have qe:p.cm.bJ.length=p.cn.heard.length:=by rw[hp.bJ,List.length_map]
  obtain⟨⟨d1,d2⟩,d3,d4,d5⟩:=kG hp.cg;have hL:(fQ p n).1=⟨S,[],-1,false⟩:=by unfold fQ;simp only[f1,kB]
  have hE:(fQ p n).2=0\/(fQ p n).2=40:=by
   unfold fQ;rcases f11 with h|h
   ·exact .inl h.1
   ·exact .inr h
  have p_:cO ⟨S,[],-1,false⟩=true:=tt oM f3 oM oM;have hO:cV (fQ p n).1=(⟨(p.cn.heard.take q).map cz,p.cm.many,q⟩,0):=by
   rw[hL,H6 p_ rfl rfl];simp only[f7,f2,hp.many,List.length_take,Nat.min_eq_left f6,List.map_take,hp.bJ];rw[Nat.min_eq_left (by rw[List.length_map];omega)]
  refine⟨q,hE,by omega,⟨by rw[hL];simp[Lm];omega,by rw[hL];simp[Lm]⟩,hO,?_⟩;unfold cZ;rw[if_pos ((eg p).2 hp),if_pos ⟨h0,h1⟩,if_pos hE,hO];simp only[List.length_map,List.length_take];rw[Nat.min_eq_left oM]
theorem WL.same:∀xs:List D,WL xs xs
 |[]=> .nil
 |_::xs=> .cons (.refl _) (WL.same xs)
instance(p:bG)(n:Int):Ct 20 [p.d,I n] (qi p) (.aI [(cZ p n).1.d,I (cZ p n).2]):=by
 obtain⟨s,⟨rs,M,y⟩,⟨S,W,L,st⟩⟩:=p;refine bf f20 [] [.cell 4 41,.tmp 5] fun pre=>?_;have hC:=(Ef ⟨s,⟨rs,M,y⟩,⟨S,W,L,st⟩⟩).h pre;obtain⟨os,ol,oh,oj,od⟩:=pre;simp only at os ol oh oj od;generalize hR:cZ ⟨s,⟨rs,M,y⟩,⟨S,W,L,st⟩⟩ n=R;by_cases h1:iw ⟨s,⟨rs,M,y⟩,⟨S,W,L,st⟩⟩=true
 rotate_left
 ·rw[if_neg h1]at hC;unfold cZ at hR;rw[if_neg h1]at hR;haveI:Ct 16 [bG.d ⟨s,⟨rs,M,y⟩,⟨S,W,L,st⟩⟩] True (I 580):=⟨fun _=>hC⟩
  subst hR;clear hC h1;repeat' first|exact zQ|with_reducible apply zJ<;>intro _|refine zK ?_
  exact wk
 rw[if_pos h1]at hC;haveI:Ct 16 [bG.d ⟨s,⟨rs,M,y⟩,⟨S,W,L,st⟩⟩] True (I 0):=⟨fun _=>hC⟩
 by_cases hn:0<=n/\n<=65536
 rotate_left
 ·unfold cZ at hR;rw[if_pos h1,if_neg hn]at hR;subst hR;clear hC h1;have Su:n<0\/(¬n<0/\(65536:Int)<n):=oM;rcases Su with c|⟨c,c2⟩
  all_goals
   repeat' first|exact zQ|with_reducible apply zJ<;>intro _|refine zK ?_
   exact wk
 have sr:=(eg _).1 h1;have bz:=sr.stop;have hW:=sr.br;simp only at bz hW;obtain⟨n1,n2⟩:=hn;have c1:¬n<0:=oM;have c2:¬(65536:Int)<n:=oM;have yM:=xc sr n1 n2;have CK:ao prog 60 [bV.d ⟨S,W,L,st⟩,I n] (.aI [bV.d ⟨S,W,n,st⟩,I 0]):=by
  have key:∀(d:bV) (n:Int),Ct 60 [d.d,I n] (okD d) (.aI [(mZ d n).1.d,I (mZ d n).2]):=fun d n=>inferInstance;have h2:=(key ⟨S,W,L,st⟩ n).h od;rwa[show mZ ⟨S,W,L,st⟩ n=(⟨S,W,n,st⟩,0) by unfold mZ j9;rw[sr.cg];subst bz;simp;omega]at h2
 have hJ:=Kt rs M y S W n st oj ⟨od.1,od.2⟩;unfold fQ at yM;simp only[uY]at yM;generalize hQ:ft ⟨rs,M,y⟩ ⟨S,W,n,st⟩=q at *;obtain⟨j',d',e'⟩:=q;simp only at yM;have hB:ao prog 61 [d'.d] (kB d').d:=by
  have key:∀d:bV,Ct 61 [d.d] True (kB d).d:=fun d=>inferInstance;exact(key d').h trivial
 haveI:Ct 60 [bV.d ⟨S,W,L,st⟩,I n] True (.aI [bV.d ⟨S,W,n,st⟩,I 0]):=⟨fun _=>CK⟩
 haveI:Ct 58 [.agg [.sl 1 (rs.map aT),I M,I y],.agg [.sl 1 (S.map aT),.sl 2 (W.map bE.d),I n,.bool st]] True (.aI [j'.d,d'.d,I e']):=⟨fun _=>hJ⟩
 have hO:=fun h:okD (kB d')=>(Xm (kB d')).h h;generalize kB d'=D2 at *;haveI:Ct 61 [d'.d] True D2.d:=⟨fun _=>hB⟩
 rw[hR]at yM;clear CK hJ hB hQ hC h1 sr bz hW hR;rcases yM with⟨rfl,rfl⟩|⟨q,he,hq,bC,J1,rfl⟩
 ·repeat' first|exact zQ|with_reducible apply zJ<;>intro _|refine zK ?_
  exact wk
 have hO:=hO bC;rw[J1]at hO;haveI:Ct 36 [D2.d] True (.aI [gy.d ⟨(s.heard.take q).map cz,M,q⟩,I 0]):=⟨fun _=>hO⟩
 clear hO J1;have sv:(s.heard.take q).length=q:=by simp;omega
 have bR:∀x∈s.heard.take q,oG x:=fun x hx=>oh x (List.mem_of_mem_take hx);generalize s.heard.take q=K at *;have tS:K.length<=1099511627776:=oM;clear oh hO bC;subst sv;rcases he with rfl|rfl;all_goals
  repeat' first|exact zQ|with_reducible apply zJ<;>intro _|refine zK ?_
  refine bW K [(5,5),(11,13),(74,94)] [(2,2),(12,12),(91,91)] (fun j τ β=>τ 74=I j/\∃x,β 2=⟨1,1,22,41,[.agg (I s.sources::I s.eG::I s.chunk::I s.quiet::I s.late::I s.qA::I s.most:: .sl 6 (s.eK.map aW.d):: .sl 8 (s.eh.map Term.d):: .sl 10 (s.nZ.map cu.d):: .sl 5 (s.eF.map aP.d):: .sl 7 (s.lj.map bS.d):: .sl 14 (s.cx.map cM.d):: .sl 4 (s.eZ.map cj.d)::x:: .sl 1 ((K.map cz).map aT)::I M::I (K.length:Int)::D2.l)]⟩/\aS β [91] 48 8 x ((K.take j).map bn.d)) (by simp[Lm];omega) ⟨by simp[go_sem],.aq,by simp[aj],.nil _ _ _ _⟩ (fun j x τ β hx hj hw hi=>?_) fun τ β hn hi=>?_
  ·obtain⟨h74,z,b2,hv⟩:=hi;have Fg:=bR x (mG hx);have hf:=hv.facts;have fV:(K.take j).map bn.d++[x.d]=(K.take (j+1)).map bn.d:=by rw[List.take_add_one,hx];simp
   have fz:((K.take j).map bn.d).length<=K.length:=by simp;omega
   replace fz:Hid _:=fz;repeat' first|exact zQ|with_reducible apply zJ<;>intro _|refine zK ?_
   refine app [91] (hv.of fun t ht=>by simp at ht;subst ht;simp[aj,bc,dA]) (fun x' β aX=>?_) (by have:=fz.out;simp only[List.length_cons,List.length_nil];omega);have kK:=aX.facts;replace aX:aS β [91] 48 8 x' ((K.take j).map bn.d++[x.d]):=aX;rw[fV]at aX;clear fV;repeat' first|exact zQ|with_reducible apply zJ<;>intro _|refine zK ?_
   exact⟨x',rfl,aX.of fun t ht=>by simp at ht;subst ht;simp[aj,bc,dA]⟩
  ·obtain⟨h74,z,b2,hv⟩:=hi;rw[tL]at hv;obtain⟨r,r1,⟨r2,r4,r5⟩,r3⟩:=BI hv (by rw[dB];simp[D.pure,D.aF,dB]);have hf:=hv.facts;repeat' first|exact zQ|with_reducible apply zJ<;>intro _|refine zK ?_
   rw[r3]
   rotate_left
   ·intro t ht;simp at ht;subst ht;simp[aj,bc,dA]
   clear r3 hv b2;repeat' first|exact zQ|with_reducible apply zJ<;>intro _|refine zK ?_
   refine vo (.cons (gh ?_) (.cons (.refl _) .nil));exact .cons (.refl _) (.cons (.refl _) (.cons (.refl _) (.cons (.refl _) (.cons (.refl _) (.cons (.refl _) (.cons (.refl _) (.cons (.refl _) (.cons (.refl _) (.cons (.refl _) (.cons (.refl _) (.cons (.refl _) (.cons (.refl _) (.cons (.refl _) (.cons r1 (WL.same _)))))))))))))))
section
variable (a b c d e f g:Int) (gr:List aW) (te:List Term) (ho:List cu) (bu:List aP) (tr:List bS) (vi:List cM) (vs:List cj) (he:List bn)
end
section
variable (S:List ah) (W:List bE) (L:Int) (st:Bool) (rs:List ah) (M y:Int)
end
instance X5(p:bG):Ct 17 [p.d] (qi p) (I (if iw p then 0 else 580)):=by
 obtain⟨s,⟨rs,M,y⟩,⟨S,W,L,st⟩⟩:=p;refine bf f17 [(4,[(6,3)]),(6,[(9,6),(9,3)])] [.tmp 2] fun pre=>?_;obtain⟨os,ol,oh,oj,od⟩:=pre;simp only at os ol oh oj od;generalize hR:(if iw ⟨s,⟨rs,M,y⟩,⟨S,W,L,st⟩⟩then 0 else 580:Int)=R;have no:∀(h:¬PG ⟨s,⟨rs,M,y⟩,⟨S,W,L,st⟩⟩),R=580:=fun h=>by rw[<-hR,if_neg (fun h2=>h ((eg _).1 h2))]
 by_cases h1:cd s=0
 rotate_left
 ·obtain rfl:=no fun h=>h1 h.cn;clear hR no;repeat' first|exact zQ|with_reducible apply zJ<;>intro _|refine zK ?_
 by_cases h2:ko ⟨rs,M,y⟩=true
 rotate_left
 ·obtain rfl:=no fun h=>h2 h.cm;clear hR no;repeat' first|exact zQ|with_reducible apply zJ<;>intro _|refine zK ?_
 by_cases h3:cO ⟨S,W,L,st⟩=true
 rotate_left
 ·obtain rfl:=no fun h=>h3 h.cg;clear hR no;repeat' first|exact zQ|with_reducible apply zJ<;>intro _|refine zK ?_
 have nk:=ui S;obtain⟨⟨s1,s2⟩,s3,s4,s5⟩:=kG h3;simp only at s1 s2 s3 s4 s5;have Sw:A6 S:=⟨by omega,s3⟩
 have ae0:Lm (b_ S):=by simp[Lm,b_];omega
 obtain⟨⟨m1,m2⟩,j3,j4,j5⟩:=kT h2;simp only at m1 m2 j3 j4 j5;have hrL:Lm rs:=by have:=lr rs;simp[Lm];omega
 have hyL:Lm (rs.take y.toNat):=by simp[Lm]at hrL⊢;omega
 clear s3 s4 s5 nk;replace hR:Hid _:=hR;replace no:Hid _:=no;by_cases h4:st=true
 ·obtain rfl:=no.out fun h=>by have:=h.stop;simp[h4]at this
  subst h4;clear hR no;repeat' first|exact zQ|with_reducible apply zJ<;>intro _|refine zK ?_
 have h4:st=false:=by simpa using h4
 subst h4;by_cases h5:W.length=0
 rotate_left
 ·obtain rfl:=no.out fun h=>h5 (by have:=h.br;simp only at this;rw[this];rfl);have c:(0:Int)<(W.length:Int):=oM;clear hR no;repeat' first|exact zQ|with_reducible apply zJ<;>intro _|refine zK ?_
 have c:¬(0:Int)<(W.length:Int):=oM;have h5:Hid (W=[]):=List.length_eq_zero_iff.1 h5;by_cases h6:L= -1
 rotate_left
 ·obtain rfl:=no.out fun h=>h6 h.left;clear hR no;repeat' first|exact zQ|with_reducible apply zJ<;>intro _|refine zK ?_
 subst h6;by_cases h7:(S.length:Int)=M
 rotate_left
 ·obtain rfl:=no.out fun h=>h7 h.many.symm;clear hR no;repeat' first|exact zQ|with_reducible apply zJ<;>intro _|refine zK ?_
 subst h7;have hsL:s.heard.length<=1099511627776/\∀h∈s.heard,oG h:=⟨ol,oh⟩
 replace oh:Hid _:=oh;have hoL2:Lm (s.heard.map cz):=by simp[Lm];omega
 by_cases h8:rs=s.heard.map cz
 rotate_left
 ·obtain rfl:=no.out fun h=>h8 h.bJ;have hd:decide (rs=s.heard.map cz)=false:=decide_eq_false h8;clear hR no h8;repeat' first|exact zQ|with_reducible apply zJ<;>intro _|refine zK ?_
 have hd:decide (rs=s.heard.map cz)=true:=decide_eq_true h8;replace h8:Hid _:=h8;by_cases h9:b_ S=rs.take y.toNat
 rotate_left
 ·obtain rfl:=no.out fun h=>h9 h.read;have qD:decide (b_ S=rs.take y.toNat)=false:=decide_eq_false h9;have hc:dV (rs.map aT).length (none:Option Int) (some y)=some (0,y.toNat):=by simp[dV];omega
  clear hR no h9;repeat' first|exact zQ|with_reducible apply zJ<;>intro _|refine zK ?_
 have qD:decide (b_ S=rs.take y.toNat)=true:=decide_eq_true h9;have sr:PG ⟨s,⟨rs,S.length,y⟩,⟨S,W,-1,false⟩⟩:=⟨h1,h2,h3,rfl,h5.out,rfl,rfl,h8.out,h9⟩
 obtain rfl:=hR.out.symm.trans (if_pos ((eg _).2 sr));have hc:dV (rs.map aT).length (none:Option Int) (some y)=some (0,y.toNat):=by simp[dV];omega
 clear hR no sr h9;repeat' first|exact zQ|with_reducible apply zJ<;>intro _|refine zK ?_
instance(p:bG):Ct 19 [p.d] (qi p) (.aI [(fh p).1.d,I (fh p).2]):=by
 obtain⟨s,⟨rs,M,y⟩,⟨S,W,L,st⟩⟩:=p;refine bf f19 [] [.cell 2 41,.tmp 3] fun pre=>?_;have hC:=(X5 ⟨s,⟨rs,M,y⟩,⟨S,W,L,st⟩⟩).h pre;obtain⟨os,ol,oh,oj,od⟩:=pre;simp only at os ol oh oj od;generalize hR:fh ⟨s,⟨rs,M,y⟩,⟨S,W,L,st⟩⟩=R;unfold fh at hR;by_cases h1:iw ⟨s,⟨rs,M,y⟩,⟨S,W,L,st⟩⟩=true
 rotate_left
 ·rw[if_neg h1]at hR hC;haveI:Ct 17 [bG.d ⟨s,⟨rs,M,y⟩,⟨S,W,L,st⟩⟩] True (I 580):=⟨fun _=>hC⟩
  subst hR;clear hC h1;repeat' first|exact zQ|with_reducible apply zJ<;>intro _|refine zK ?_
  exact wk
 rw[if_pos h1]at hR hC;haveI:Ct 17 [bG.d ⟨s,⟨rs,M,y⟩,⟨S,W,L,st⟩⟩] True (I 0):=⟨fun _=>hC⟩
 simp only at hR;have hJ:=KM rs M y S W L st oj od;generalize hQ:ft ⟨rs,M,y⟩ ⟨S,W,L,st⟩=q at *;obtain⟨j',d',e'⟩:=q;haveI:Ct 59 [.agg [.sl 1 (rs.map aT),I M,I y],.agg [.sl 1 (S.map aT),.sl 2 (W.map bE.d),I L,.bool st]] True (.aI [j'.d,d'.d,I e']):=⟨fun _=>hJ⟩
 clear hC h1 hJ hQ;simp only at hR;by_cases he:e'=0
 ·rw[if_pos he]at hR;subst hR;subst he;repeat' first|exact zQ|with_reducible apply zJ<;>intro _|refine zK ?_
 ·rw[if_neg he]at hR;subst hR;repeat' first|exact zQ|with_reducible apply zJ<;>intro _|refine zK ?_
  exact wk
end Go.V.Jn
namespace Go.V.Jn
open Go.Proofs Go.Proofs.Tryz Go.RowKit Go.V.Lx Go.V.Gr Go.V.Ty Go.V.St
instance(s:bg)(l:List D):Ct 43 [s.d,.sl 8 l] True (.agg [I s.sources,I s.eG,I s.chunk,I s.quiet,I s.late,I s.qA,I s.most,.sl 6 (s.eK.map aW.d),.sl 8 (s.eh.map Term.d),.sl 10 (s.nZ.map cu.d),.sl 5 (s.eF.map aP.d),.sl 7 (s.lj.map bS.d),.sl 14 (s.cx.map cM.d),.sl 4 (s.eZ.map cj.d),.sl 8 l]):=by
 refine bf f43 [] [.cell 4 33] fun pre=>?_;repeat' first|exact zQ|with_reducible apply zJ<;>intro _|refine zK ?_
instance(p:bG)(n:Int):Ct 21 [p.d,I n] (qi p) (.aI [(cZ p n).1.d,I (cZ p n).2]):=by
 obtain⟨s,⟨rs,M,y⟩,⟨S,W,L,st⟩⟩:=p;refine bf f21 [(11,[(5,4),(5,3)])] [.cell 4 41,.tmp 5] fun pre=>?_;have hC:=(X5 ⟨s,⟨rs,M,y⟩,⟨S,W,L,st⟩⟩).h pre;obtain⟨os,ol,oh,oj,od⟩:=pre;simp only at os ol oh oj od;generalize hR:cZ ⟨s,⟨rs,M,y⟩,⟨S,W,L,st⟩⟩ n=R;by_cases h1:iw ⟨s,⟨rs,M,y⟩,⟨S,W,L,st⟩⟩=true
 rotate_left
 ·rw[if_neg h1]at hC;unfold cZ at hR;rw[if_neg h1]at hR;haveI:Ct 17 [bG.d ⟨s,⟨rs,M,y⟩,⟨S,W,L,st⟩⟩] True (I 580):=⟨fun _=>hC⟩
  subst hR;clear hC h1;repeat' first|exact zQ|with_reducible apply zJ<;>intro _|refine zK ?_
  exact wk
 rw[if_pos h1]at hC;haveI:Ct 17 [bG.d ⟨s,⟨rs,M,y⟩,⟨S,W,L,st⟩⟩] True (I 0):=⟨fun _=>hC⟩
 by_cases hn:0<=n/\n<=65536
 rotate_left
 ·unfold cZ at hR;rw[if_pos h1,if_neg hn]at hR;subst hR;clear hC h1;have Su:n<0\/(¬n<0/\(65536:Int)<n):=oM;rcases Su with c|⟨c,c2⟩
  all_goals
   repeat' first|exact zQ|with_reducible apply zJ<;>intro _|refine zK ?_
   exact wk
 have sr:=(eg _).1 h1;have bz:=sr.stop;simp only at bz;obtain⟨n1,n2⟩:=hn;have c1:¬n<0:=oM;have c2:¬(65536:Int)<n:=oM;have yM:=xc sr n1 n2;have CK:ao prog 63 [bV.d ⟨S,W,L,st⟩,I n] (.aI [bV.d ⟨S,W,n,st⟩,I 0]):=by
  have key:∀(d:bV) (n:Int),Ct 63 [d.d,I n] (okD d) (.aI [(mZ d n).1.d,I (mZ d n).2]):=fun d n=>inferInstance;have h2:=(key ⟨S,W,L,st⟩ n).h od;rwa[show mZ ⟨S,W,L,st⟩ n=(⟨S,W,n,st⟩,0) by unfold mZ j9;rw[sr.cg];subst bz;simp;omega]at h2
 have hJ:=KM rs M y S W n st oj ⟨od.1,od.2⟩;unfold fQ at yM;simp only[uY]at yM;generalize hQ:ft ⟨rs,M,y⟩ ⟨S,W,n,st⟩=q at *;obtain⟨j',d',e'⟩:=q;simp only at yM;have hB:ao prog 64 [d'.d] (kB d').d:=by
  have key:∀d:bV,Ct 64 [d.d] True (kB d).d:=fun d=>inferInstance;exact(key d').h trivial
 haveI:Ct 63 [bV.d ⟨S,W,L,st⟩,I n] True (.aI [bV.d ⟨S,W,n,st⟩,I 0]):=⟨fun _=>CK⟩
 haveI:Ct 59 [.agg [.sl 1 (rs.map aT),I M,I y],.agg [.sl 1 (S.map aT),.sl 2 (W.map bE.d),I n,.bool st]] True (.aI [j'.d,d'.d,I e']):=⟨fun _=>hJ⟩
 have hO:∀h:okD (kB d'),ao prog 39 [(kB d').d] (.aI [(cV (kB d')).1.d,I (cV (kB d')).2]):=fun h=>by
  have key:∀d:bV,Ct 39 [d.d] (okD d) (.aI [(cV d).1.d,I (cV d).2]):=fun d=>inferInstance;exact(key _).h h
 generalize kB d'=D2 at *;haveI:Ct 64 [d'.d] True D2.d:=⟨fun _=>hB⟩
 rw[hR]at yM;clear CK hJ hB hQ hC h1 sr bz hR;rcases yM with⟨rfl,rfl⟩|⟨q,he,hq,bC,J1,rfl⟩
 ·repeat' first|exact zQ|with_reducible apply zJ<;>intro _|refine zK ?_
  exact wk
 have hO:=hO bC;rw[J1]at hO;have sv:((s.heard.take q).map cz).length=q:=by simp;omega
 have hc:dV (s.heard.map bn.d).length (none:Option Int) (some (q:Int))=some (0,q):=by simp[dV];omega
 have hkm:List.take q (s.heard.map bn.d)=(s.heard.take q).map bn.d:=by rw[List.map_take]
 generalize hK:(s.heard.take q).map cz=K at *;haveI:Ct 39 [D2.d] True (.aI [gy.d ⟨K,M,q⟩,I 0]):=⟨fun _=>hO⟩
 clear hO J1 oh bC;replace hK:Hid _:=hK;rcases he with rfl|rfl;all_goals
  repeat' first|exact zQ|with_reducible apply zJ<;>intro _|refine zK ?_
def D0{P:Program}{C:Calc}{Q:DX->Env->ae->Prop}{σ:Env}{bx:ae}{c:Code}{α:Type}(l:List α)(n:Nat)(N:Int)(hN:N=n){p:α->Bool}{A:Bool}(hA:(l.take n).all p=A)(i:Nat)(M MB:List (Nat×Nat))(hl:Lm l)(h0:σ i= .int .i64 0)
 (hb:∀(j:Nat) x τ β,l[j]? =some x->(j:Int)<(l.length:Int)->(j:Int)<N->IntKind.i64.wrap ((j:Int)+1)=((j+1:Nat):Int)->τ i= .int .i64 j->Hid (p x=false->A=false)->
  cD P C c (dM (LN M MB σ bx fun τ' _=>τ' i= .int .i64 ((j+1:Nat):Int)/\p x=true) Q) (bc M τ σ) (bc MB β bx))
 (he:∀τ β (m:Nat),(¬(m:Int)<(l.length:Int))\/(m:Int)<(l.length:Int)/\¬(m:Int)<N->τ i= .int .i64 m->A=true->cD P C c (dM (fun _ _=>False) Q) (bc M τ σ) (bc MB β bx)):cD P C (.loop c) Q σ bx:=by
 have Hp:(l.take n).length=min n l.length:=List.length_take;refine gR (l.take n) hA i M MB (by simp[Lm]at hl⊢;omega) h0 (fun j x τ β hx h1 h2 hi aQ=>?_) fun τ β hn hi ha=>?_
 ·have hj:j<(l.take n).length:=(gS.1 hx).1;rw[List.getElem?_take_of_lt oM]at hx;exact hb j x τ β hx oM oM h2 hi aQ
 ·exact he τ β _ (by rw[Hp];omega) hi ha
def VF(x:Word):Bool:= !(decide ((10:Int)<(x.alts.length:Int))||decide ((200:Int)<(x.t.length:Int)))
def F8(l:List Word):Bool:= !(decide ((80:Int)<(l.length:Int))&&decide ((l.length:Int)<=4096)||decide ((5000:Int)<(l.length:Int)))&&(l.take 100).all VF
instance(l:List Word):Ct 33 [.sl 5 (l.map Word.d)] (Lm l) (.bool (F8 l)):=by
 refine bf f33 [] [.tmp 2] fun pre=>?_;unfold F8;generalize hA:List.all _ _=A;repeat' first|exact zQ|with_reducible apply zJ<;>intro _|refine zK ?_
 all_goals first|exact ab (congrArg D.bool (by simp[*];done))|skip
 all_goals refine D0 l 100 100 rfl hA 3 [(2,3),(17,42)] [] pre sG (fun j x τ β hx hj yU hw hi aQ=>?_) fun τ β m hn hi ha=>?_
 all_goals first
  |(
   unfold VF at aQ⊢;repeat' first|exact zQ|with_reducible apply zJ<;>intro _|refine zK ?_
   all_goals first|with_reducible exact .refl _|(refine ab ?_;have aQ:=aQ.out zz;simp[*];done)|((try refine ab ?_);exact zz)
   done)
  |(rcases hn with hn|⟨hn,sB⟩<;>
   (
    repeat' first|exact zQ|with_reducible apply zJ<;>intro _|refine zK ?_
    all_goals first|with_reducible exact .refl _|(refine ab ?_;have aQ:=aQ.out zz;simp[*];done)|((try refine ab ?_);exact zz)))
def R5(x:Sign):Bool:= !(decide ((40:Int)<(x.t.length:Int))||decide ((10:Int)<(x.c.length:Int)))
def Ll(v:cM):Bool:= !(decide ((20:Int)<(v.jw.gs.length:Int))||decide ((20:Int)<(v.jw.ks.length:Int))||decide ((70:Int)<(v.iJ.length:Int))||decide ((40:Int)<(v.jW.bl.length:Int)))
def VE(v:cM):Bool:=Ll v&&v.iJ.all R5
def F7(l:List cM):Bool:= !(decide ((4:Int)<(l.length:Int))&&decide ((l.length:Int)<=4096)||decide ((4200:Int)<(l.length:Int)))&&(l.take 10).all VE
instance(l:List cM):Ct 29 [.sl 14 (l.map cM.d)] (Lm l) (.bool (F7 l)):=by
 refine bf f29 [] [.tmp 2] fun pre=>?_;unfold F7;generalize hA:List.all _ _=A;repeat' first|exact zQ|with_reducible apply zJ<;>intro _|refine zK ?_
 all_goals first|exact ab (congrArg D.bool (by simp[*];done))|skip
 all_goals refine D0 l 10 10 rfl hA 3 [(2,5),(19,82)] [(4,4)] pre sG (fun j x τ β hx hj yU hw hi aQ=>?_) fun τ β m hn hi ha=>?_
 all_goals first
  |(rcases hn with hn|⟨hn,sB⟩<;>
   (
    repeat' first|exact zQ|with_reducible apply zJ<;>intro _|refine zK ?_
    all_goals first|with_reducible exact .refl _|(refine ab ?_;have aQ:=aQ.out zz;simp[*];done)|((try refine ab ?_);exact zz)
    done))
  |skip
 all_goals
  unfold VE at aQ⊢;generalize hB:List.all x.iJ _=B at *;have xU:Ll x= !(decide ((20:Int)<(x.jw.gs.length:Int))||decide ((20:Int)<(x.jw.ks.length:Int))||decide ((70:Int)<(x.iJ.length:Int))||decide ((40:Int)<(x.jW.bl.length:Int))):=rfl;generalize Ll x=F at *;replace xU:Hid _:=xU;repeat' first|exact zQ|with_reducible apply zJ<;>intro _|refine zK ?_
  all_goals first
   |(have aQ:=aQ.out (by rw[xU.out];simp[*]);exact ab (congrArg D.bool (by simp[*];done)))
   |skip
  all_goals
   refine gR x.iJ hB 5 [(2,2),(5,5),(58,82)] [] (by simp[Lm];omega) sG (fun k y τ' β' hy hk hZ fU QK=>?_) fun τ' β' sB fU qC=>?_
   ·unfold R5 at QK⊢;have QL:(!(decide ((40:Int)<(y.t.length:Int))||decide ((10:Int)<(y.c.length:Int))))=false->A=false:=fun h=>aQ.out (by rw[QK.out h];simp);replace QL:Hid _:=QL;clear aQ QK xU;repeat' first|exact zQ|with_reducible apply zJ<;>intro _|refine zK ?_
    all_goals first
     |(have aQ:=QL.out (by simp[*]);exact ab (congrArg D.bool (by simp[*];done)))
     |rfl
   ·have hF:F=true:=by rw[xU.out];simp[*]
    clear xU aQ;repeat' first|exact zQ|with_reducible apply zJ<;>intro _|refine zK ?_
    all_goals exact ab (congrArg D.bool (by simp[*];done))
instance(l:List Word)(a b c d e:Int):Ct 10 [.agg [I a,I b,I c,I d,I e,.sl 5 (l.map Word.d)]] (Lm l) (.bool (F8 l)):=by
 refine bf f10 [] [.tmp 2] fun pre=>?_;repeat' first|exact zQ|with_reducible apply zJ<;>intro _|refine zK ?_
def F6(l:List Term):Bool:=decide ((l.length:Int)<=30)||decide ((1024:Int)<(l.length:Int))&&decide ((l.length:Int)<=1100)
instance(l:List Term):Ct 31 [.sl 8 (l.map Term.d)] (Lm l) (.bool (F6 l)):=by
 refine bf f31 [] [.tmp 2] fun pre=>?_;unfold F6;repeat' first|exact zQ|with_reducible apply zJ<;>intro _|refine zK ?_
 all_goals first|with_reducible exact .refl _|(refine ab ?_;have aQ:=aQ.out zz;simp[*];done)|((try refine ab ?_);exact zz)
def r8:Int->List Nat->Int
 |v,[]=>v
 |v,x::l=>if v<=9000 then r8 (v+1+x) l else v
theorem JM{v:Int}(h:¬v<=9000):∀l:List Nat,r8 v l=v
 |[]=>rfl
 |_::_=>if_neg h
def Lj(d:bV):Bool:=decide (r8 (r8 0 (d.a_.map List.length)) (d.br.map fun w=>w.data.length)<=9000)
instance ZJ(d:bV):Ct 32 [d.d] (okD d/\(∀b∈d.a_,b.length<=1099511627776)/\∀w∈d.br,w.data.length<=1099511627776) (.bool (Lj d)):=by
 refine bf f32 [] [.tmp 2] fun pre=>?_;obtain⟨⟨p1,p2⟩,p3,p4⟩:=pre;unfold Lj;generalize hA:r8 0 _=A;replace p3:Hid _:=p3;replace p4:Hid _:=p4;repeat' first|exact zQ|with_reducible apply zJ<;>intro _|refine zK ?_
 refine rF (0:Nat) (fun g=>d.a_.length - g) [(3,4),(6,25)] [] (fun g τ β=>τ 4=I g/\g<=d.a_.length/\∃v:Int,τ 3=I v/\0<=v/\v<=2199023255552/\r8 v ((d.a_.map List.length).drop g)=A) ⟨by simp[go_sem],by omega,0,by simp[go_sem],by omega,by omega,by simpa using hA⟩ fun g τ β hi=>?_;obtain⟨h4,hg,v,h3,v8,im,hv⟩:=hi;have eW:((g:Int)<d.a_.length/\v<=9000)\/((¬(g:Int)<d.a_.length\/(g:Int)<d.a_.length/\¬v<=9000)/\v=A):=by
  by_cases c:(g:Int)<d.a_.length
  ·by_cases cv:v<=9000
   ·exact .inl ⟨c,cv⟩
   ·exact .inr ⟨.inr ⟨c,cv⟩,by rw[<-hv,JM cv]⟩
  ·exact .inr ⟨.inl c,by rw[<-hv,List.drop_of_length_le (by rw[List.length_map];omega)];rfl⟩
 rcases eW with⟨c,cv⟩|⟨hx,hvA⟩
 ·obtain⟨x,hx⟩:∃x,d.a_[g]? =some x:=⟨_,gE oM⟩
  have lA:=p3.out x (mG hx);have hn:r8 (v+1+x.length) ((d.a_.map List.length).drop (g+1))=A:=by
   rw[List.drop_eq_getElem_cons (by rw[List.length_map];omega)]at hv;have:(d.a_.map List.length)[g]'(by rw[List.length_map];omega)=x.length:=by rw[List.getElem_map];congr 1;exact(gS.1 hx).2
   rw[this]at hv;rw[<-hv,r8,if_pos cv]
  have w1:IntKind.i64.wrap (v+1)=v+1:=gp _ oM oM;have w2:IntKind.i64.wrap (v+1+x.length)=v+1+x.length:=gp _ oM oM;have w3:IntKind.i64.wrap ((g:Int)+1)=((g+1:Nat):Int):=aE oM;replace hn:Hid _:=hn;clear hv;repeat' first|exact zQ|with_reducible apply zJ<;>intro _|refine zK ?_
  exact⟨g+1,by omega,rfl,by omega,_,rfl,by omega,by omega,hn.out⟩
 ·clear hv;subst hvA;rcases hx with c|⟨c,cv⟩
  all_goals
   generalize hB:r8 v _=B;repeat' first|exact zQ|with_reducible apply zJ<;>intro _|refine zK ?_
   refine rF (0:Nat) (fun g=>d.br.length - g) [(3,3),(5,5),(26,46)] [] (fun g τ β=>τ 5=I g/\g<=d.br.length/\∃v:Int,τ 3=I v/\0<=v/\v<=2199023255552/\r8 v ((d.br.map fun w=>w.data.length).drop g)=B) ⟨by simp[go_sem],by omega,v,by simp[go_sem,h3],by omega,by omega,by simpa using hB⟩ fun k τ' β' fU=>?_;obtain⟨i4,ig,u,i3,iv0,iv1,iv⟩:=fU;have eW:((k:Int)<d.br.length/\u<=9000)\/((¬(k:Int)<d.br.length\/(k:Int)<d.br.length/\¬u<=9000)/\u=B):=by
    by_cases c:(k:Int)<d.br.length
    ·by_cases cv:u<=9000
     ·exact .inl ⟨c,cv⟩
     ·exact .inr ⟨.inr ⟨c,cv⟩,by rw[<-iv,JM cv]⟩
    ·exact .inr ⟨.inl c,by rw[<-iv,List.drop_of_length_le (by rw[List.length_map];omega)];rfl⟩
   clear hB;rcases eW with⟨c2,cv2⟩|⟨eO,hvB⟩
   ·obtain⟨x,hx⟩:∃x,d.br[k]? =some x:=⟨_,gE oM⟩
    have lA:=p4.out x (mG hx);have hn:r8 (u+1+x.data.length) ((d.br.map fun w=>w.data.length).drop (k+1))=B:=by
     rw[List.drop_eq_getElem_cons (by rw[List.length_map];omega)]at iv;have:(d.br.map fun w=>w.data.length)[k]'(by rw[List.length_map];omega)=x.data.length:=by rw[List.getElem_map,(gS.1 hx).2]
     rw[this]at iv;rw[<-iv,r8,if_pos cv2]
    have w1:IntKind.i64.wrap (u+1)=u+1:=gp _ oM oM;have w2:IntKind.i64.wrap (u+1+x.data.length)=u+1+x.data.length:=gp _ oM oM;have w3:IntKind.i64.wrap ((k:Int)+1)=((k+1:Nat):Int):=aE oM;replace hn:Hid _:=hn;clear iv;repeat' first|exact zQ|with_reducible apply zJ<;>intro _|refine zK ?_
    exact⟨k+1,by omega,rfl,by omega,_,rfl,by omega,by omega,hn.out⟩
   ·clear iv;subst hvB;rcases eO with c2|⟨c2,cv2⟩<;>repeat' first|exact zQ|with_reducible apply zJ<;>intro _|refine zK ?_
def SN{T G:Prop}(main:(Unit->T)->G)(pf:T):G:=main fun _=>pf
def O4{g:aW}(h:mP g):Sz g:=⟨h.Bm,h.Bp,h.zH,fun x hx=>(h.ew x hx).len,fun x hx=>⟨(h.rules x hx).xm,(h.rules x hx).Lr⟩⟩
attribute [local go_sem] aW.d
instance(g:aW):Ct 30 [.agg [.str g.name,strs g.au,.str g.start,I g.no,.sl 5 (g.entries.map Entry.d),.sl 5 (g.rules.map aH.d)]] (mP g) (.bool (tO g)):=⟨fun h=>ZL g (O4 h) h.name h.start⟩
def P7(s:bg):Bool:=decide ((3:Int)<s.sources)&&decide (s.sources<=16)||decide ((3:Int)<(s.eK.length:Int))||decide ((8:Int)<(s.eh.length:Int))||decide ((8:Int)<(s.nZ.length:Int))||decide ((4:Int)<(s.eF.length:Int))||decide ((8:Int)<(s.lj.length:Int))||decide ((12:Int)<(s.eZ.length:Int))|| !F7 s.cx||decide ((16:Int)<(s.heard.length:Int))&&decide ((s.heard.length:Int)<=4096)||decide ((4200:Int)<(s.heard.length:Int))
def Lk(g:aW):Bool:= !(!tO g||decide ((10:Int)<(g.rules.length:Int))||decide ((8:Int)<(g.au.length:Int))&&decide ((g.au.length:Int)<=32))
def P8(s:bg):Bool:= !F6 s.eh||decide ((1:Int)<s.eG)&&decide ((8:Int)<s.most)&&decide (s.most<=16)
def R4(h:bn):Bool:= !(!F8 h.words||decide ((5:Int)<(h.words.length:Int)))
def yF(s:bg):Bool:= !P7 s&&s.eK.all Lk&& !P8 s&&(s.heard.take 20).all R4
attribute [local go_sem] List.append_eq List.cons_append List.nil_append
instance ZK(s:bg):Ct 8 [s.d] ((∀g∈s.eK,mP g)/\Lm s.eK/\Lm s.eh/\Lm s.cx/\Lm s.heard/\(∀h∈s.heard,Lm h.words)) (.bool (yF s)):=by
 refine bf f8 [] [.tmp 2] fun pre=>?_;obtain⟨g1,g2,g3,g4,g5,g6⟩:=pre;unfold yF;generalize hA:List.all s.eK _=A;generalize hB:List.all (List.take 20 s.heard) _=E;have h0:P7 s=(decide ((3:Int)<s.sources)&&decide (s.sources<=16)||decide ((3:Int)<(s.eK.length:Int))||decide ((8:Int)<(s.eh.length:Int))||decide ((8:Int)<(s.nZ.length:Int))||decide ((4:Int)<(s.eF.length:Int))||decide ((8:Int)<(s.lj.length:Int))||decide ((12:Int)<(s.eZ.length:Int))|| !F7 s.cx||decide ((16:Int)<(s.heard.length:Int))&&decide ((s.heard.length:Int)<=4096)||decide ((4200:Int)<(s.heard.length:Int))):=rfl;generalize P7 s=F0 at *;replace h0:Hid _:=h0;replace g1:Hid _:=g1;replace g6:Hid _:=g6;apply SN
 ·intro tail;repeat' first|exact zQ|with_reducible apply zJ<;>intro _|refine zK ?_
  all_goals first
   |exact ab (congrArg D.bool (by rw[h0.out];simp[*];done))
   |skip
  all_goals exact fresh (fun σ' B=>F0=false/\σ' 1= .loc 1 1 0 0/\σ' 3=I 0/\B 1=⟨1,1,15,33,[s.d]⟩) ⟨by rw[h0.out];simp[*],by simp[go_sem],by simp[go_sem],by simp[go_sem]⟩ (tail ())
 ·rintro σ B ⟨rfl,k1,k3,b1⟩;clear h0;refine gR s.eK hA 3 [(2,3),(75,118)] [] g2 k3 (fun j x τ β hx hj hw hi aQ=>?_) fun τ β hn hi ha=>?_
  ·have Fg:=g1.out x (mG hx);unfold Lk at aQ⊢;repeat' first|exact zQ|with_reducible apply zJ<;>intro _|refine zK ?_
   all_goals first|with_reducible exact .refl _|(refine ab ?_;have aQ:=aQ.out zz;simp[*];done)|((try refine ab ?_);exact zz)
  ·have h2:P8 s=(!F6 s.eh||decide ((1:Int)<s.eG)&&decide ((8:Int)<s.most)&&decide (s.most<=16)):=rfl;generalize P8 s=F2 at *;replace h2:Hid _:=h2;apply SN
   ·intro tail;repeat' first|exact zQ|with_reducible apply zJ<;>intro _|refine zK ?_
    all_goals first
     |exact ab (congrArg D.bool (by rw[h2.out];simp[*];done))
     |skip
    all_goals exact fresh (fun σ' B=>F2=false/\σ' 1= .loc 1 1 0 0/\σ' 4=I 0/\B 1=⟨1,1,15,33,[s.d]⟩) ⟨by rw[h2.out];simp[*],by simp[go_sem,k1],by simp[go_sem],by simp[go_sem,b1]⟩ (tail ())
   ·clear k1 k3 b1;rintro σ B ⟨rfl,k1,k3,b1⟩;refine D0 s.heard 20 20 rfl hB 4 [(2,2),(4,4),(141,171)] [] g5 k3 (fun j x τ β hx hj yU hw hi aQ=>?_) fun τ β m hn hi ha=>?_
    ·have Fg:=g6.out x (mG hx);unfold R4 at aQ⊢;repeat' first|exact zQ|with_reducible apply zJ<;>intro _|refine zK ?_
     all_goals first|with_reducible exact .refl _|(refine ab ?_;have aQ:=aQ.out zz;simp[*];done)|((try refine ab ?_);exact zz)
    ·rcases hn with hn|⟨hn,sB⟩
     all_goals
      repeat' first|exact zQ|with_reducible apply zJ<;>intro _|refine zK ?_
      all_goals first|with_reducible exact .refl _|(refine ab ?_;have aQ:=aQ.out zz;simp[*];done)|((try refine ab ?_);exact zz)
def XL(s:bg):Prop:=(∀g∈s.eK,mP g)/\Lm s.eK/\Lm s.eh/\Lm s.cx/\Lm s.heard/\∀h∈s.heard,Lm h.words
structure okF(p:bG):Prop where
 a:XL p.cn
 b:okD p.cg/\(∀b∈p.cg.a_,b.length<=1099511627776)/\∀w∈p.cg.br,w.data.length<=1099511627776
 c:Lm p.cm.bJ
 d:∀b∈p.cm.bJ,Lm b
def Br(p:bG):Bool:= !(!yF p.cn||decide ((40:Int)<(p.cm.bJ.length:Int))|| !Lj p.cg)&&p.cm.bJ.all fun b=> !decide ((2000:Int)<(b.length:Int))
instance(p:bG):Ct 9 [p.d] (okF p) (.bool (Br p)):=by
 obtain⟨s,⟨rs,M,y⟩,⟨S,W,L,st⟩⟩:=p;refine bf f9 [] [.tmp 2] fun pre=>?_;obtain⟨o1,o2,o3,o4⟩:=pre;simp only at o1 o2 o3 o4;have hF:=(ZK s).h o1;have hD:=(ZJ ⟨S,W,L,st⟩).h o2;unfold Br;simp only;generalize yF s=A at *;generalize Lj ⟨S,W,L,st⟩=E at *;generalize hB:List.all rs _=G;haveI:Ct 8 [s.d] True (.bool A):=⟨fun _=>hF⟩
 haveI:Ct 32 [bV.d ⟨S,W,L,st⟩] True (.bool E):=⟨fun _=>hD⟩
 clear hF hD o1 o2;repeat' first|exact zQ|with_reducible apply zJ<;>intro _|refine zK ?_
 all_goals first
  |exact ab (congrArg D.bool (by simp[*];done))
  |skip
 refine gR rs hB 3 [(2,3),(21,36)] [] o3 sG (fun j x τ β hx hj hw hi aQ=>?_) fun τ β hn hi ha=>?_
 ·repeat' first|exact zQ|with_reducible apply zJ<;>intro _|refine zK ?_
  all_goals first|with_reducible exact .refl _|(refine ab ?_;have aQ:=aQ.out zz;simp[*];done)|((try refine ab ?_);exact zz)
 ·repeat' first|exact zQ|with_reducible apply zJ<;>intro _|refine zK ?_
  all_goals first|with_reducible exact .refl _|(refine ab ?_;have aQ:=aQ.out zz;simp[*];done)|((try refine ab ?_);exact zz)
end Go.V.Jn
