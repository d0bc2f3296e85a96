/- Plants: what was heard, read from its record. -/
import Derived.Test.YtkgloohlmogakaaGreatDoorB36
import Derived.Test.YtkgloohlmogakaaGreatDoorB26
import Derived.Test.YtkgloohlmogakaaGreatDoorB32
import Derived.Test.YtkgloohlmogakaaGreatDoorB31
import Derived.Test.YtkgloohlmogakaaGreatDoorB30
set_option linter.unusedSimpArgs false
set_option linter.unusedVariables false
set_option linter.unnecessarySimpa false
set_option maxRecDepth 100000
namespace Go.V.Jn
open Go.Proofs Go.RowKit Go.V.Lx Go.V.Gr Go.V.Ty Go.V.St
theorem mf{e e':Nat}(bx:ae):rV Tryz.prog (bK Tryz.prog) [] Tryz.f107 64 [.loc 2 e 0 0,.loc 3 e' 0 0] bx .ret fun m' bx'=>m'= .ret/\bx'=bx:=by
 refine iv (t:=5) _ _ 17 rfl rfl rfl aj aj (ao (ao (aR 0 [.loc 2 e 0 0,.loc 3 e' 0 0]) 5 (.raw .nilIface)) 2 (.raw .nilIface)) ?_ ?_
 ·repeat' first|exact zQ|with_reducible refine zJ (fun _=>?_) fun _=>?_|refine zK ?_|fail
 ·repeat' first|exact zQ|with_reducible refine zJ (fun _=>?_) fun _=>?_|refine zK ?_|fail
def hD(h:aD):Nat->D
 |0=> .agg [I 0,I 0,I 0,I 0,I 0,I 0,I 0,.nilsl]
 |1=> .agg [I h.at_,I 0,I 0,I 0,I 0,I 0,I 0,.nilsl]
 |2=> .agg [I h.at_,I h.src,I 0,I 0,I 0,I 0,I 0,.nilsl]
 |3=> .agg [I h.at_,I h.src,I h.seq,I 0,I 0,I 0,I 0,.nilsl]
 |4=> .agg [I h.at_,I h.src,I h.seq,I h.sent,I 0,I 0,I 0,.nilsl]
 |5=> .agg [I h.at_,I h.src,I h.seq,I h.sent,I h.kind,I 0,I 0,.nilsl]
 |6=> .agg [I h.at_,I h.src,I h.seq,I h.sent,I h.kind,I h.opat,I 0,.nilsl]
 |_=> .agg [I h.at_,I h.src,I h.seq,I h.sent,I h.kind,I h.opat,I h.cut,.nilsl]
theorem HB(h:aD):(cw h).d= .agg [I 3,I 0,.str [],.sl 4 [.agg [I 1,I h.at_,.str [],.sl 4 []],.agg [I 1,I h.src,.str [],.sl 4 []],.agg [I 1,I h.seq,.str [],.sl 4 []],.agg [I 1,I h.sent,.str [],.sl 4 []],.agg [I 1,I h.kind,.str [],.sl 4 []],.agg [I 1,I h.opat,.str [],.sl 4 []],.agg [I 1,I h.cut,.str [],.sl 4 []],.agg [I 3,I 0,.str [],.sl 4 ((h.words.map bS).map aQ.d)]]]:=by simp only[cw,jD,List.map_cons,List.map_nil,xh,Eo]
theorem yv(h:aD):h.words.length<=(bV h).length/\∀w∈h.words,w.alts.length<=(bV h).length:=by
 have h1:=nY (h.words.map bS);have h2:(bH (.l (h.words.map bS))).length<=(bV h).length:=by
  show _<=(bH (cw h)).length;unfold cw;have:=lL (x:=.l (h.words.map bS)) (xs:=[.i h.at_,.i h.src,.i h.seq,.i h.sent,.i h.kind,.i h.opat,.i h.cut,.l (h.words.map bS)]) sI;rw[show bH (.l [.i h.at_,.i h.src,.i h.seq,.i h.sent,.i h.kind,.i h.opat,.i h.cut,.l (h.words.map bS)])=3::(dS 8++cI [.i h.at_,.i h.src,.i h.seq,.i h.sent,.i h.kind,.i h.opat,.i h.cut,.l (h.words.map bS)])from rfl];simp only[List.length_cons,List.length_append];omega
 have h3:(cI (h.words.map bS)).length<=(bV h).length:=by simp[bH]at h2;omega
 refine⟨by simp at h1;omega,fun w hw=>?_⟩;have g1:(bH (bS w)).length<=(cI (h.words.map bS)).length:=lL (List.mem_map_of_mem hw);have g2:=nY (w.alts.map aQ.t);have g3:(bH (.l (w.alts.map aQ.t))).length<=(bH (bS w)).length:=by
  have:=lL (x:=.l (w.alts.map aQ.t)) (xs:=[.t w.t,.i w.f,.i w.u,.i w.s,.l (w.alts.map .t)]) sI;rw[show bH (bS w)=3::(dS 5++cI [.t w.t,.i w.f,.i w.u,.i w.s,.l (w.alts.map .t)])from rfl];simp only[List.length_cons,List.length_append];omega
 simp[bH]at g3;simp at g2;omega
set_option maxHeartbeats 4000000 in
theorem MO(h:aD)(ho:okW (cw h))(hl:(bV h).length<=1099511620000):xF Tryz.prog (bK Tryz.prog) [(1000038,[])] Tryz.f62 0 [bj (bV h)] (fun _=> .none) (fun d bx'=>∃r,bf bx' d=some r/\bk r (.tup [h.d,.bool true])) (fun _ _=>False):=by
 refine my _ [.cell 2 48,.cell 3 4] 64 rfl rfl rfl aj aj ?_;obtain⟨n1,n2⟩:=yv h;have hdp:=xy h;have hdp2:eM (cw h)<=16:=oM;have hl2:(bH (cw h)).length<=1099511620000:=hl;unfold bV at *;have hvd:=HB h;generalize hX:D.agg [I 3,I 0,.str [],.sl 4 ((h.words.map bS).map aQ.d)]=X at *;replace hX:Hid _:=hX;repeat' first|exact zQ|with_reducible refine zJ (fun _=>?_) fun _=>?_|refine zK ?_|fail
 refine iN [(8,9),(41,54)] [(2,2)] 7 (fun k τ β=>τ 41=I k/\β 2=⟨1,1,8,48,[hD h k]⟩) ⟨by simp[go_sem],by simp[go_sem,hD]⟩ (fun k τ β hk hi=>?_) fun τ β hi=>?_
 ·obtain⟨h21,h63⟩:=hi;have hk3:k=0\/k=1\/k=2\/k=3\/k=4\/k=5\/k=6:=oM;have z1:(1:Int).toNat=1:=rfl;have z2:(2:Int).toNat=2:=rfl;have z3:(3:Int).toNat=3:=rfl;have z4:(4:Int).toNat=4:=rfl;have z5:(5:Int).toNat=5:=rfl;have z6:(6:Int).toNat=6:=rfl;have x1:((1:Nat):Int)=1:=rfl;have x2:((2:Nat):Int)=2:=rfl;have x3:((3:Nat):Int)=3:=rfl;have x4:((4:Nat):Int)=4:=rfl;have x5:((5:Nat):Int)=5:=rfl;have x6:((6:Nat):Int)=6:=rfl;have x7:((7:Nat):Int)=7:=rfl;have v1:(0:Int)+1=1:=rfl;have v2:(1:Int)+1=2:=rfl;have v3:(2:Int)+1=3:=rfl;have v4:(3:Int)+1=4:=rfl;have v5:(4:Int)+1=5:=rfl;have v6:(5:Int)+1=6:=rfl;have v7:(6:Int)+1=7:=rfl;clear n1 n2 hdp hdp2 hl2 hvd ho;rcases hk3 with rfl|rfl|rfl|rfl|rfl|rfl|rfl;all_goals
   simp only[hD]at h63⊢;repeat' first|exact zQ|with_reducible refine zJ (fun _=>?_) fun _=>?_|refine zK ?_|fail
   all_goals trace_state
 ·obtain⟨h21,h63⟩:=hi;simp only[hD]at h63;have hx:=hX.out;subst hx;have x3:¬((7:Nat):Int)<((7:Nat):Int):=by decide
  have hwp:D.aF (h.words.map Word.d)=true:=by rw[cA];simp[D.pure,D.aF,cA]
  clear hvd;repeat' first|exact zQ|with_reducible refine zJ (fun _=>?_) fun _=>?_|refine zK ?_|fail
  refine qj (JA h.words oM (fun w hw=>by have:=n2 w hw;omega) 1 _ (by simp[ao,aY,cm])) rfl (fun d bx1 hp=>?_) fun d bx1 hp=>hp.elim;obtain⟨p1,p2⟩:=hp;obtain⟨rr,o1,o2⟩:=p1.out hwp;refine⟨rr,.sl 5 (h.words.map Word.d),o1,o2,?_⟩;have hfr:∀q,q<60->cv bx1 [d] q=bx1 q:=fun q hq=>by
   rw[dI,if_neg];intro hm;have:=aW.names p1 q (by simpa[bq]using hm);simp at this;omega
  have k2:=(hfr 2 (by decide)).trans (p2 2 (by decide));have k3:=(hfr 3 (by decide)).trans (p2 3 (by decide));simp[ao,aY,cm]at k2 k3;rw[h63]at k2;generalize cv bx1 [d]=B1 at *;clear hfr o1 o2 p1 p2 n1 n2;have d1:8<=cB:=by decide
  have d2:¬cB<=9:=by decide
  have d3:41<=cB:=by decide
  have d4:¬cB<=54:=by decide
  repeat' first|exact zQ|with_reducible refine zJ (fun _=>?_) fun _=>?_|refine zK ?_|fail
  refine fJ _ (qw (mf _)) fun m' bx2 hq=>?_;obtain⟨rfl,rfl⟩:=hq;repeat' first|exact zQ|with_reducible refine zJ (fun _=>?_) fun _=>?_|refine zK ?_|fail
  exact⟨_,rfl,.refl _⟩
instance(h:aD):Ct Tryz.prog 62 [bj (bV h)] (okW (cw h)/\(bV h).length<=1099511620000) (.tup [h.d,.bool true]):=⟨fun p=>(zP (MO h p.1 p.2)).to (fun _ _ h=>h) fun d' bx' h=>h⟩
theorem Ml(l:List Int)(h:l.length<=1099511627776):aq Tryz.prog 83 [.sl 1 (l.map I),.fn (.func 84) []] (aQ.l (l.map aQ.i)).d:=by
 have:Ct Tryz.prog 83 [.sl 1 (l.map I),.fn (.func 84) []] (l.length<=1099511627776) (aQ.l (l.map aQ.i)).d:=inferInstance;exact this.h h
instance(a b c:Int):Ct Tryz.prog 83 [.sl 1 [I a,I b,I c],.fn (.func 84) []] True (.agg [I 3,I 0,.str [],.sl 4 [.agg [I 1,I a,.str [],.sl 4 []],.agg [I 1,I b,.str [],.sl 4 []],.agg [I 1,I c,.str [],.sl 4 []]]]):=⟨fun _=>by
 have:=Ml [a,b,c] sI;simpa only[jD,List.map_cons,List.map_nil,xh]using this⟩
instance(w:Word):Ct Tryz.prog 86 [w.d] (w.alts.length<=1099511627776) (bS w).d:=by
 rw[CY];refine bm (fn:=Tryz.f86) [(2,[(11,8),(10,8),(11,6),(10,6),(10,5),(8,5),(10,4),(8,4)])] [.cell 2 158] fun pre=>?_;have q1:D.pure (.agg [I 2,I 0,.str w.t,.sl 4 []])=true:=rfl;have q2:∀n,D.pure (.agg [I 1,I n,.str [],.sl 4 []])=true:=fun _=>rfl;have q3:D.pure (.agg [I 3,I 0,.str [],.sl 4 ((w.alts.map aQ.t).map aQ.d)])=true:=by simp[D.pure,D.aF,jE]
 repeat' first|exact zQ|with_reducible refine zJ (fun _=>?_) fun _=>?_|refine zK ?_|fail
 refine PW ⟨q1,q2 _,q2 _,q2 _,q3⟩ (by simp[D.aF,D.pure,jE]) ?_;repeat' first|exact zQ|with_reducible refine zJ (fun _=>?_) fun _=>?_|refine zK ?_|fail
instance(l:List Word):Ct Tryz.prog 85 [.sl 5 (l.map Word.d),.fn (.func 86) []] (l.length<=1099511627776/\∀w∈l,w.alts.length<=1099511627776) (aQ.l (l.map bS)).d:=by
 refine bm (fn:=Tryz.f85) [(5,[(7,4),(7,3)])] [.cell 4 158] fun pre=>?_;obtain⟨pre,hwa⟩:=pre;have hL:Lm l:=by simp[Lm];omega
 repeat' first|exact zQ|with_reducible refine zJ (fun _=>?_) fun _=>?_|refine zK ?_|fail
 refine bO l [(6,6),(10,22)] [(4,4),(6,6),(20,20)] (fun j τ β=>τ 10=I j/\∃x,β 4=⟨1,1,4,158,[.agg [I 3,I 0,.str [],x]]⟩/\aW β [20] 158 4 x (((l.take j).map bS).map aQ.d)) hL ⟨by simp[go_sem],.nilsl,by simp[go_sem],.nil _ _ _ _⟩ (fun j y τ β hx hj hw hi=>?_) fun τ β hn hi=>?_
 ·obtain⟨h10,x,h4,hv⟩:=hi;have hf:=hv.facts;have htk:((l.take j).map bS).map aQ.d++[(bS y).d]=((l.take (j+1)).map bS).map aQ.d:=by rw[List.take_add_one,hx];simp
  have htl:(((l.take j).map bS).map aQ.d).length<=l.length:=by simp;omega
  replace htl:Hid _:=htl;have hya:=hwa y (List.mem_of_getElem? hx);repeat' first|exact zQ|with_reducible refine zJ (fun _=>?_) fun _=>?_|refine zK ?_|fail
  refine app [20] (hv.of fun t ht=>by simp at ht;subst ht;simp[ao,aY,cm]) (fun x' β' hv'=>?_) (by have:=htl.out;simp only[List.length_cons,List.length_nil];omega);have hf':=hv'.facts;replace hv':aW β' [20] 158 4 x' (((l.take j).map bS).map aQ.d++[(bS y).d]):=hv';rw[htk]at hv';clear htk;repeat' first|exact zQ|with_reducible refine zJ (fun _=>?_) fun _=>?_|refine zK ?_|fail
  exact⟨x',rfl,hv'.of fun t ht=>by simp at ht;subst ht;simp[ao,aY,cm]⟩
 ·obtain⟨h10,x,h4,hv⟩:=hi;rw[List.take_length]at hv;have hf:=hv.facts;obtain⟨r,o2,o1⟩:=o4 hv (jE _);repeat' first|exact zQ|with_reducible refine zJ (fun _=>?_) fun _=>?_|refine zK ?_|fail
  rw[o1 _ fun t ht=>by simp at ht;subst ht;simp[ao,aY,cm]];exact ID o2
theorem aW.more{bx:ae}{ts ts':List Nat}{el esz:Nat}{x:D}{xs:List D}(h:aW bx ts el esz x xs)(hs:∀t,t∈ts->t∈ts'):aW bx ts' el esz x xs:=by
 rcases h with h|⟨t,e,ht,h1,h2⟩
 ·exact .inl h
 ·exact .inr ⟨t,e,hs t ht,h1,h2⟩
def LB(bx bx':ae)(l:List Int)(d:D):Prop:=∃x,d= .agg [I 3,I 0,.str [],x]/\aW bx' [120] 158 4 x ((l.map aQ.i).map aQ.d)/\∀q,q<100->bx' q=bx q
set_option maxHeartbeats 1000000 in
theorem Mj(l:List Int)(h:l.length<=1099511627776)(bx:ae):aU Tryz.prog 83 100 [.sl 1 (l.map I),.fn (.func 84) []] bx (fun d bx'=>LB bx bx' l d) (fun _ _=>False):=by
 refine aG (fn:=Tryz.f83) (tab:=[(5,[(7,4),(7,3)])]) (base:=100) mixed ?_ rfl aj rfl;refine aH _ [.cell 4 158] 24 rfl rfl rfl aj ?_;have hL:Lm l:=by simp[Lm];omega
 repeat' first|exact zQ|with_reducible refine zJ (fun _=>?_) fun _=>?_|refine zK ?_|fail
 generalize hE:(bx 104).ep+1=e4 at *;refine bO l [(6,6),(10,22)] [(100,130)] (fun j τ β=>τ 10=I j/\∃x,β 104=⟨e4,1,4,158,[.agg [I 3,I 0,.str [],x]]⟩/\aW β [120] 158 4 x (((l.take j).map aQ.i).map aQ.d)) hL ⟨by simp[go_sem],.nilsl,by simp[ao],.nil _ _ _ _⟩ (fun j y τ β hx hj hw hi=>?_) fun τ β hn hi=>?_
 ·obtain⟨h10,x,h4,hv⟩:=hi;have hf:=hv.facts;have htk:((l.take j).map aQ.i).map aQ.d++[(aQ.i y).d]=((l.take (j+1)).map aQ.i).map aQ.d:=by rw[List.take_add_one,hx];simp
  have htl:(((l.take j).map aQ.i).map aQ.d).length<=l.length:=by simp;omega
  replace htl:Hid _:=htl;repeat' first|exact zQ|with_reducible refine zJ (fun _=>?_) fun _=>?_|refine zK ?_|fail
  refine app [120] (hv.of fun t ht=>by simp at ht;subst ht;simp[ao,aY,cm]) (fun x' β' hv'=>?_) (by have:=htl.out;simp only[List.length_cons,List.length_nil];omega);have hf':=hv'.facts;replace hv':aW β' [120] 158 4 x' (((l.take j).map aQ.i).map aQ.d++[(aQ.i y).d]):=hv';rw[htk]at hv';clear htk;repeat' first|exact zQ|with_reducible refine zJ (fun _=>?_) fun _=>?_|refine zK ?_|fail
  exact⟨x',rfl,hv'.of fun t ht=>by simp at ht;subst ht;simp[ao,aY,cm]⟩
 ·obtain⟨h10,x,h4,hv⟩:=hi;rw[List.take_length]at hv;have hf:=hv.facts;repeat' first|exact zQ|with_reducible refine zJ (fun _=>?_) fun _=>?_|refine zK ?_|fail
  refine⟨x,rfl,hv.of fun t ht=>by simp at ht;subst ht;simp[ao,aY,cm],fun q hq=>?_⟩;rw[aA oM];refine(cd.jt q (by simp[cm];omega)).trans ?_;rw[aA oM,aA oM]
set_option maxHeartbeats 2000000 in
instance(h:aD):Ct Tryz.prog 42 [h.d] (okW (cw h)/\(bV h).length<=1099511620000) (bj (bV h)):=by
 refine bm (fn:=Tryz.f42) [(3,[(7,4),(7,3)])] [.tmp 2] fun pre=>?_;obtain⟨ho,hl⟩:=pre;obtain⟨n1,n2⟩:=yv h;have hdp:=xy h;have hf:pA (cw h)/\eM (cw h)<=16/\(bH (cw h)).length<=1099511627000:=⟨⟨ho,by unfold bV at hl;omega⟩,by omega,by unfold bV at hl;omega⟩
 have hwl:h.words.length<=1099511627776/\∀w∈h.words,w.alts.length<=1099511627776:=⟨by omega,fun w hw=>by have:=n2 w hw;omega⟩
 clear n1 n2 hdp ho hl;repeat' first|exact zQ|with_reducible refine zJ (fun _=>?_) fun _=>?_|refine zK ?_|fail
 refine aB (Mj [h.at_,h.src,h.seq,h.sent,h.kind,h.opat,h.cut] sI _) rfl fun d bx1 hq=>?_;obtain⟨x,rfl,hv,hk⟩:=hq;have k1:=hk 1 (by decide);have k2:=hk 3 (by decide);have hfx:=hv.facts;simp[ao]at k1 k2;clear hk;repeat' first|exact zQ|with_reducible refine zJ (fun _=>?_) fun _=>?_|refine zK ?_|fail
 refine app [34,120] (aW.more (hv.of fun t ht=>by simp at ht;subst ht;rw[aA (by decide),aA (by decide)]) sI) (fun x' β hv'=>?_) sI;have hfx':=hv'.facts;have hvd:([h.at_,h.src,h.seq,h.sent,h.kind,h.opat,h.cut].map aQ.i).map aQ.d++[D.agg [I 3,I 0,.str [],.sl 4 ((h.words.map bS).map aQ.d)]]=[aQ.i h.at_,.i h.src,.i h.seq,.i h.sent,.i h.kind,.i h.opat,.i h.cut,.l (h.words.map bS)].map aQ.d:=by simp only[List.map_cons,List.map_nil,xh,jD,List.cons_append,List.nil_append]
 rw[hvd]at hv';have hout:=HS hv' sI (jE _);clear hv hvd;repeat' first|exact zQ|with_reducible refine zJ (fun _=>?_) fun _=>?_|refine zK ?_|fail
 have hvd2:(cw h).d= .agg [I 3,I 0,.str [],.sl 4 ([aQ.i h.at_,.i h.src,.i h.seq,.i h.sent,.i h.kind,.i h.opat,.i h.cut,.l (h.words.map bS)].map aQ.d)]:=by rw[cw,jD]
 have hE:Ct Tryz.prog 87 [(cw h).d] (pA (cw h)/\eM (cw h)<=16/\(bH (cw h)).length<=1099511627000) (.tup [bj (bH (cw h)),I 0]):=inferInstance;refine GH (ds':=[(cw h).d]) (hE.h hf) ?_ rfl ?_
 ·rw[hvd2,cQ,oq,cQ,cQ,cQ,cQ,hout _ fun t ht=>by simp at ht;rcases ht with rfl|rfl<;>simp[ao,aY,cm]];simp[go_sem]
 repeat' first|exact zQ|with_reducible refine zJ (fun _=>?_) fun _=>?_|refine zK ?_|fail
 exact .refl _
theorem HR{bx:ae}{ts:List Nat}{el esz:Nat}{x:D}{xs:List D}(h:aW bx ts el esz x xs)(hp:D.aF xs=true):∃r,bk r (.sl esz xs)/\(r.pure=true/\r.one=true/\r.cells=[r])/\∀bx':ae,(∀t,t∈ts->bx' t=bx t)->bf bx' x=some r:=by
 rcases h with⟨rfl,rfl⟩|⟨t,e,ht,rfl,hb⟩
 ·exact⟨.nilsl,.nil _,⟨rfl,rfl,rfl⟩,fun bx' _=>rfl⟩
 ·refine⟨_,.refl _,⟨by simpa[D.pure]using hp,rfl,rfl⟩,fun bx' h=>?_⟩;rw[jv,h t ht,hb];exact cU _ _ _ _ _ _ (by decide) rfl hp
theorem yt{sz:Nat}{ps cs ds:List D}(h:WL cs ds):bk (.sl sz (ps++[.agg cs])) (.sl sz (ps++[.agg ds])):=by
 have key:∀(i:Nat) x x',(ps++[D.agg cs])[i]? =some x->(ps++[D.agg ds])[i]? =some x'->x=x'\/(x= .agg cs/\x'= .agg ds):=fun i x x' hx hx'=>by
  rcases Nat.lt_or_ge i ps.length with hi|hi
  ·rw[List.getElem?_append_left hi]at hx hx';rw[hx]at hx';injection hx' with hx';exact .inl hx'
  ·rw[List.getElem?_append_right hi]at hx hx';have hi0:i - ps.length=0:=by
    have:=(List.getElem?_eq_some_iff.1 hx).1;simp at this;omega
   rw[hi0]at hx hx';simp at hx hx';exact .inr ⟨hx.symm,hx'.symm⟩
 refine .sl sI (fun i x x' hx hx'=>?_) fun i x x' j c c' hx hx' hc hc'=>?_
 ·rcases key i x x' hx hx' with rfl|⟨rfl,rfl⟩
  ·rfl
  ·exact h.get.1
 ·rcases key i x x' hx hx' with rfl|⟨rfl,rfl⟩
  ·rw[hc]at hc';injection hc' with hc';subst hc';exact .refl _
  ·exact h.get.2 j c c' hc hc'
theorem FG{bx:ae}{s:Nat}{l:List D}(q:Nat)(hq:q≠s)(hn:q∉bq (bx s).es):Go.V.dF bx s l q=bx q:=by
 unfold Go.V.dF;rw[aA hq,dI,if_neg hn]
theorem J4{bx:ae}{s e k sz ty:Nat}{es l:List D}(h:bx s=⟨e,k,sz,ty,es⟩)(hn:s∉bq es):Go.V.dF bx s l s=⟨e,k,sz,ty,l⟩:=by
 unfold Go.V.dF;rw[cO,dI,h,if_neg hn]
abbrev iW(h:aD):Prop:=okW (cw h)/\(bV h).length<=1099511620000
theorem Kf(s:aN)(hl:s.heard.length<=1099511627776)(hh:∀h∈s.heard,iW h)(e0:Nat):sU Tryz.prog 95 ⟨e0,1,15,33,[s.d]⟩ (s.heard.map fun h=>[bj (bV h)]) none 20:=by
 refine vl mixed (fn:=Tryz.f95) (tab:=[]) ?_ rfl rfl aj;refine vn _ 18 rfl rfl rfl aj ?_;intro gs l e bx hk hz hb;change bx (gs+1)=⟨e,1,15,33,[s.d]⟩at hb;replace hh:Hid _:=hh;repeat' first|exact zQ|with_reducible refine zJ (fun _=>?_) fun _=>?_|refine zK ?_|fail
 refine uT (0:Nat) (fun g=>s.heard.length - g) [(4,4),(8,17)] (fun g τ β=>τ 8=I g/\(β gs).sz=g/\(β gs).k=0/\β (gs+1)=⟨e,1,15,33,[s.d]⟩) ⟨by simp[go_sem],hz,hk,hb⟩ ?_;rintro k τ β ⟨h8,hz,hk,hb⟩;by_cases hlt:k<s.heard.length
 ·obtain⟨y,hy⟩:∃y,s.heard[k]? =some y:=⟨_,List.getElem?_eq_getElem hlt⟩
  have hyo:=hh.out y (List.mem_of_getElem? hy);have c1:(k:Int)<(s.heard.length:Int):=oM;clear hh;have w1:IntKind.i64.wrap ((k:Int)+1)=((k+1:Nat):Int):=aK oM;have n1:¬gs=gs+2+4:=oM;have n2:¬gs+1=gs+2+4:=oM;have n3:¬gs=gs+1:=oM;have n4:¬gs+1=gs:=oM;repeat' first|exact zQ|with_reducible refine zJ (fun _=>?_) fun _=>?_|refine zK ?_|fail
  refine nH rfl (by simp[go_sem]) (by simp[ao,hz,hy,n1]) fun bx1=>⟨?_,?_⟩
  ·repeat' first|exact zQ|with_reducible refine zJ (fun _=>?_) fun _=>?_|refine zK ?_|fail
   exact⟨k+1,by omega,rfl,rfl⟩
  ·repeat' first|exact zQ|with_reducible refine zJ (fun _=>?_) fun _=>?_|refine zK ?_|fail
   exact .inl trivial
 ·have c1:¬(k:Int)<(s.heard.length:Int):=oM;repeat' first|exact zQ|with_reducible refine zJ (fun _=>?_) fun _=>?_|refine zK ?_|fail
  exact⟨by omega,.inl trivial⟩
theorem F6(s:aN)(bx:ae):aU Tryz.prog 50 60 [s.d] bx (fun d bx'=>d= .fn (.func 95) [.loc 61 ((bx 61).ep+1) 0 0]/\bx'=ao bx 61 ⟨(bx 61).ep+1,1,15,33,[s.d]⟩) (fun _ _=>False):=by
 refine aG (fn:=Tryz.f50) (tab:=[]) (base:=60) mixed ?_ rfl aj rfl;refine aH _ [.tmp 2] 4 rfl rfl rfl aj ?_;repeat' first|exact zQ|with_reducible refine zJ (fun _=>?_) fun _=>?_|refine zK ?_|fail
def RG(bx bx':ae)(s:aN)(d:D):Prop:=aW bx' [91] 71 1 d ((s.heard.map bV).map bj)/\∀q,q<61->bx' q=bx q
theorem MX(s:aN)(hl:s.heard.length<=1099511627776)(hh:∀h∈s.heard,iW h)(e:Nat)(bx:ae)(hb:bx 61=⟨e,1,15,33,[s.d]⟩):aU Tryz.prog 94 80 [.nilsl,.fn (.func 95) [.loc 61 e 0 0]] bx
 (fun d bx'=>RG bx bx' s d) (fun _ _=>False):=by
 refine aG (fn:=Tryz.f94) (tab:=[]) (base:=80) mixed ?_ rfl aj rfl;refine aH _ [.tmp 4] 13 rfl rfl rfl aj ?_;repeat' first|exact zQ|with_reducible refine zJ (fun _=>?_) fun _=>?_|refine zK ?_|fail
 refine xu 95 61 e ⟨e,1,15,33,[s.d]⟩ _ none 20 (fun n bx'=>∃x,bx' 82=⟨(bx 82).ep+1,1,1,34,[x]⟩/\aW bx' [91] 71 1 x (((s.heard.take n).map bV).map bj)/\Hid (∀q,q<61->bx' q=bx q)) sG oM (by simp[go_sem,hb]) (Kf s hl hh e) ?_ ?_ ?_
 ·repeat' first|exact zQ|with_reducible refine zJ (fun _=>?_) fun _=>?_|refine zK ?_|fail
  exact⟨_,rfl,.nil _ _ _ _,fun q hq=>by rw[if_pos oM,if_neg oM,if_neg oM]⟩
 ·intro n it bx1 hi ⟨x,h18,hv,hq⟩;rw[List.getElem?_map,Option.map_eq_some_iff]at hi;obtain⟨y,hy,rfl⟩:=hi;have hn:n<s.heard.length:=(List.getElem?_eq_some_iff.1 hy).1;rw[gB oM]at h18;replace hv:=hv.tv (fun t ht=>by simp at ht;omega);have hq2:∀q,q<61->bx1 q=bx q:=fun q h=>by rw[<-hq.out q h,gB oM]
  replace hq2:Hid _:=hq2;clear hq hh;have hf:=hv.facts;have htk:((s.heard.take n).map bV).map bj++[bj (bV y)]=((s.heard.take (n+1)).map bV).map bj:=by rw[List.take_add_one,hy];simp
  have htl:(((s.heard.take n).map bV).map bj).length<=s.heard.length:=by simp;omega
  replace htl:Hid _:=htl;repeat' first|exact zQ|with_reducible refine zJ (fun _=>?_) fun _=>?_|refine zK ?_|fail
  refine app [91] hv (fun x' β hv'=>?_) (by have:=htl.out;simp only[List.length_cons,List.length_nil];omega);have hf:=hv'.facts;rw[htk]at hv';clear htk;repeat' first|exact zQ|with_reducible refine zJ (fun _=>?_) fun _=>?_|refine zK ?_|fail
  exact⟨fun s h1 h2=>by rw[if_neg oM,if_pos oM,if_neg oM],x',rfl,hv'.of fun t ht=>by simp at ht;subst ht;simp[bp,ao,aY,cm],fun q h=>by rw[if_pos oM,if_neg oM,if_neg oM];exact hq2.out q h⟩
 ·intro bx1 ⟨x,h18,hv,hq⟩;rw[gB oM]at h18;replace hv:=hv.tv (fun t ht=>by simp at ht;omega);have hq2:∀q,q<61->bx1 q=bx q:=fun q h=>by rw[<-hq.out q h,gB oM]
  replace hq2:Hid _:=hq2;clear hq hh;rw[List.length_map,List.take_length]at hv;have hf:=hv.facts;simp only[wW];repeat' first|exact zQ|with_reducible refine zJ (fun _=>?_) fun _=>?_|refine zK ?_|fail
  exact⟨hv,hq2.out⟩
theorem Ju(s:aN)(hl:s.heard.length<=1099511627776)(hh:∀h∈s.heard,iW h)(e:Nat)(bx:ae)(hb:bx 61=⟨e,1,15,33,[s.d]⟩):aU Tryz.prog 49 70 [.fn (.func 95) [.loc 61 e 0 0]] bx (fun d bx'=>RG bx bx' s d) (fun _ _=>False):=by
 refine aG (fn:=Tryz.f49) (tab:=[]) (base:=70) mixed ?_ rfl aj rfl;refine aH _ [.tmp 2] 5 rfl rfl rfl aj ?_;repeat' first|exact zQ|with_reducible refine zJ (fun _=>?_) fun _=>?_|refine zK ?_|fail
 refine aB (MX s hl hh e bx hb) rfl fun d bx1 hq=>?_;have hf:=hq.1.facts;repeat' first|exact zQ|with_reducible refine zJ (fun _=>?_) fun _=>?_|refine zK ?_|fail
@[reducible] def bc.d(p:bc):D:=.agg [I p.sit.sources,I p.sit.langs,I p.sit.chunk,I p.sit.quiet,I p.sit.late,I p.sit.gap,I p.sit.most,.sl 6 (p.sit.grams.map aO.d),.sl 8 (p.sit.terms.map Term.d),.sl 10 (p.sit.house.map bE.d),.sl 5 (p.sit.budgets.map aJ.d),.sl 7 (p.sit.trades.map bo.d),.sl 14 (p.sit.viewers.map bL.d),.sl 4 (p.sit.visits.map aT.d),.sl 8 (p.sit.heard.map aD.d),
 .sl 1 (p.jnl.recs.map bj),I p.jnl.many,I p.jnl.sync,.sl 1 (p.bF.secs.map bj),.sl 2 (p.bF.pend.map bA.d),I p.bF.left,.bool p.bF.stop]
structure mY(p:bc):Prop where
 sit:St.cX p.sit
 hl:p.sit.heard.length<=1099511627776
 hh:∀h∈p.sit.heard,iW h
 ju:o0 p.jnl.recs
 dk:okD p.bF
set_option maxHeartbeats 2000000 in
instance(s:aN)(n:Int):Ct Tryz.prog 11 [s.d,I n] (St.cX s) (.tup [(dG s n).1.d,I (dG s n).2]):=by
 refine bm (fn:=Tryz.f11) [] [.cell 4 41,.tmp 5] fun pre=>?_;generalize hR:dG s n=R;have hlh:=pre.lh;by_cases h1:bg s=0
 rotate_left
 ·unfold dG at hR;rw[if_neg h1]at hR;subst hR;repeat' first|exact zQ|with_reducible refine zJ (fun _=>?_) fun _=>?_|refine zK ?_|fail
  exact wk
 by_cases h2:s.heard.length=0
 rotate_left
 ·unfold dG at hR;rw[if_pos h1,if_neg h2]at hR;subst hR;have c:(0:Int)<(s.heard.length:Int):=oM;repeat' first|exact zQ|with_reducible refine zJ (fun _=>?_) fun _=>?_|refine zK ?_|fail
  exact wk
 have c:¬(0:Int)<(s.heard.length:Int):=oM;unfold dG at hR;rw[if_pos h1,if_pos h2]at hR;by_cases hn:1<=n/\n<=4096
 rotate_left
 ·have hN:js n=(d0,1):=by unfold js;rw[if_neg hn]
  rw[hN,if_neg (by decide)]at hR;subst hR;repeat' first|exact zQ|with_reducible refine zJ (fun _=>?_) fun _=>?_|refine zK ?_|fail
  exact wk
 have hN:js n=(⟨List.replicate n.toNat cb,[],-1,false⟩,0):=by unfold js;rw[if_pos hn]
 have hdk:cG ⟨List.replicate n.toNat cb,[],-1,false⟩=true:=nJ (by simp;omega) (fun b hb=>by obtain⟨_,rfl⟩:=List.mem_replicate.1 hb;exact mM) oM oM;have hO:cJ ⟨List.replicate n.toNat cb,[],-1,false⟩=(⟨[],n,0⟩,0):=by
  unfold cJ;rw[if_pos hdk,if_neg sI,if_pos sI];simp only[sF,List.length_replicate,List.length_nil];rw[Int.toNat_of_nonneg oM];rfl
 have hk:okD ⟨List.replicate n.toNat cb,[],-1,false⟩:=⟨by simp[Lm];omega,by simp[Lm]⟩
 clear hdk;generalize(⟨List.replicate n.toNat cb,[],-1,false⟩:bT)=dk at *;rw[hN]at hR;simp only[if_true,hO]at hR;subst hR;repeat' first|exact zQ|with_reducible refine zJ (fun _=>?_) fun _=>?_|refine zK ?_|fail
 exact wk
section
variable (a b c d e f g:Int) (gr:List aO) (te:List Term) (ho:List bE) (bu:List aJ) (tr:List bo) (vi:List bL) (vs:List aT) (he:List aD)
instance (priority:=low):Ct Tryz.prog 34 [.agg [I a,I b,I c,I d,I e,I f,I g,.sl 6 (gr.map aO.d),.sl 8 (te.map Term.d),.sl 10 (ho.map bE.d),.sl 5 (bu.map aJ.d),.sl 7 (tr.map bo.d),.sl 14 (vi.map bL.d),.sl 4 (vs.map aT.d),.sl 8 (he.map aD.d)]] (St.cX ⟨a,b,c,d,e,f,g,gr,te,ho,bu,tr,vi,vs,he⟩) (I (bg ⟨a,b,c,d,e,f,g,gr,te,ho,bu,tr,vi,vs,he⟩)):=by
 have key:∀s:aN,Ct Tryz.prog 34 [s.d] (St.cX s) (I (bg s)):=fun s=>inferInstance;exact key ⟨a,b,c,d,e,f,g,gr,te,ho,bu,tr,vi,vs,he⟩
end
theorem J8{d:bT}(h:(cJ d).2=0):cG d=true/\d.stop=false/\d.pend=[]/\cJ d=(⟨bU d.secs,d.secs.length,(bU d.secs).length⟩,0):=by
 unfold cJ at h⊢;by_cases h1:cG d=true
 ·rw[if_pos h1]at h⊢;by_cases h2:d.stop=true
  ·rw[if_pos h2]at h;cases h
  ·rw[if_neg h2]at h⊢;by_cases h3:d.pend.length=0
   ·rw[if_pos h3];exact⟨h1,by simpa using h2,List.length_eq_zero_iff.1 h3,rfl⟩
   ·rw[if_neg h3]at h;cases h
 ·rw[if_neg h1]at h;cases h
theorem AB{d:bT}(h1:cG d=true)(h2:d.stop=false)(h3:d.pend=[]):cJ d=(⟨bU d.secs,d.secs.length,(bU d.secs).length⟩,0):=by
 unfold cJ;rw[if_pos h1,if_neg (by simp[h2]),if_pos (by simp[h3])]
set_option maxHeartbeats 4000000 in
instance wV(p:bc):Ct Tryz.prog 16 [p.d] (mY p) (I (if iK p then 0 else 580)):=by
 obtain⟨s,⟨rs,M,y⟩,⟨S,W,L,st⟩⟩:=p;refine bm (fn:=Tryz.f16) [] [.tmp 2] fun pre=>?_;obtain⟨os,ol,oh,oj,od⟩:=pre;simp only at os ol oh oj od;generalize hR:(if iK ⟨s,⟨rs,M,y⟩,⟨S,W,L,st⟩⟩then 0 else 580:Int)=R;have no:∀(h:¬PG ⟨s,⟨rs,M,y⟩,⟨S,W,L,st⟩⟩),R=580:=fun h=>by rw[<-hR,if_neg (fun h2=>h ((dT _).1 h2))]
 by_cases h1:bg s=0
 rotate_left
 ·obtain rfl:=no fun h=>h1 h.sit;clear hR no;repeat' first|exact zQ|with_reducible refine zJ (fun _=>?_) fun _=>?_|refine zK ?_|fail
 by_cases h2:jV ⟨rs,M,y⟩=true
 rotate_left
 ·obtain rfl:=no fun h=>h2 h.jnl;clear hR no;repeat' first|exact zQ|with_reducible refine zJ (fun _=>?_) fun _=>?_|refine zK ?_|fail
 by_cases h3:L= -1
 rotate_left
 ·obtain rfl:=no fun h=>h3 h.left;clear hR no;repeat' first|exact zQ|with_reducible refine zJ (fun _=>?_) fun _=>?_|refine zK ?_|fail
 subst h3;replace hR:Hid _:=hR;replace no:Hid _:=no;repeat' first|exact zQ|with_reducible refine zJ (fun _=>?_) fun _=>?_|refine zK ?_|fail
 refine aB (F6 s _) rfl fun d bx1 hq=>?_;obtain⟨rfl,rfl⟩:=hq;repeat' first|exact zQ|with_reducible refine zJ (fun _=>?_) fun _=>?_|refine zK ?_|fail
 refine qj (Ju s ol oh _ _ (cO ..)) rfl (fun d bx1 hp=>?_) fun d bx1 hp=>hp.elim;obtain⟨p1,p2⟩:=hp;have hpu:D.aF ((s.heard.map bV).map bj)=true:=by rw[cA];simp[D.pure]
 obtain⟨r,o1,o2⟩:=p1.out hpu;refine⟨r,_,o1,o2,?_⟩;have k1:cv bx1 [d] 1=bx1 1:=by
  rw[dI,if_neg];intro hm;have:=aW.names p1 1 (by simpa[bq]using hm);simp at this
 have k2:=k1.trans (p2 1 (by decide));simp only[ao,reduceIte,Nat.reduceEqDiff]at k2;generalize cv bx1 [d]=B1 at *;clear p1 p2 k1 o1 o2 oh;generalize hown:s.heard.map bV=own at *;replace hown:Hid _:=hown;have hoL:Lm own:=by have:=congrArg List.length hown.out;simp at this;simp[Lm];omega
 by_cases h4:(cJ ⟨S,W,-1,st⟩).2=0
 rotate_left
 ·obtain rfl:=no.out fun h=>h4 (by rw[AB h.bF h.stop h.pend]);clear hR no;repeat' first|exact zQ|with_reducible refine zJ (fun _=>?_) fun _=>?_|refine zK ?_|fail
 obtain⟨d1,d2,d3,hOp⟩:=J8 h4;obtain⟨s1,s2⟩:=(jK d1).1;simp only at s1 s2 d2 d3;have hrl:=ux S;have hrl2:Lm (bU S):=by simp[Lm,bU];omega
 obtain⟨⟨m1,m2⟩,j3,j4,j5⟩:=gL h2;simp only at m1 m2 j3 j4 j5;have hrL:Lm rs:=by have:=kC rs;simp[Lm];omega
 have hrd:Hid (bU S=bU S):=rfl;generalize hrB:bU S=rB at *;replace hrB:Hid _:=hrB;replace d1:Hid _:=d1;replace d2:Hid _:=d2;replace d3:Hid _:=d3;clear h4 hrd hrl;by_cases h5:(S.length:Int)=M
 rotate_left
 ·obtain rfl:=no.out fun h=>h5 h.many.symm;clear hR no;repeat' first|exact zQ|with_reducible refine zJ (fun _=>?_) fun _=>?_|refine zK ?_|fail
 by_cases h6:own=rs
 rotate_left
 ·obtain rfl:=no.out fun h=>h6 (by rw[<-hown.out];exact h.recs.symm);have hd:decide (own=rs)=false:=decide_eq_false h6;clear hR no h6;repeat' first|exact zQ|with_reducible refine zJ (fun _=>?_) fun _=>?_|refine zK ?_|fail
 subst h6;have hd:decide (own=own)=true:=by simp
 have hyL:Lm (own.take y.toNat):=by simp[Lm]at hoL⊢;omega
 have hc:cT (own.map bj).length (none:Option Int) (some y)=some (0,y.toNat):=by simp[cT];omega
 by_cases h7:rB=own.take y.toNat
 rotate_left
 ·obtain rfl:=no.out fun h=>h7 (by rw[<-hrB.out];exact h.read);have hd2:decide (rB=own.take y.toNat)=false:=decide_eq_false h7;clear hR no h7;repeat' first|exact zQ|with_reducible refine zJ (fun _=>?_) fun _=>?_|refine zK ?_|fail
 have hd2:decide (rB=own.take y.toNat)=true:=decide_eq_true h7;have hPG:PG ⟨s,⟨own,M,y⟩,⟨S,W,-1,st⟩⟩:=⟨h1,h2,d1.out,d2.out,d3.out,rfl,h5.symm,hown.out.symm,by rw[<-h7,<-hrB.out]⟩
 obtain rfl:=hR.out.symm.trans (if_pos ((dT _).2 hPG));clear hR no hPG h7;repeat' first|exact zQ|with_reducible refine zJ (fun _=>?_) fun _=>?_|refine zK ?_|fail
end Go.V.Jn
namespace Go.V.Jn
open Go.Proofs Go.RowKit Go.V.Lx Go.V.Gr Go.V.Ty Go.V.St
set_option maxHeartbeats 4000000 in
instance(p:bc):Ct Tryz.prog 18 [p.d] (mY p) (.tup [(fu p).1.d,I (fu p).2]):=by
 obtain⟨s,⟨rs,M,y⟩,⟨S,W,L,st⟩⟩:=p;refine bm (fn:=Tryz.f18) [] [.cell 2 41,.tmp 3] fun pre=>?_;have hC:=(wV ⟨s,⟨rs,M,y⟩,⟨S,W,L,st⟩⟩).h pre;obtain⟨os,ol,oh,oj,od⟩:=pre;simp only at os ol oh oj od;generalize hR:fu ⟨s,⟨rs,M,y⟩,⟨S,W,L,st⟩⟩=R;unfold fu at hR;by_cases h1:iK ⟨s,⟨rs,M,y⟩,⟨S,W,L,st⟩⟩=true
 rotate_left
 ·rw[if_neg h1]at hR hC;haveI:Ct Tryz.prog 16 [bc.d ⟨s,⟨rs,M,y⟩,⟨S,W,L,st⟩⟩] True (I 580):=⟨fun _=>hC⟩
  subst hR;clear hC h1;repeat' first|exact zQ|with_reducible refine zJ (fun _=>?_) fun _=>?_|refine zK ?_|fail
  exact wk
 rw[if_pos h1]at hR hC;haveI:Ct Tryz.prog 16 [bc.d ⟨s,⟨rs,M,y⟩,⟨S,W,L,st⟩⟩] True (I 0):=⟨fun _=>hC⟩
 simp only at hR;have hJ:=Cy rs M y S W L st oj od;generalize hQ:eI ⟨rs,M,y⟩ ⟨S,W,L,st⟩=q at *;obtain⟨j',d',e'⟩:=q;haveI:Ct Tryz.prog 58 [.agg [.sl 1 (rs.map bj),I M,I y],.agg [.sl 1 (S.map bj),.sl 2 (W.map bA.d),I L,.bool st]] True (.tup [j'.d,d'.d,I e']):=⟨fun _=>hJ⟩
 clear hC h1 hJ hQ;simp only at hR;by_cases he:e'=0
 ·rw[if_pos he]at hR;subst hR;subst he;repeat' first|exact zQ|with_reducible refine zJ (fun _=>?_) fun _=>?_|refine zK ?_|fail
 ·rw[if_neg he]at hR;subst hR;repeat' first|exact zQ|with_reducible refine zJ (fun _=>?_) fun _=>?_|refine zK ?_|fail
  exact wk
abbrev pz:D:=.agg [I 0,I 0,I 0,I 0,I 0,I 0,I 0,.nilsl,.nilsl,.nilsl,.nilsl,.nilsl,.nilsl,.nilsl,.nilsl,.nilsl,I 0,I 0,.nilsl,.nilsl,I 0,.bool false]
instance (priority:=low)(rs:List ah)(M y:Int)(b:ah):Ct Tryz.prog 41 [.agg [.sl 1 (rs.map bj),I M,I y],bj b] (o0 rs/\b.length<=1099511627776/\rs.length<=1048576) (.tup [(il ⟨rs,M,y⟩ b).1.d,I (il ⟨rs,M,y⟩ b).2]):=by
 have key:∀j:fO,Ct Tryz.prog 41 [j.d,bj b] (o0 j.recs/\b.length<=1099511627776/\j.recs.length<=1048576) (.tup [(il j b).1.d,I (il j b).2]):=fun j=>inferInstance;exact key ⟨rs,M,y⟩
set_option maxHeartbeats 4000000 in
instance(p:bc)(h:aD):Ct Tryz.prog 13 [p.d,h.d] (mY p/\iW h/\St.cX (a_ p.sit (p.sit.heard++[h]))/\(bV h).length<=1099511627776/\p.jnl.recs.length<=1048576) (.tup [(cW p h).1.d,I (cW p h).2]):=by
 obtain⟨s,⟨rs,M',y⟩,⟨S,W,L,st⟩⟩:=p;refine bm (fn:=Tryz.f13) [(4000005,[(0,2000000002)]),(4,[(6,5),(7,4),(6,4)]),(7,[(9,7)])] [.cell 4 41,.tmp 5] fun pre=>?_;obtain⟨pre,oh2,os2,ob,orl⟩:=pre;have hC:=(wV ⟨s,⟨rs,M',y⟩,⟨S,W,L,st⟩⟩).h pre;obtain⟨os,ol,oh,oj,od⟩:=pre;simp only at os ol oh oj od os2 orl;generalize hR:cW ⟨s,⟨rs,M',y⟩,⟨S,W,L,st⟩⟩ h=R;unfold cW at hR;by_cases h1:iK ⟨s,⟨rs,M',y⟩,⟨S,W,L,st⟩⟩=true
 rotate_left
 ·rw[if_neg h1]at hR hC;haveI:Ct Tryz.prog 16 [bc.d ⟨s,⟨rs,M',y⟩,⟨S,W,L,st⟩⟩] True (I 580):=⟨fun _=>hC⟩
  subst hR;clear hC h1;repeat' first|exact zQ|with_reducible refine zJ (fun _=>?_) fun _=>?_|refine zK ?_|fail
  exact wk
 rw[if_pos h1]at hR hC;haveI:Ct Tryz.prog 16 [bc.d ⟨s,⟨rs,M',y⟩,⟨S,W,L,st⟩⟩] True (I 0):=⟨fun _=>hC⟩
 simp only at hR;clear hC h1;have c5:((s.heard.map aD.d).length+[D.agg [I h.at_,I h.src,I h.seq,I h.sent,I h.kind,I h.opat,I h.cut,.sl 5 (h.words.map Word.d)]].length) * 80<=140737488355328:=by simp;omega
 have ho5:lx ⟨1,1,8,48,s.heard.map aD.d++[D.agg [I h.at_,I h.src,I h.seq,I h.sent,I h.kind,I h.opat,I h.cut,.sl 5 (h.words.map Word.d)]]⟩ 1 8 0 (s.heard.length+1)=some (.sl 8 ((s.heard++[h]).map aD.d)):=by
  rw[show s.heard.map aD.d++[D.agg [I h.at_,I h.src,I h.seq,I h.sent,I h.kind,I h.opat,I h.cut,.sl 5 (h.words.map Word.d)]]=(s.heard++[h]).map aD.d by simp];exact cU _ _ _ _ _ _ (by decide) sI (by rw[cA];simp[D.pure,D.aF,cA])
 repeat' first|exact zQ|with_reducible refine zJ (fun _=>?_) fun _=>?_|refine zK ?_|fail
 generalize hM:Go.V.dF _ 2 _=M;have n2:M 2=⟨1,1,22,41,[bc.d ⟨a_ s (s.heard++[h]),⟨rs,M',y⟩,⟨S,W,L,st⟩⟩]⟩:=by
  rw[<-hM];exact J4 (cO ..) (by simp[bq,Go.V.names])
 have n3:M 3=⟨1,1,8,48,[h.d]⟩:=by
  rw[<-hM,FG 3 (by decide) (by rw[cO];simp[bq,Go.V.names])];simp[ao]
 have n4:M 4=⟨1,1,22,41,[pz]⟩:=by
  rw[<-hM,FG 4 (by decide) (by rw[cO];simp[bq,Go.V.names])];simp[ao]
 clear hM ho5 c5;have hS:aq Tryz.prog 34 [(a_ s (s.heard++[h])).d] (I (bg (a_ s (s.heard++[h])))):=by
  have key:Ct Tryz.prog 34 [(a_ s (s.heard++[h])).d] (St.cX (a_ s (s.heard++[h]))) (I (bg (a_ s (s.heard++[h])))):=inferInstance;exact key.h os2
 have hA:aq Tryz.prog 41 [fO.d ⟨rs,M',y⟩,bj (bV h)] (.tup [(il ⟨rs,M',y⟩ (bV h)).1.d,I (il ⟨rs,M',y⟩ (bV h)).2]):=by
  have key:Ct Tryz.prog 41 [fO.d ⟨rs,M',y⟩,bj (bV h)] (o0 rs/\(bV h).length<=1099511627776/\rs.length<=1048576) (.tup [(il ⟨rs,M',y⟩ (bV h)).1.d,I (il ⟨rs,M',y⟩ (bV h)).2]):=inferInstance;exact key.h ⟨oj,ob,orl⟩
 generalize bg (a_ s (s.heard++[h]))=e at *;generalize il ⟨rs,M',y⟩ (bV h)=q at *;obtain⟨j',e2⟩:=q;simp only at hR hA;haveI:Ct Tryz.prog 34 [(a_ s (s.heard++[h])).d] True (I e):=⟨fun _=>hS⟩
 haveI:Ct Tryz.prog 41 [fO.d ⟨rs,M',y⟩,bj (bV h)] True (.tup [j'.d,I e2]):=⟨fun _=>hA⟩
 clear hS hA;by_cases h2:e=0
 rotate_left
 ·rw[if_neg h2]at hR;subst hR;repeat' first|exact zQ|with_reducible refine zJ (fun _=>?_) fun _=>?_|refine zK ?_|fail
  exact wk
 rw[if_pos h2]at hR;by_cases h3:e2=0
 ·rw[if_pos h3]at hR;subst hR;repeat' first|exact zQ|with_reducible refine zJ (fun _=>?_) fun _=>?_|refine zK ?_|fail
 ·rw[if_neg h3]at hR;subst hR;repeat' first|exact zQ|with_reducible refine zJ (fun _=>?_) fun _=>?_|refine zK ?_|fail
  exact wk
end Go.V.Jn
