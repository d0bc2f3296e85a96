/- Lemmas on plain data and programs: part B32. -/
import Derived.Test.YtkgloohlmogakaaGreatDoorB31
import Derived.Test.YtkgloohlmogakaaGreatDoorB28
set_option linter.all false
set_option maxHeartbeats 8000000
set_option maxRecDepth 100000
namespace Go.V.Jn
open Go.Proofs Go.Proofs.Tryz Go.RowKit Go.V.Lx Go.V.Gr Go.V.Ty Go.V.St
def Ls{p:bI}(hp:PG p){n:Int}(h0:0<=n)(h1:n<=65536):((fZ p n).2=50/\gi p n=(p0,50))\/
 ∃q:Nat,((fZ p n).2=0\/(fZ p n).2=40)/\q<=p.bY.heard.length/\okD (fZ p n).1/\dC (fZ p n).1=(⟨(p.bY.heard.take q).map bW,p.bZ.many,q⟩,0)/\gi p n=(⟨bL p.bY (p.bY.heard.take q),⟨(p.bY.heard.take q).map bW,p.bZ.many,q⟩,(fZ p n).1⟩,0):=by
 rcases xq hp (n:=n) oM h1 with⟨f1,f2⟩|⟨S,q,L,st,f1,f2,f3,f4,f5,f6,f7,f8,f9,f10,f11⟩
 ·left;have:(fZ p n).2=50:=f1;refine⟨this,?_⟩;unfold gi;rw[if_pos ((eH p).2 hp),if_pos ⟨h0,h1⟩,this,if_neg oM]
 ·right;have tF:p.bZ.bh.length=p.bY.heard.length:=by rw[hp.bh,List.length_map]
  obtain⟨⟨d1,d2⟩,d3,d4,d5⟩:=lW hp.cu;have hL:(fZ p n).1=⟨S,[],-1,false⟩:=by unfold fZ;simp only[f1,sj]
  have hE:(fZ p n).2=0\/(fZ p n).2=40:=by
   unfold fZ;rcases f11 with h|h
   ·exact .inl h.1
   ·exact .inr h
  have oa:dt ⟨S,[],-1,false⟩=true:=qs oM f3 oM oM;have hO:dC (fZ p n).1=(⟨(p.bY.heard.take q).map bW,p.bZ.many,q⟩,0):=by
   rw[hL,HL oa rfl rfl];simp only[f7,f2,hp.many,List.length_take,Nat.min_eq_left f6,List.map_take,hp.bh];rw[Nat.min_eq_left (by rw[List.length_map];omega)]
  refine⟨q,hE,by omega,⟨by rw[hL];simp[Lm];omega,by rw[hL];simp[Lm]⟩,hO,?_⟩;unfold gi;rw[if_pos ((eH p).2 hp),if_pos ⟨h0,h1⟩,if_pos hE,hO];simp only[List.length_map,List.length_take];rw[Nat.min_eq_left oM]
theorem WL.same:∀xs:List D,WL xs xs
 |[]=> .nil
 |_::xs=> .cons (.refl _) (WL.same xs)
instance(p:bI)(n:Int):Ct 20 [p.d,I n] (rD p) (.aL [(gi p n).1.d,I (gi p n).2]):=by
 obtain⟨s,⟨rs,M,y⟩,⟨S,W,L,st⟩⟩:=p;refine bf f20 [] [.cell 4 41,.tmp 5] fun pre=>?_;have hC:=(Bs ⟨s,⟨rs,M,y⟩,⟨S,W,L,st⟩⟩).h pre;obtain⟨os,ol,oh,oj,od⟩:=pre;simp only at os ol oh oj od;generalize hR:gi ⟨s,⟨rs,M,y⟩,⟨S,W,L,st⟩⟩ n=R;by_cases h1:iN ⟨s,⟨rs,M,y⟩,⟨S,W,L,st⟩⟩=true
 rotate_left
 ·rw[if_neg h1]at hC;unfold gi at hR;rw[if_neg h1]at hR;haveI:Ct 16 [bI.d ⟨s,⟨rs,M,y⟩,⟨S,W,L,st⟩⟩] True (I 580):=⟨fun _=>hC⟩
  subst hR;clear hC h1;repeat' first|exact zQ|with_reducible apply zJ<;>intro _|refine zK ?_
  exact wk
 rw[if_pos h1]at hC;haveI:Ct 16 [bI.d ⟨s,⟨rs,M,y⟩,⟨S,W,L,st⟩⟩] True (I 0):=⟨fun _=>hC⟩
 by_cases hn:0<=n/\n<=65536
 rotate_left
 ·unfold gi at hR;rw[if_pos h1,if_neg hn]at hR;subst hR;clear hC h1;have hnn:n<0\/(¬n<0/\(65536:Int)<n):=oM;rcases hnn with c|⟨c,c2⟩
  all_goals
   repeat' first|exact zQ|with_reducible apply zJ<;>intro _|refine zK ?_
   exact wk
 have yq:=(eH _).1 h1;have bw:=yq.stop;have hW:=yq.bC;simp only at bw hW;obtain⟨n1,n2⟩:=hn;have c1:¬n<0:=oM;have c2:¬(65536:Int)<n:=oM;have Nl:=Ls yq n1 n2;have JE:ao prog 60 [cI.d ⟨S,W,L,st⟩,I n] (.aL [cI.d ⟨S,W,n,st⟩,I 0]):=by
  have key:∀(d:cI) (n:Int),Ct 60 [d.d,I n] (okD d) (.aL [(xp d n).1.d,I (xp d n).2]):=fun d n=>inferInstance;have h2:=(key ⟨S,W,L,st⟩ n).h od;rwa[show xp ⟨S,W,L,st⟩ n=(⟨S,W,n,st⟩,0) by unfold xp mU;rw[yq.cu];subst bw;simp;omega]at h2
 have hJ:=J5 rs M y S W n st oj ⟨od.1,od.2⟩;unfold fZ at Nl;simp only[y4]at Nl;generalize hQ:gV ⟨rs,M,y⟩ ⟨S,W,n,st⟩=q at *;obtain⟨j',d',e'⟩:=q;simp only at Nl;have hB:ao prog 61 [d'.d] (sj d').d:=by
  have key:∀d:cI,Ct 61 [d.d] True (sj d).d:=fun d=>inferInstance;exact(key d').h trivial
 haveI:Ct 60 [cI.d ⟨S,W,L,st⟩,I n] True (.aL [cI.d ⟨S,W,n,st⟩,I 0]):=⟨fun _=>JE⟩
 haveI:Ct 58 [.agg [.sl 1 (rs.map aU),I M,I y],.agg [.sl 1 (S.map aU),.sl 2 (W.map bX.d),I n,.bool st]] True (.aL [j'.d,d'.d,I e']):=⟨fun _=>hJ⟩
 have hO:=fun h:okD (sj d')=>(WQ (sj d')).h h;generalize sj d'=D2 at *;haveI:Ct 61 [d'.d] True D2.d:=⟨fun _=>hB⟩
 rw[hR]at Nl;clear JE hJ hB hQ hC h1 yq bw hW hR;rcases Nl with⟨rfl,rfl⟩|⟨q,he,hq,bD,Vy,rfl⟩
 ·repeat' first|exact zQ|with_reducible apply zJ<;>intro _|refine zK ?_
  exact wk
 have hO:=hO bD;rw[Vy]at hO;haveI:Ct 36 [D2.d] True (.aL [gm.d ⟨(s.heard.take q).map bW,M,q⟩,I 0]):=⟨fun _=>hO⟩
 clear hO Vy;have tA:(s.heard.take q).length=q:=by simp;omega
 have bV:∀x∈s.heard.take q,lK x:=fun x hx=>oh x (List.mem_of_mem_take hx);generalize s.heard.take q=K at *;have tz:K.length<=1099511627776:=oM;clear oh hO bD;subst tA;rcases he with rfl|rfl;all_goals
  repeat' first|exact zQ|with_reducible apply zJ<;>intro _|refine zK ?_
  refine cm K [(5,5),(11,13),(74,94)] [(2,2),(12,12),(91,91)] (fun j τ β=>τ 74=I j/\∃x,β 2=⟨1,1,22,41,[.agg (I s.sources::I s.er::I s.chunk::I s.quiet::I s.late::I s.pL::I s.most:: .sl 6 (s.eD.map aS.d):: .sl 8 (s.dU.map Term.d):: .sl 10 (s.mN.map cj.d):: .sl 5 (s.eh.map aO.d):: .sl 7 (s.jX.map bS.d):: .sl 14 (s.cr.map cy.d):: .sl 4 (s.eL.map ca.d)::x:: .sl 1 ((K.map bW).map aU)::I M::I (K.length:Int)::D2.l)]⟩/\aX β [91] 48 8 x ((K.take j).map bc.d)) (by simp[Lm];omega) ⟨by simp[go_sem],.aq,by simp[ak],.nil _ _ _ _⟩ (fun j x τ β hx hj hw hi=>?_) fun τ β hn hi=>?_
  ·obtain⟨h74,z,b2,hv⟩:=hi;have EZ:=bV x (mG hx);have hf:=hv.facts;have fP:(K.take j).map bc.d++[x.d]=(K.take (j+1)).map bc.d:=by rw[List.take_add_one,hx];simp
   have fw:((K.take j).map bc.d).length<=K.length:=by simp;omega
   replace fw:Hid _:=fw;repeat' first|exact zQ|with_reducible apply zJ<;>intro _|refine zK ?_
   refine app [91] (hv.of fun t ht=>by simp at ht;subst ht;simp[ak,bn,di]) (fun x' β aT=>?_) (by have:=fw.out;simp only[List.length_cons,List.length_nil];omega);have kD:=aT.facts;replace aT:aX β [91] 48 8 x' ((K.take j).map bc.d++[x.d]):=aT;rw[fP]at aT;clear fP;repeat' first|exact zQ|with_reducible apply zJ<;>intro _|refine zK ?_
   exact⟨x',rfl,aT.of fun t ht=>by simp at ht;subst ht;simp[ak,bn,di]⟩
  ·obtain⟨h74,z,b2,hv⟩:=hi;rw[tL]at hv;obtain⟨r,r1,⟨r2,r4,r5⟩,r3⟩:=Br hv (by rw[cZ];simp[D.pure,D.aF,cZ]);have hf:=hv.facts;repeat' first|exact zQ|with_reducible apply zJ<;>intro _|refine zK ?_
   rw[r3]
   rotate_left
   ·intro t ht;simp at ht;subst ht;simp[ak,bn,di]
   clear r3 hv b2;repeat' first|exact zQ|with_reducible apply zJ<;>intro _|refine zK ?_
   refine rN (.cons (fF ?_) (.cons (.refl _) .nil));exact .cons (.refl _) (.cons (.refl _) (.cons (.refl _) (.cons (.refl _) (.cons (.refl _) (.cons (.refl _) (.cons (.refl _) (.cons (.refl _) (.cons (.refl _) (.cons (.refl _) (.cons (.refl _) (.cons (.refl _) (.cons (.refl _) (.cons (.refl _) (.cons r1 (WL.same _)))))))))))))))
section
variable (a b c d e f g:Int) (gr:List aS) (te:List Term) (ho:List cj) (bu:List aO) (tr:List bS) (vi:List cy) (vs:List ca) (he:List bc)
instance (priority:=low):Ct 37 [.agg [I a,I b,I c,I d,I e,I f,I g,.sl 6 (gr.map aS.d),.sl 8 (te.map Term.d),.sl 10 (ho.map cj.d),.sl 5 (bu.map aO.d),.sl 7 (tr.map bS.d),.sl 14 (vi.map cy.d),.sl 4 (vs.map ca.d),.sl 8 (he.map bc.d)]] (St.eA ⟨a,b,c,d,e,f,g,gr,te,ho,bu,tr,vi,vs,he⟩) (I (bQ ⟨a,b,c,d,e,f,g,gr,te,ho,bu,tr,vi,vs,he⟩)):=by
 have key:∀s:aV,Ct 37 [s.d] (St.eA s) (I (bQ s)):=fun s=>inferInstance;exact key ⟨a,b,c,d,e,f,g,gr,te,ho,bu,tr,vi,vs,he⟩
end
section
variable (S:List ah) (W:List bX) (L:Int) (st:Bool) (rs:List ah) (M y:Int)
end
instance(s:aV)(n:Int):Ct 12 [s.d,I n] (St.eA s) (.aL [(eu s n).1.d,I (eu s n).2]):=by
 refine bf f12 [] [.cell 4 41,.tmp 5] fun pre=>?_;generalize hR:eu s n=R;have hlh:=pre.lh;by_cases h1:bQ s=0
 rotate_left
 ·unfold eu at hR;rw[if_neg h1]at hR;subst hR;repeat' first|exact zQ|with_reducible apply zJ<;>intro _|refine zK ?_
  exact wk
 by_cases h2:s.heard.length=0
 rotate_left
 ·unfold eu at hR;rw[if_pos h1,if_neg h2]at hR;subst hR;have c:(0:Int)<(s.heard.length:Int):=oM;repeat' first|exact zQ|with_reducible apply zJ<;>intro _|refine zK ?_
  exact wk
 have c:¬(0:Int)<(s.heard.length:Int):=oM;unfold eu at hR;rw[if_pos h1,if_pos h2]at hR;by_cases hn:1<=n/\n<=4096
 rotate_left
 ·have hN:jx n=(d0,1):=by unfold jx;rw[if_neg hn]
  rw[hN,if_neg (by decide)]at hR;subst hR;repeat' first|exact zQ|with_reducible apply zJ<;>intro _|refine zK ?_
  exact wk
 have hN:jx n=(⟨List.replicate n.toNat cK,[],-1,false⟩,0):=by unfold jx;rw[if_pos hn]
 have oa:dt ⟨List.replicate n.toNat cK,[],-1,false⟩=true:=qs (by simp;omega) (fun b hb=>by obtain⟨_,rfl⟩:=List.mem_replicate.1 hb;exact nK) oM oM;have hO:dC ⟨List.replicate n.toNat cK,[],-1,false⟩=(⟨[],n,0⟩,0):=by
  unfold dC;rw[if_pos oa,if_neg sI,if_pos sI];simp only[uJ,List.length_replicate,List.length_nil];rw[Int.toNat_of_nonneg oM];rfl
 have hk:okD ⟨List.replicate n.toNat cK,[],-1,false⟩:=⟨by simp[Lm];omega,by simp[Lm]⟩
 clear oa;generalize(⟨List.replicate n.toNat cK,[],-1,false⟩:cI)=dk at *;rw[hN]at hR;simp only[if_true,hO]at hR;subst hR;repeat' first|exact zQ|with_reducible apply zJ<;>intro _|refine zK ?_
 exact wk
instance Xx(p:bI):Ct 17 [p.d] (rD p) (I (if iN p then 0 else 580)):=by
 obtain⟨s,⟨rs,M,y⟩,⟨S,W,L,st⟩⟩:=p;refine bf f17 [(4,[(6,3)]),(6,[(9,6),(9,3)])] [.tmp 2] fun pre=>?_;obtain⟨os,ol,oh,oj,od⟩:=pre;simp only at os ol oh oj od;generalize hR:(if iN ⟨s,⟨rs,M,y⟩,⟨S,W,L,st⟩⟩then 0 else 580:Int)=R;have no:∀(h:¬PG ⟨s,⟨rs,M,y⟩,⟨S,W,L,st⟩⟩),R=580:=fun h=>by rw[<-hR,if_neg (fun h2=>h ((eH _).1 h2))]
 by_cases h1:bQ s=0
 rotate_left
 ·obtain rfl:=no fun h=>h1 h.bY;clear hR no;repeat' first|exact zQ|with_reducible apply zJ<;>intro _|refine zK ?_
 by_cases h2:kh ⟨rs,M,y⟩=true
 rotate_left
 ·obtain rfl:=no fun h=>h2 h.bZ;clear hR no;repeat' first|exact zQ|with_reducible apply zJ<;>intro _|refine zK ?_
 by_cases h3:dt ⟨S,W,L,st⟩=true
 rotate_left
 ·obtain rfl:=no fun h=>h3 h.cu;clear hR no;repeat' first|exact zQ|with_reducible apply zJ<;>intro _|refine zK ?_
 have ng:=xa S;obtain⟨⟨s1,s2⟩,s3,s4,s5⟩:=lW h3;simp only at s1 s2 s3 s4 s5;have hoL:Fb S:=⟨by omega,s3⟩
 have aeo:Lm (cF S):=by simp[Lm,cF];omega
 obtain⟨⟨m1,m2⟩,j3,j4,j5⟩:=kJ h2;simp only at m1 m2 j3 j4 j5;have hrL:Lm rs:=by have:=l_ rs;simp[Lm];omega
 have hyL:Lm (rs.take y.toNat):=by simp[Lm]at hrL⊢;omega
 clear s3 s4 s5 ng;replace hR:Hid _:=hR;replace no:Hid _:=no;by_cases h4:st=true
 ·obtain rfl:=no.out fun h=>by have:=h.stop;simp[h4]at this
  subst h4;clear hR no;repeat' first|exact zQ|with_reducible apply zJ<;>intro _|refine zK ?_
 have h4:st=false:=by simpa using h4
 subst h4;by_cases h5:W.length=0
 rotate_left
 ·obtain rfl:=no.out fun h=>h5 (by have:=h.bC;simp only at this;rw[this];rfl);have c:(0:Int)<(W.length:Int):=oM;clear hR no;repeat' first|exact zQ|with_reducible apply zJ<;>intro _|refine zK ?_
 have c:¬(0:Int)<(W.length:Int):=oM;have h5:Hid (W=[]):=List.length_eq_zero_iff.1 h5;by_cases h6:L= -1
 rotate_left
 ·obtain rfl:=no.out fun h=>h6 h.left;clear hR no;repeat' first|exact zQ|with_reducible apply zJ<;>intro _|refine zK ?_
 subst h6;by_cases h7:(S.length:Int)=M
 rotate_left
 ·obtain rfl:=no.out fun h=>h7 h.many.symm;clear hR no;repeat' first|exact zQ|with_reducible apply zJ<;>intro _|refine zK ?_
 subst h7;have hsL:s.heard.length<=1099511627776/\∀h∈s.heard,lK h:=⟨ol,oh⟩
 replace oh:Hid _:=oh;have hoL2:Lm (s.heard.map bW):=by simp[Lm];omega
 by_cases h8:rs=s.heard.map bW
 rotate_left
 ·obtain rfl:=no.out fun h=>h8 h.bh;have hd:decide (rs=s.heard.map bW)=false:=decide_eq_false h8;clear hR no h8;repeat' first|exact zQ|with_reducible apply zJ<;>intro _|refine zK ?_
 have hd:decide (rs=s.heard.map bW)=true:=decide_eq_true h8;replace h8:Hid _:=h8;by_cases h9:cF S=rs.take y.toNat
 rotate_left
 ·obtain rfl:=no.out fun h=>h9 h.read;have qj:decide (cF S=rs.take y.toNat)=false:=decide_eq_false h9;have hc:eb (rs.map aU).length (none:Option Int) (some y)=some (0,y.toNat):=by simp[eb];omega
  clear hR no h9;repeat' first|exact zQ|with_reducible apply zJ<;>intro _|refine zK ?_
 have qj:decide (cF S=rs.take y.toNat)=true:=decide_eq_true h9;have yq:PG ⟨s,⟨rs,S.length,y⟩,⟨S,W,-1,false⟩⟩:=⟨h1,h2,h3,rfl,h5.out,rfl,rfl,h8.out,h9⟩
 obtain rfl:=hR.out.symm.trans (if_pos ((eH _).2 yq));have hc:eb (rs.map aU).length (none:Option Int) (some y)=some (0,y.toNat):=by simp[eb];omega
 clear hR no yq h9;repeat' first|exact zQ|with_reducible apply zJ<;>intro _|refine zK ?_
end Go.V.Jn
namespace Go.V.Jn
open Go.Proofs Go.Proofs.Tryz Go.RowKit Go.V.Lx Go.V.Gr Go.V.Ty Go.V.St
instance (priority:=low)(rs:List ah)(M y:Int)(b:ah):Ct 44 [.agg [.sl 1 (rs.map aU),I M,I y],aU b] (oK rs/\b.length<=1099511627776/\rs.length<=1048576) (.aL [(fU ⟨rs,M,y⟩ b).1.d,I (fU ⟨rs,M,y⟩ b).2]):=by
 have key:∀j:gm,Ct 44 [j.d,aU b] (oK j.bh/\b.length<=1099511627776/\j.bh.length<=1048576) (.aL [(fU j b).1.d,I (fU j b).2]):=fun j=>inferInstance;exact key ⟨rs,M,y⟩
instance(s:aV)(l:List D):Ct 43 [s.d,.sl 8 l] True (.agg [I s.sources,I s.er,I s.chunk,I s.quiet,I s.late,I s.pL,I s.most,.sl 6 (s.eD.map aS.d),.sl 8 (s.dU.map Term.d),.sl 10 (s.mN.map cj.d),.sl 5 (s.eh.map aO.d),.sl 7 (s.jX.map bS.d),.sl 14 (s.cr.map cy.d),.sl 4 (s.eL.map ca.d),.sl 8 l]):=by
 refine bf f43 [] [.cell 4 33] fun pre=>?_;repeat' first|exact zQ|with_reducible apply zJ<;>intro _|refine zK ?_
def MM{C:Calc}{bx:ae}{f:Nat}{a x y d:D}{ts:List Nat}{el esz:Nat}{xs:List D}{K2:Cl->D->ae->Prop}(hv:aX bx ts el esz x xs)(h:C.o.to f [a,y] d)(ha:bz bx a=some a)(hn:bH [a]=[])(ho:bz bx x=some y)(bF:C.lo=0)(hk:∀F:ae,(∀q,q∉ts->F q=bx q)->K2 .wa d F):fz C f [a,x] bx K2:=
 Gh h (by rw[dY,ha,dY,ho];rfl) bF (hk _ fun q hq=>by
  rw[fe,if_neg];intro hm;have tC:Go.V.names a=[]:=by simpa[bH]using hn
  have oB:q∈Go.V.names x:=by simpa[bH,tC]using hm
  exact hq (aX.names hv q oB))
def H4(s:aV)(h:bc)(rs:List ah)(M y:Int)(S:List ah)(W:List bX)(L:Int)(st:Bool)(σ:Env)(B:ae):Prop:=σ 2= .loc 2 1 0 0/\σ 3= .loc 3 1 0 0/\σ 4= .loc 4 1 0 0/\σ 6= .loc 6 1 0 0/\B 2=⟨1,1,22,41,[bI.d ⟨s,⟨rs,M,y⟩,⟨S,W,L,st⟩⟩]⟩/\B 3=⟨1,1,8,48,[h.d]⟩/\B 4=⟨1,1,22,41,[pz]⟩/\B 6=⟨1,1,15,33,[(bL s (s.heard++[h])).d]⟩
instance(p:bI)(h:bc):Ct 14 [p.d,h.d] (rD p/\lK h/\St.eA (bL p.bY (p.bY.heard++[h]))/\(bW h).length<=1099511627776/\p.bZ.bh.length<=1048576) (.aL [(d_ p h).1.d,I (d_ p h).2]):=by
 obtain⟨s,⟨rs,M',y⟩,⟨S,W,L,st⟩⟩:=p;refine bf f14 [(1000015,[]),(2000003,[]),(3,[(11,10),(10,7),(11,6),(10,5),(6,5),(11,4),(10,4),(7,4),(6,4),(11,3),(11,1),(10,1),(7,1),(6,1),(5,1),(4,1),(3,1),(2,1)]),(6,[(9,7),(9,2),(8,2),(7,2),(6,2)])] [.cell 4 41,.tmp 5] fun pre=>?_;obtain⟨pre,oh2,Oa,ob,orl⟩:=pre;have hC:=(Xx ⟨s,⟨rs,M',y⟩,⟨S,W,L,st⟩⟩).h pre;obtain⟨os,ol,oh,oj,od⟩:=pre;simp only at os ol oh oj od Oa orl;generalize hR:d_ ⟨s,⟨rs,M',y⟩,⟨S,W,L,st⟩⟩ h=R;unfold d_ at hR;by_cases h1:iN ⟨s,⟨rs,M',y⟩,⟨S,W,L,st⟩⟩=true
 rotate_left
 ·rw[if_neg h1]at hR hC;haveI:Ct 17 [bI.d ⟨s,⟨rs,M',y⟩,⟨S,W,L,st⟩⟩] True (I 580):=⟨fun _=>hC⟩
  subst hR;clear hC h1;repeat' first|exact zQ|with_reducible apply zJ<;>intro _|refine zK ?_
  exact wk
 rw[if_pos h1]at hR hC;haveI:Ct 17 [bI.d ⟨s,⟨rs,M',y⟩,⟨S,W,L,st⟩⟩] True (I 0):=⟨fun _=>hC⟩
 simp only at hR;clear hC h1;have c5:([]++s.heard.map bc.d++[D.agg [I h.at_,I h.src,I h.seq,I h.ir,I h.kind,I h.jy,I h.cut,.sl 5 (h.words.map Word.d)]])=(s.heard++[h]).map bc.d:=by simp
 have c6:D.aF ((s.heard++[h]).map bc.d)=true:=by rw[cZ];simp[D.pure,D.aF,cZ]
 replace c5:Hid _:=c5;have hW:∀l:List D,Ct 43 [s.d,.sl 8 l] True (.agg [I s.sources,I s.er,I s.chunk,I s.quiet,I s.late,I s.pL,I s.most,.sl 6 (s.eD.map aS.d),.sl 8 (s.dU.map Term.d),.sl 10 (s.mN.map cj.d),.sl 5 (s.eh.map aO.d),.sl 7 (s.jX.map bS.d),.sl 14 (s.cr.map cy.d),.sl 4 (s.eL.map ca.d),.sl 8 l]):=fun l=>inferInstance;replace hW:=(hW ((s.heard++[h]).map bc.d)).h trivial;replace hW:Hid _:=hW;repeat' first|exact zQ|with_reducible apply zJ<;>intro _|refine zK ?_
 refine S5 (H4 s h rs M' y S W L st) (iS (.bm 0 (.bm 3 (.bm 4 (.load 1 2 (.load 5 2 (.load 7 3 (.both 2 [2,3] (.both 6 [2,3] (.both 8 [2] (.both 9 [2] (.both 10 [] (.both 11 [2,3] (.both 12 [] .fin .stop) .stop) (.both 11 [2,3] (.both 10 [] (.both 12 [] .fin .stop) .stop) .stop)) (.both 11 [2,3] (.both 9 [2] (.both 10 [] (.both 12 [] .fin .stop) .stop) .stop) .stop)) (.both 11 [2,3] (.both 8 [2] (.both 9 [2] (.both 10 [] (.both 12 [] .fin .stop) .stop) .stop) .stop) .stop)) (.both 8 [2] (.both 6 [2,3] (.both 9 [2] (.both 10 [] (.both 11 [2,3] (.both 12 [] .fin .stop) .stop) (.both 11 [2,3] (.both 10 [] (.both 12 [] .fin .stop) .stop) .stop)) (.both 11 [2,3] (.both 9 [2] (.both 10 [] (.both 12 [] .fin .stop) .stop) .stop) .stop)) (.both 11 [2,3] (.both 6 [2,3] (.both 9 [2] (.both 10 [] (.both 12 [] .fin .stop) .stop) .stop) .stop) .stop)) (.both 11 [2,3] (.both 6 [2,3] (.both 8 [2] (.both 9 [2] (.both 10 [] (.both 12 [] .fin .stop) .stop) .stop) .stop) (.both 8 [2] (.both 6 [2,3] (.both 9 [2] (.both 10 [] (.both 12 [] .fin .stop) .stop) .stop) .stop) .stop)) .stop))) (.both 8 [2] (.both 2 [2,3] (.both 6 [2,3] (.both 9 [2] (.both 10 [] (.both 11 [2,3] (.both 12 [] .fin .stop) .stop) (.both 11 [2,3] (.both 10 [] (.both 12 [] .fin .stop) .stop) .stop)) (.both 11 [2,3] (.both 9 [2] (.both 10 [] (.both 12 [] .fin .stop) .stop) .stop) .stop)) (.both 11 [2,3] (.both 6 [2,3] (.both 9 [2] (.both 10 [] (.both 12 [] .fin .stop) .stop) .stop) .stop) .stop)) (.both 11 [2,3] (.both 2 [2,3] (.both 6 [2,3] (.both 9 [2] (.both 10 [] (.both 12 [] .fin .stop) .stop) .stop) .stop) .stop) .stop)) (.both 11 [2,3] (.both 2 [2,3] (.both 6 [2,3] (.both 8 [2] (.both 9 [2] (.both 10 [] (.both 12 [] .fin .stop) .stop) .stop) .stop) (.both 8 [2] (.both 6 [2,3] (.both 9 [2] (.both 10 [] (.both 12 [] .fin .stop) .stop) .stop) .stop) .stop)) (.both 8 [2] (.both 2 [2,3] (.both 6 [2,3] (.both 9 [2] (.both 10 [] (.both 12 [] .fin .stop) .stop) .stop) .stop) .stop) .stop)) .stop))))))))) aj ?_) ?_
 ·repeat' first|exact zQ|with_reducible apply zJ<;>intro _|refine zK ?_
  all_goals repeat' (with_reducible apply And.intro)
  all_goals
   repeat' first|exact zQ|with_reducible apply zJ<;>intro _|refine zK ?_
   refine app [15,19,22] (x:=.bE 15 1 8 0 0) (xs:=[]) (.inr ⟨15,1,by simp,rfl,by simp[ak]⟩) (fun x1 B1 iA=>?_) (by simp;omega);have pP:=iA.facts;repeat' first|exact zQ|with_reducible apply zJ<;>intro _|refine zK ?_
  all_goals repeat' (with_reducible apply And.intro)
  all_goals
   repeat' first|exact zQ|with_reducible apply zJ<;>intro _|refine zK ?_
   refine app [15,19,22] (iA.of fun t ht=>by simp at ht;rcases ht with rfl|rfl|rfl<;>simp[bn,di,ak]) (fun x2 B2 dZ=>?_) (by simp;omega);have G4:=dZ.facts;repeat' first|exact zQ|with_reducible apply zJ<;>intro _|refine zK ?_
  all_goals repeat' (with_reducible apply And.intro)
  all_goals
   repeat' first|exact zQ|with_reducible apply zJ<;>intro _|refine zK ?_
  all_goals
   replace dZ:aX B2 [15,19,22] 48 8 x2 ((s.heard++[h]).map bc.d):=by rw[<-c5.out];exact dZ
   refine MM (dZ.of fun t ht=>by simp at ht;rcases ht with rfl|rfl|rfl<;>simp[bn,di,ak]) (hW.out) sG (by simp[bH,Go.V.names]) (HQ dZ sI c6 _ fun t ht=>by simp at ht;rcases ht with rfl|rfl|rfl<;>simp[bn,di,ak]) rfl fun F hF=>?_;have k2:=hF 2 sI;have k3:=hF 3 sI;have k4:=hF 4 sI;have k6:=hF 6 sI;simp[bn,di,ak]at k2 k3 k4 k6;clear hF dZ G4;repeat' first|exact zQ|with_reducible apply zJ<;>intro _|refine zK ?_
  all_goals repeat' (with_reducible apply And.intro)
  all_goals exact⟨by simp[ak],by simp[ak],by simp[ak],by simp[ak],by simp[ak,k2],by simp[ak,k3],by simp[ak,k4],by simp[ak,k6]⟩
 ·rintro σ bx ⟨k2,k3,k4,k6,b2,b3,b4,b6⟩;clear c5 c6 hW;have hS:ao prog 37 [(bL s (s.heard++[h])).d] (I (bQ (bL s (s.heard++[h])))):=by
   have key:Ct 37 [(bL s (s.heard++[h])).d] (St.eA (bL s (s.heard++[h]))) (I (bQ (bL s (s.heard++[h])))):=inferInstance;exact key.h Oa
  have hA:ao prog 44 [gm.d ⟨rs,M',y⟩,aU (bW h)] (.aL [(fU ⟨rs,M',y⟩ (bW h)).1.d,I (fU ⟨rs,M',y⟩ (bW h)).2]):=by
   have key:Ct 44 [gm.d ⟨rs,M',y⟩,aU (bW h)] (oK rs/\(bW h).length<=1099511627776/\rs.length<=1048576) (.aL [(fU ⟨rs,M',y⟩ (bW h)).1.d,I (fU ⟨rs,M',y⟩ (bW h)).2]):=inferInstance;exact key.h ⟨oj,ob,orl⟩
  have hRO:ao prog 45 [h.d] (aU (bW h)):=by
   have key:Ct 45 [h.d] (okW (cV h)/\(bW h).length<=1099511620000) (aU (bW h)):=inferInstance;exact key.h oh2
  generalize bQ (bL s (s.heard++[h]))=e at *;generalize bW h=rc at *;generalize fU ⟨rs,M',y⟩ rc=q at *;obtain⟨j',e2⟩:=q;simp only at hR hA;haveI:Ct 37 [(bL s (s.heard++[h])).d] True (I e):=⟨fun _=>hS⟩
  haveI:Ct 44 [gm.d ⟨rs,M',y⟩,aU rc] True (.aL [j'.d,I e2]):=⟨fun _=>hA⟩
  haveI:Ct 45 [h.d] True (aU rc):=⟨fun _=>hRO⟩
  clear hS hA hRO;generalize s.heard++[h]=H2 at *;by_cases h2:e=0
  rotate_left
  ·rw[if_neg h2]at hR;subst hR;repeat' first|exact zQ|with_reducible apply zJ<;>intro _|refine zK ?_
   exact wk
  rw[if_pos h2]at hR;by_cases h3:e2=0
  ·rw[if_pos h3]at hR;subst hR;repeat' first|exact zQ|with_reducible apply zJ<;>intro _|refine zK ?_
  ·rw[if_neg h3]at hR;subst hR;repeat' first|exact zQ|with_reducible apply zJ<;>intro _|refine zK ?_
   exact wk
def DM{P:Program}{C:Calc}{Q:DX->Env->ae->Prop}{σ:Env}{bx:ae}{c:Code}{α:Type}(l:List α)(n:Nat)(N:Int)(hN:N=n){p:α->Bool}{A:Bool}(hA:(l.take n).all p=A)(i:Nat)(M MB:List (Nat×Nat))(hl:Lm l)(h0:σ i= .int .i64 0)
 (hb:∀(j:Nat) x τ β,l[j]? =some x->(j:Int)<(l.length:Int)->(j:Int)<N->IntKind.i64.wrap ((j:Int)+1)=((j+1:Nat):Int)->τ i= .int .i64 j->Hid (p x=false->A=false)->
  cD P C c (dG (LN M MB σ bx fun τ' _=>τ' i= .int .i64 ((j+1:Nat):Int)/\p x=true) Q) (bn M τ σ) (bn MB β bx))
 (he:∀τ β (m:Nat),(¬(m:Int)<(l.length:Int))\/(m:Int)<(l.length:Int)/\¬(m:Int)<N->τ i= .int .i64 m->A=true->cD P C c (dG (fun _ _=>False) Q) (bn M τ σ) (bn MB β bx)):cD P C (.loop c) Q σ bx:=by
 have G8:(l.take n).length=min n l.length:=List.length_take;refine gR (l.take n) hA i M MB (by simp[Lm]at hl⊢;omega) h0 (fun j x τ β hx h1 h2 hi aP=>?_) fun τ β hn hi ha=>?_
 ·have hj:j<(l.take n).length:=(gS.1 hx).1;rw[List.getElem?_take_of_lt oM]at hx;exact hb j x τ β hx oM oM h2 hi aP
 ·exact he τ β _ (by rw[G8];omega) hi ha
def U_(x:Word):Bool:= !(decide ((10:Int)<(x.alts.length:Int))||decide ((200:Int)<(x.t.length:Int)))
def wx(l:List Word):Bool:= !(decide ((80:Int)<(l.length:Int))&&decide ((l.length:Int)<=4096)||decide ((5000:Int)<(l.length:Int)))&&(l.take 100).all U_
instance(l:List Word):Ct 33 [.sl 5 (l.map Word.d)] (Lm l) (.bool (wx l)):=by
 refine bf f33 [] [.tmp 2] fun pre=>?_;unfold wx;generalize hA:List.all _ _=A;repeat' first|exact zQ|with_reducible apply zJ<;>intro _|refine zK ?_
 all_goals first|exact ab (congrArg D.bool (by simp[*];done))|skip
 all_goals refine DM l 100 100 rfl hA 3 [(2,3),(17,42)] [] pre sG (fun j x τ β hx hj yD hw hi aP=>?_) fun τ β m hn hi ha=>?_
 all_goals first
  |(
   unfold U_ at aP⊢;repeat' first|exact zQ|with_reducible apply zJ<;>intro _|refine zK ?_
   all_goals first|with_reducible exact .refl _|(refine ab ?_;have aP:=aP.out zz;simp[*];done)|((try refine ab ?_);exact zz)
   done)
  |(rcases hn with hn|⟨hn,sc⟩<;>
   (
    repeat' first|exact zQ|with_reducible apply zJ<;>intro _|refine zK ?_
    all_goals first|with_reducible exact .refl _|(refine ab ?_;have aP:=aP.out zz;simp[*];done)|((try refine ab ?_);exact zz)))
def Ry(x:Sign):Bool:= !(decide ((40:Int)<(x.t.length:Int))||decide ((10:Int)<(x.c.length:Int)))
def KT(v:cy):Bool:= !(decide ((20:Int)<(v.js.gs.length:Int))||decide ((20:Int)<(v.js.ks.length:Int))||decide ((70:Int)<(v.iH.length:Int))||decide ((40:Int)<(v.jV.bl.length:Int)))
def U9(v:cy):Bool:=KT v&&v.iH.all Ry
def FP(l:List cy):Bool:= !(decide ((4:Int)<(l.length:Int))&&decide ((l.length:Int)<=4096)||decide ((4200:Int)<(l.length:Int)))&&(l.take 10).all U9
instance(l:List cy):Ct 29 [.sl 14 (l.map cy.d)] (Lm l) (.bool (FP l)):=by
 refine bf f29 [] [.tmp 2] fun pre=>?_;unfold FP;generalize hA:List.all _ _=A;repeat' first|exact zQ|with_reducible apply zJ<;>intro _|refine zK ?_
 all_goals first|exact ab (congrArg D.bool (by simp[*];done))|skip
 all_goals refine DM l 10 10 rfl hA 3 [(2,5),(19,82)] [(4,4)] pre sG (fun j x τ β hx hj yD hw hi aP=>?_) fun τ β m hn hi ha=>?_
 all_goals first
  |(rcases hn with hn|⟨hn,sc⟩<;>
   (
    repeat' first|exact zQ|with_reducible apply zJ<;>intro _|refine zK ?_
    all_goals first|with_reducible exact .refl _|(refine ab ?_;have aP:=aP.out zz;simp[*];done)|((try refine ab ?_);exact zz)
    done))
  |skip
 all_goals
  unfold U9 at aP⊢;generalize hB:List.all x.iH _=B at *;have xG:KT x= !(decide ((20:Int)<(x.js.gs.length:Int))||decide ((20:Int)<(x.js.ks.length:Int))||decide ((70:Int)<(x.iH.length:Int))||decide ((40:Int)<(x.jV.bl.length:Int))):=rfl;generalize KT x=F at *;replace xG:Hid _:=xG;repeat' first|exact zQ|with_reducible apply zJ<;>intro _|refine zK ?_
  all_goals first
   |(have aP:=aP.out (by rw[xG.out];simp[*]);exact ab (congrArg D.bool (by simp[*];done)))
   |skip
  all_goals
   refine gR x.iH hB 5 [(2,2),(5,5),(58,82)] [] (by simp[Lm];omega) sG (fun k y τ' β' hy hk iL gx Qh=>?_) fun τ' β' sc gx oy=>?_
   ·unfold Ry at Qh⊢;have Qi:(!(decide ((40:Int)<(y.t.length:Int))||decide ((10:Int)<(y.c.length:Int))))=false->A=false:=fun h=>aP.out (by rw[Qh.out h];simp);replace Qi:Hid _:=Qi;clear aP Qh xG;repeat' first|exact zQ|with_reducible apply zJ<;>intro _|refine zK ?_
    all_goals first
     |(have aP:=Qi.out (by simp[*]);exact ab (congrArg D.bool (by simp[*];done)))
     |rfl
   ·have hF:F=true:=by rw[xG.out];simp[*]
    clear xG aP;repeat' first|exact zQ|with_reducible apply zJ<;>intro _|refine zK ?_
    all_goals exact ab (congrArg D.bool (by simp[*];done))
instance(l:List Word)(a b c d e:Int):Ct 10 [.agg [I a,I b,I c,I d,I e,.sl 5 (l.map Word.d)]] (Lm l) (.bool (wx l)):=by
 refine bf f10 [] [.tmp 2] fun pre=>?_;repeat' first|exact zQ|with_reducible apply zJ<;>intro _|refine zK ?_
def FO(l:List Term):Bool:=decide ((l.length:Int)<=30)||decide ((1024:Int)<(l.length:Int))&&decide ((l.length:Int)<=1100)
instance(l:List Term):Ct 31 [.sl 8 (l.map Term.d)] (Lm l) (.bool (FO l)):=by
 refine bf f31 [] [.tmp 2] fun pre=>?_;unfold FO;repeat' first|exact zQ|with_reducible apply zJ<;>intro _|refine zK ?_
 all_goals first|with_reducible exact .refl _|(refine ab ?_;have aP:=aP.out zz;simp[*];done)|((try refine ab ?_);exact zz)
def rQ:Int->List Nat->Int
 |v,[]=>v
 |v,x::l=>if v<=9000 then rQ (v+1+x) l else v
theorem Jq{v:Int}(h:¬v<=9000):∀l:List Nat,rQ v l=v
 |[]=>rfl
 |_::_=>if_neg h
def KR(d:cI):Bool:=decide (rQ (rQ 0 (d.aZ.map List.length)) (d.bC.map fun w=>w.data.length)<=9000)
instance Zf(d:cI):Ct 32 [d.d] (okD d/\(∀b∈d.aZ,b.length<=1099511627776)/\∀w∈d.bC,w.data.length<=1099511627776) (.bool (KR d)):=by
 refine bf f32 [] [.tmp 2] fun pre=>?_;obtain⟨⟨p1,p2⟩,p3,p4⟩:=pre;unfold KR;generalize hA:rQ 0 _=A;replace p3:Hid _:=p3;replace p4:Hid _:=p4;repeat' first|exact zQ|with_reducible apply zJ<;>intro _|refine zK ?_
 refine ri (0:Nat) (fun g=>d.aZ.length - g) [(3,4),(6,25)] [] (fun g τ β=>τ 4=I g/\g<=d.aZ.length/\∃v:Int,τ 3=I v/\0<=v/\v<=2199023255552/\rQ v ((d.aZ.map List.length).drop g)=A) ⟨by simp[go_sem],by omega,0,by simp[go_sem],by omega,by omega,by simpa using hA⟩ fun g τ β hi=>?_;obtain⟨h4,hg,v,h3,vC,iA,hv⟩:=hi;have eU:((g:Int)<d.aZ.length/\v<=9000)\/((¬(g:Int)<d.aZ.length\/(g:Int)<d.aZ.length/\¬v<=9000)/\v=A):=by
  by_cases c:(g:Int)<d.aZ.length
  ·by_cases cv:v<=9000
   ·exact .inl ⟨c,cv⟩
   ·exact .inr ⟨.inr ⟨c,cv⟩,by rw[<-hv,Jq cv]⟩
  ·exact .inr ⟨.inl c,by rw[<-hv,List.drop_of_length_le (by rw[List.length_map];omega)];rfl⟩
 rcases eU with⟨c,cv⟩|⟨hx,hvA⟩
 ·obtain⟨x,hx⟩:∃x,d.aZ[g]? =some x:=⟨_,gE oM⟩
  have lG:=p3.out x (mG hx);have hn:rQ (v+1+x.length) ((d.aZ.map List.length).drop (g+1))=A:=by
   rw[List.drop_eq_getElem_cons (by rw[List.length_map];omega)]at hv;have:(d.aZ.map List.length)[g]'(by rw[List.length_map];omega)=x.length:=by rw[List.getElem_map];congr 1;exact(gS.1 hx).2
   rw[this]at hv;rw[<-hv,rQ,if_pos cv]
  have w1:IntKind.i64.wrap (v+1)=v+1:=ik _ oM oM;have w2:IntKind.i64.wrap (v+1+x.length)=v+1+x.length:=ik _ oM oM;have w3:IntKind.i64.wrap ((g:Int)+1)=((g+1:Nat):Int):=aD oM;replace hn:Hid _:=hn;clear hv;repeat' first|exact zQ|with_reducible apply zJ<;>intro _|refine zK ?_
  exact⟨g+1,by omega,rfl,by omega,_,rfl,by omega,by omega,hn.out⟩
 ·clear hv;subst hvA;rcases hx with c|⟨c,cv⟩
  all_goals
   generalize hB:rQ v _=B;repeat' first|exact zQ|with_reducible apply zJ<;>intro _|refine zK ?_
   refine ri (0:Nat) (fun g=>d.bC.length - g) [(3,3),(5,5),(26,46)] [] (fun g τ β=>τ 5=I g/\g<=d.bC.length/\∃v:Int,τ 3=I v/\0<=v/\v<=2199023255552/\rQ v ((d.bC.map fun w=>w.data.length).drop g)=B) ⟨by simp[go_sem],by omega,v,by simp[go_sem,h3],by omega,by omega,by simpa using hB⟩ fun k τ' β' gx=>?_;obtain⟨i4,ig,u,i3,iv0,iv1,iv⟩:=gx;have eU:((k:Int)<d.bC.length/\u<=9000)\/((¬(k:Int)<d.bC.length\/(k:Int)<d.bC.length/\¬u<=9000)/\u=B):=by
    by_cases c:(k:Int)<d.bC.length
    ·by_cases cv:u<=9000
     ·exact .inl ⟨c,cv⟩
     ·exact .inr ⟨.inr ⟨c,cv⟩,by rw[<-iv,Jq cv]⟩
    ·exact .inr ⟨.inl c,by rw[<-iv,List.drop_of_length_le (by rw[List.length_map];omega)];rfl⟩
   clear hB;rcases eU with⟨c2,cv2⟩|⟨eJ,hvB⟩
   ·obtain⟨x,hx⟩:∃x,d.bC[k]? =some x:=⟨_,gE oM⟩
    have lG:=p4.out x (mG hx);have hn:rQ (u+1+x.data.length) ((d.bC.map fun w=>w.data.length).drop (k+1))=B:=by
     rw[List.drop_eq_getElem_cons (by rw[List.length_map];omega)]at iv;have:(d.bC.map fun w=>w.data.length)[k]'(by rw[List.length_map];omega)=x.data.length:=by rw[List.getElem_map,(gS.1 hx).2]
     rw[this]at iv;rw[<-iv,rQ,if_pos cv2]
    have w1:IntKind.i64.wrap (u+1)=u+1:=ik _ oM oM;have w2:IntKind.i64.wrap (u+1+x.data.length)=u+1+x.data.length:=ik _ oM oM;have w3:IntKind.i64.wrap ((k:Int)+1)=((k+1:Nat):Int):=aD oM;replace hn:Hid _:=hn;clear iv;repeat' first|exact zQ|with_reducible apply zJ<;>intro _|refine zK ?_
    exact⟨k+1,by omega,rfl,by omega,_,rfl,by omega,by omega,hn.out⟩
   ·clear iv;subst hvB;rcases eJ with c2|⟨c2,cv2⟩<;>repeat' first|exact zQ|with_reducible apply zJ<;>intro _|refine zK ?_
def Se{T G:Prop}(main:(Unit->T)->G)(pf:T):G:=main fun _=>pf
def OG{g:aS}(h:mK g):Sz g:=⟨h.A7,h.A_,h.zq,fun x hx=>(h.en x hx).len,fun x hx=>⟨(h.rules x hx).wV,(h.rules x hx).KY⟩⟩
attribute [local go_sem] aS.d
instance(g:aS):Ct 30 [.agg [.str g.name,strs g.au,.str g.start,I g.no,.sl 5 (g.entries.map Entry.d),.sl 5 (g.rules.map aE.d)]] (mK g) (.bool (tp g)):=⟨fun h=>Zg g (OG h) h.name h.start⟩
def PE(s:aV):Bool:=decide ((3:Int)<s.sources)&&decide (s.sources<=16)||decide ((3:Int)<(s.eD.length:Int))||decide ((8:Int)<(s.dU.length:Int))||decide ((8:Int)<(s.mN.length:Int))||decide ((4:Int)<(s.eh.length:Int))||decide ((8:Int)<(s.jX.length:Int))||decide ((12:Int)<(s.eL.length:Int))|| !FP s.cr||decide ((16:Int)<(s.heard.length:Int))&&decide ((s.heard.length:Int)<=4096)||decide ((4200:Int)<(s.heard.length:Int))
def KS(g:aS):Bool:= !(!tp g||decide ((10:Int)<(g.rules.length:Int))||decide ((8:Int)<(g.au.length:Int))&&decide ((g.au.length:Int)<=32))
def PF(s:aV):Bool:= !FO s.dU||decide ((1:Int)<s.er)&&decide ((8:Int)<s.most)&&decide (s.most<=16)
def Rx(h:bc):Bool:= !(!wx h.words||decide ((5:Int)<(h.words.length:Int)))
def tq(s:aV):Bool:= !PE s&&s.eD.all KS&& !PF s&&(s.heard.take 20).all Rx
attribute [local go_sem] List.append_eq List.cons_append List.nil_append
instance Rw(s:aV):Ct 8 [s.d] ((∀g∈s.eD,mK g)/\Lm s.eD/\Lm s.dU/\Lm s.cr/\Lm s.heard/\(∀h∈s.heard,Lm h.words)) (.bool (tq s)):=by
 refine bf f8 [] [.tmp 2] fun pre=>?_;obtain⟨g1,g2,g3,g4,g5,g6⟩:=pre;unfold tq;generalize hA:List.all s.eD _=A;generalize hB:List.all (List.take 20 s.heard) _=E;have h0:PE s=(decide ((3:Int)<s.sources)&&decide (s.sources<=16)||decide ((3:Int)<(s.eD.length:Int))||decide ((8:Int)<(s.dU.length:Int))||decide ((8:Int)<(s.mN.length:Int))||decide ((4:Int)<(s.eh.length:Int))||decide ((8:Int)<(s.jX.length:Int))||decide ((12:Int)<(s.eL.length:Int))|| !FP s.cr||decide ((16:Int)<(s.heard.length:Int))&&decide ((s.heard.length:Int)<=4096)||decide ((4200:Int)<(s.heard.length:Int))):=rfl;generalize PE s=F0 at *;replace h0:Hid _:=h0;replace g1:Hid _:=g1;replace g6:Hid _:=g6;apply Se
 ·intro tail;repeat' first|exact zQ|with_reducible apply zJ<;>intro _|refine zK ?_
  all_goals first
   |exact ab (congrArg D.bool (by rw[h0.out];simp[*];done))
   |skip
  all_goals exact fresh (fun σ' B=>F0=false/\σ' 1= .loc 1 1 0 0/\σ' 3=I 0/\B 1=⟨1,1,15,33,[s.d]⟩) ⟨by rw[h0.out];simp[*],by simp[go_sem],by simp[go_sem],by simp[go_sem]⟩ (tail ())
 ·rintro σ B ⟨rfl,k1,k3,b1⟩;clear h0;refine gR s.eD hA 3 [(2,3),(75,118)] [] g2 k3 (fun j x τ β hx hj hw hi aP=>?_) fun τ β hn hi ha=>?_
  ·have EZ:=g1.out x (mG hx);unfold KS at aP⊢;repeat' first|exact zQ|with_reducible apply zJ<;>intro _|refine zK ?_
   all_goals first|with_reducible exact .refl _|(refine ab ?_;have aP:=aP.out zz;simp[*];done)|((try refine ab ?_);exact zz)
  ·have h2:PF s=(!FO s.dU||decide ((1:Int)<s.er)&&decide ((8:Int)<s.most)&&decide (s.most<=16)):=rfl;generalize PF s=F2 at *;replace h2:Hid _:=h2;apply Se
   ·intro tail;repeat' first|exact zQ|with_reducible apply zJ<;>intro _|refine zK ?_
    all_goals first
     |exact ab (congrArg D.bool (by rw[h2.out];simp[*];done))
     |skip
    all_goals exact fresh (fun σ' B=>F2=false/\σ' 1= .loc 1 1 0 0/\σ' 4=I 0/\B 1=⟨1,1,15,33,[s.d]⟩) ⟨by rw[h2.out];simp[*],by simp[go_sem,k1],by simp[go_sem],by simp[go_sem,b1]⟩ (tail ())
   ·clear k1 k3 b1;rintro σ B ⟨rfl,k1,k3,b1⟩;refine DM s.heard 20 20 rfl hB 4 [(2,2),(4,4),(141,171)] [] g5 k3 (fun j x τ β hx hj yD hw hi aP=>?_) fun τ β m hn hi ha=>?_
    ·have EZ:=g6.out x (mG hx);unfold Rx at aP⊢;repeat' first|exact zQ|with_reducible apply zJ<;>intro _|refine zK ?_
     all_goals first|with_reducible exact .refl _|(refine ab ?_;have aP:=aP.out zz;simp[*];done)|((try refine ab ?_);exact zz)
    ·rcases hn with hn|⟨hn,sc⟩
     all_goals
      repeat' first|exact zQ|with_reducible apply zJ<;>intro _|refine zK ?_
      all_goals first|with_reducible exact .refl _|(refine ab ?_;have aP:=aP.out zz;simp[*];done)|((try refine ab ?_);exact zz)
def Xe(s:aV):Prop:=(∀g∈s.eD,mK g)/\Lm s.eD/\Lm s.dU/\Lm s.cr/\Lm s.heard/\∀h∈s.heard,Lm h.words
structure okF(p:bI):Prop where
 a:Xe p.bY
 b:okD p.cu/\(∀b∈p.cu.aZ,b.length<=1099511627776)/\∀w∈p.cu.bC,w.data.length<=1099511627776
 c:Lm p.bZ.bh
 d:∀b∈p.bZ.bh,Lm b
def wv(p:bI):Bool:= !(!tq p.bY||decide ((40:Int)<(p.bZ.bh.length:Int))|| !KR p.cu)&&p.bZ.bh.all fun b=> !decide ((2000:Int)<(b.length:Int))
instance(p:bI):Ct 9 [p.d] (okF p) (.bool (wv p)):=by
 obtain⟨s,⟨rs,M,y⟩,⟨S,W,L,st⟩⟩:=p;refine bf f9 [] [.tmp 2] fun pre=>?_;obtain⟨o1,o2,o3,o4⟩:=pre;simp only at o1 o2 o3 o4;have hF:=(Rw s).h o1;have hD:=(Zf ⟨S,W,L,st⟩).h o2;unfold wv;simp only;generalize tq s=A at *;generalize KR ⟨S,W,L,st⟩=E at *;generalize hB:List.all rs _=G;haveI:Ct 8 [s.d] True (.bool A):=⟨fun _=>hF⟩
 haveI:Ct 32 [cI.d ⟨S,W,L,st⟩] True (.bool E):=⟨fun _=>hD⟩
 clear hF hD o1 o2;repeat' first|exact zQ|with_reducible apply zJ<;>intro _|refine zK ?_
 all_goals first
  |exact ab (congrArg D.bool (by simp[*];done))
  |skip
 refine gR rs hB 3 [(2,3),(21,36)] [] o3 sG (fun j x τ β hx hj hw hi aP=>?_) fun τ β hn hi ha=>?_
 ·repeat' first|exact zQ|with_reducible apply zJ<;>intro _|refine zK ?_
  all_goals first|with_reducible exact .refl _|(refine ab ?_;have aP:=aP.out zz;simp[*];done)|((try refine ab ?_);exact zz)
 ·repeat' first|exact zQ|with_reducible apply zJ<;>intro _|refine zK ?_
  all_goals first|with_reducible exact .refl _|(refine ab ?_;have aP:=aP.out zz;simp[*];done)|((try refine ab ?_);exact zz)
end Go.V.Jn
