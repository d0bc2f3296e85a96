/- Plants: the program's Crash. -/
import Derived.Test.YtkgloohlmogakaaGreatDoorB37
import Derived.Test.YtkgloohlmogakaaGreatDoorB16
set_option linter.unusedSimpArgs false
set_option linter.unusedVariables false
set_option linter.unnecessarySimpa false
set_option maxRecDepth 100000
namespace Go.V.Jn
open Go.Proofs Go.RowKit Go.V.Lx Go.V.Gr Go.V.Ty Go.V.St
theorem DI{p:bc}(hp:PG p){n:Int}(h0:0<=n)(h1:n<=65536):((eg p n).2=50/\dB p n=(p0,50))\/
 ∃q:Nat,((eg p n).2=0\/(eg p n).2=40)/\q<=p.sit.heard.length/\okD (eg p n).1/\cJ (eg p n).1=(⟨(p.sit.heard.take q).map bV,p.jnl.many,q⟩,0)/\dB p n=(⟨a_ p.sit (p.sit.heard.take q),⟨(p.sit.heard.take q).map bV,p.jnl.many,q⟩,(eg p n).1⟩,0):=by
 rcases rj hp (n:=n) oM h1 with⟨f1,f2⟩|⟨S,q,L,st,f1,f2,f3,f4,f5,f6,f7,f8,f9,f10,f11⟩
 ·left;have:(eg p n).2=50:=f1;refine⟨this,?_⟩;unfold dB;rw[if_pos ((dT p).2 hp),if_pos ⟨h0,h1⟩,this,if_neg oM]
 ·right;have hrl:p.jnl.recs.length=p.sit.heard.length:=by rw[hp.recs,List.length_map]
  obtain⟨⟨d1,d2⟩,d3,d4,d5⟩:=jK hp.bF;have hL:(eg p n).1=⟨S,[],-1,false⟩:=by unfold eg;simp only[f1,m_]
  have hE:(eg p n).2=0\/(eg p n).2=40:=by
   unfold eg;rcases f11 with h|h
   ·exact .inl h.1
   ·exact .inr h
  have hdk:cG ⟨S,[],-1,false⟩=true:=nJ oM f3 oM oM;have hO:cJ (eg p n).1=(⟨(p.sit.heard.take q).map bV,p.jnl.many,q⟩,0):=by
   rw[hL,AB hdk rfl rfl];simp only[f7,f2,hp.many,List.length_take,Nat.min_eq_left f6,List.map_take,hp.recs];rw[Nat.min_eq_left (by rw[List.length_map];omega)]
  refine⟨q,hE,by omega,⟨by rw[hL];simp[Lm];omega,by rw[hL];simp[Lm]⟩,hO,?_⟩;unfold dB;rw[if_pos ((dT p).2 hp),if_pos ⟨h0,h1⟩,if_pos hE,hO];simp only[List.length_map,List.length_take];rw[Nat.min_eq_left oM]
theorem WL.same:∀xs:List D,WL xs xs
 |[]=> .nil
 |_::xs=> .cons (.refl _) (WL.same xs)
set_option maxHeartbeats 8000000 in
instance(p:bc)(n:Int):Ct Tryz.prog 20 [p.d,I n] (mY p) (.tup [(dB p n).1.d,I (dB p n).2]):=by
 obtain⟨s,⟨rs,M,y⟩,⟨S,W,L,st⟩⟩:=p;refine bm (fn:=Tryz.f20) [] [.cell 4 41,.tmp 5] fun pre=>?_;have hC:=(wV ⟨s,⟨rs,M,y⟩,⟨S,W,L,st⟩⟩).h pre;obtain⟨os,ol,oh,oj,od⟩:=pre;simp only at os ol oh oj od;generalize hR:dB ⟨s,⟨rs,M,y⟩,⟨S,W,L,st⟩⟩ n=R;by_cases h1:iK ⟨s,⟨rs,M,y⟩,⟨S,W,L,st⟩⟩=true
 rotate_left
 ·rw[if_neg h1]at hC;unfold dB at hR;rw[if_neg h1]at hR;haveI:Ct Tryz.prog 16 [bc.d ⟨s,⟨rs,M,y⟩,⟨S,W,L,st⟩⟩] True (I 580):=⟨fun _=>hC⟩
  subst hR;clear hC h1;repeat' first|exact zQ|with_reducible refine zJ (fun _=>?_) fun _=>?_|refine zK ?_|fail
  exact wk
 rw[if_pos h1]at hC;haveI:Ct Tryz.prog 16 [bc.d ⟨s,⟨rs,M,y⟩,⟨S,W,L,st⟩⟩] True (I 0):=⟨fun _=>hC⟩
 by_cases hn:0<=n/\n<=65536
 rotate_left
 ·unfold dB at hR;rw[if_pos h1,if_neg hn]at hR;subst hR;clear hC h1;have hnn:n<0\/(¬n<0/\(65536:Int)<n):=oM;rcases hnn with c|⟨c,c2⟩
  all_goals
   repeat' first|exact zQ|with_reducible refine zJ (fun _=>?_) fun _=>?_|refine zK ?_|fail
   exact wk
 have hPG:=(dT _).1 h1;have hst:=hPG.stop;have hW:=hPG.pend;simp only at hst hW;obtain⟨n1,n2⟩:=hn;have c1:¬n<0:=oM;have c2:¬(65536:Int)<n:=oM;have hLF:=DI hPG n1 n2;have hSt:aq Tryz.prog 60 [bT.d ⟨S,W,L,st⟩,I n] (.tup [bT.d ⟨S,W,n,st⟩,I 0]):=by
  have key:∀(d:bT) (n:Int),Ct Tryz.prog 60 [d.d,I n] (okD d) (.tup [(rh d n).1.d,I (rh d n).2]):=fun d n=>inferInstance;have h2:=(key ⟨S,W,L,st⟩ n).h od;rwa[show rh ⟨S,W,L,st⟩ n=(⟨S,W,n,st⟩,0) by unfold rh jd;rw[hPG.bF];subst hst;simp;omega]at h2
 have hJ:=Cy rs M y S W n st oj ⟨od.1,od.2⟩;unfold eg at hLF;simp only[sf]at hLF;generalize hQ:eI ⟨rs,M,y⟩ ⟨S,W,n,st⟩=q at *;obtain⟨j',d',e'⟩:=q;simp only at hLF;have hB:aq Tryz.prog 61 [d'.d] (m_ d').d:=by
  have key:∀d:bT,Ct Tryz.prog 61 [d.d] True (m_ d).d:=fun d=>inferInstance;exact(key d').h trivial
 haveI:Ct Tryz.prog 60 [bT.d ⟨S,W,L,st⟩,I n] True (.tup [bT.d ⟨S,W,n,st⟩,I 0]):=⟨fun _=>hSt⟩
 haveI:Ct Tryz.prog 58 [.agg [.sl 1 (rs.map bj),I M,I y],.agg [.sl 1 (S.map bj),.sl 2 (W.map bA.d),I n,.bool st]] True (.tup [j'.d,d'.d,I e']):=⟨fun _=>hJ⟩
 have hO:=fun h:okD (m_ d')=>(Mf (m_ d')).h h;generalize m_ d'=D2 at *;haveI:Ct Tryz.prog 61 [d'.d] True D2.d:=⟨fun _=>hB⟩
 rw[hR]at hLF;clear hSt hJ hB hQ hC h1 hPG hst hW hR;rcases hLF with⟨rfl,rfl⟩|⟨q,he,hq,hok,hOp,rfl⟩
 ·repeat' first|exact zQ|with_reducible refine zJ (fun _=>?_) fun _=>?_|refine zK ?_|fail
  exact wk
 have hO:=hO hok;rw[hOp]at hO;haveI:Ct Tryz.prog 36 [D2.d] True (.tup [fO.d ⟨(s.heard.take q).map bV,M,q⟩,I 0]):=⟨fun _=>hO⟩
 clear hO hOp;have hks:(s.heard.take q).length=q:=by simp;omega
 have hk2:∀x∈s.heard.take q,iW x:=fun x hx=>oh x (List.mem_of_mem_take hx);generalize s.heard.take q=K at *;have hkl:K.length<=1099511627776:=oM;clear oh hO hok;subst hks;rcases he with rfl|rfl;all_goals
  repeat' first|exact zQ|with_reducible refine zJ (fun _=>?_) fun _=>?_|refine zK ?_|fail
  refine bO K [(5,5),(11,13),(74,94)] [(2,2),(12,12),(91,91)] (fun j τ β=>τ 74=I j/\∃x,β 2=⟨1,1,22,41,[.agg (I s.sources::I s.langs::I s.chunk::I s.quiet::I s.late::I s.gap::I s.most:: .sl 6 (s.grams.map aO.d):: .sl 8 (s.terms.map Term.d):: .sl 10 (s.house.map bE.d):: .sl 5 (s.budgets.map aJ.d):: .sl 7 (s.trades.map bo.d):: .sl 14 (s.viewers.map bL.d):: .sl 4 (s.visits.map aT.d)::x:: .sl 1 ((K.map bV).map bj)::I M::I (K.length:Int)::D2.l)]⟩/\aW β [91] 48 8 x ((K.take j).map aD.d)) (by simp[Lm];omega) ⟨by simp[go_sem],.nilsl,by simp[ao],.nil _ _ _ _⟩ (fun j x τ β hx hj hw hi=>?_) fun τ β hn hi=>?_
  ·obtain⟨h74,z,b2,hv⟩:=hi;have hxo:=hk2 x (List.mem_of_getElem? hx);have hf:=hv.facts;have htk:(K.take j).map aD.d++[x.d]=(K.take (j+1)).map aD.d:=by rw[List.take_add_one,hx];simp
   have htl:((K.take j).map aD.d).length<=K.length:=by simp;omega
   replace htl:Hid _:=htl;repeat' first|exact zQ|with_reducible refine zJ (fun _=>?_) fun _=>?_|refine zK ?_|fail
   refine app [91] (hv.of fun t ht=>by simp at ht;subst ht;simp[ao,aY,cm]) (fun x' β hv'=>?_) (by have:=htl.out;simp only[List.length_cons,List.length_nil];omega);have hf':=hv'.facts;replace hv':aW β [91] 48 8 x' ((K.take j).map aD.d++[x.d]):=hv';rw[htk]at hv';clear htk;repeat' first|exact zQ|with_reducible refine zJ (fun _=>?_) fun _=>?_|refine zK ?_|fail
   exact⟨x',rfl,hv'.of fun t ht=>by simp at ht;subst ht;simp[ao,aY,cm]⟩
  ·obtain⟨h74,z,b2,hv⟩:=hi;rw[List.take_length]at hv;obtain⟨r,r1,⟨r2,r4,r5⟩,r3⟩:=HR hv (by rw[cA];simp[D.pure,D.aF,cA]);have hf:=hv.facts;repeat' first|exact zQ|with_reducible refine zJ (fun _=>?_) fun _=>?_|refine zK ?_|fail
   rw[r3]
   rotate_left
   ·intro t ht;simp at ht;subst ht;simp[ao,aY,cm]
   clear r3 hv b2;repeat' first|exact zQ|with_reducible refine zJ (fun _=>?_) fun _=>?_|refine zK ?_|fail
   refine pv (.cons (fj ?_) (.cons (.refl _) .nil));exact .cons (.refl _) (.cons (.refl _) (.cons (.refl _) (.cons (.refl _) (.cons (.refl _) (.cons (.refl _) (.cons (.refl _) (.cons (.refl _) (.cons (.refl _) (.cons (.refl _) (.cons (.refl _) (.cons (.refl _) (.cons (.refl _) (.cons (.refl _) (.cons r1 (WL.same _)))))))))))))))
theorem wJ{P:Program}{C:Calc}{Q:DX->Env->ae->Prop}{σ:Env}{bx:ae}{c:Code}{α:Type}(l:List α)(n:Nat)(N:Int)(hN:N=n){p:α->Bool}{A:Bool}(hA:(l.take n).all p=A)(i:Nat)(M MB:List (Nat×Nat))(hl:Lm l)(h0:σ i= .int .i64 0)
 (hb:∀(j:Nat) x τ β,l[j]? =some x->(j:Int)<(l.length:Int)->(j:Int)<N->IntKind.i64.wrap ((j:Int)+1)=((j+1:Nat):Int)->τ i= .int .i64 j->Hid (p x=false->A=false)->
  cD P C c (cp (LN M MB σ bx fun τ' _=>τ' i= .int .i64 ((j+1:Nat):Int)/\p x=true) Q) (aY M τ σ) (aY MB β bx))
 (he:∀τ β (m:Nat),(¬(m:Int)<(l.length:Int))\/(m:Int)<(l.length:Int)/\¬(m:Int)<N->τ i= .int .i64 m->A=true->cD P C c (cp (fun _ _=>False) Q) (aY M τ σ) (aY MB β bx)):cD P C (.loop c) Q σ bx:=by
 have hln:(l.take n).length=min n l.length:=List.length_take;refine fS (l.take n) hA i M MB (by simp[Lm]at hl⊢;omega) h0 (fun j x τ β hx h1 h2 hi hno=>?_) fun τ β hn hi ha=>?_
 ·have hj:j<(l.take n).length:=(List.getElem?_eq_some_iff.1 hx).1;rw[List.getElem?_take_of_lt oM]at hx;exact hb j x τ β hx oM oM h2 hi hno
 ·exact he τ β _ (by rw[hln];omega) hi ha
def LC(x:Word):Bool:= !(decide ((10:Int)<(x.alts.length:Int))||decide ((200:Int)<(x.t.length:Int)))
def yP(l:List Word):Bool:= !(decide ((80:Int)<(l.length:Int))&&decide ((l.length:Int)<=4096)||decide ((5000:Int)<(l.length:Int)))&&(l.take 100).all LC
set_option maxHeartbeats 1000000 in
instance(l:List Word):Ct Tryz.prog 33 [.sl 5 (l.map Word.d)] (Lm l) (.bool (yP l)):=by
 refine bm (fn:=Tryz.f33) [] [.tmp 2] fun pre=>?_;unfold yP;generalize hA:List.all _ _=A;repeat' first|exact zQ|with_reducible refine zJ (fun _=>?_) fun _=>?_|refine zK ?_|fail
 all_goals first|exact ab (congrArg D.bool (by simp[*];done))|skip
 all_goals refine wJ l 100 100 rfl hA 3 [(2,3),(17,42)] [] pre sG (fun j x τ β hx hj hj2 hw hi hno=>?_) fun τ β m hn hi ha=>?_
 all_goals first
  |(
   unfold LC at hno⊢;repeat' first|exact zQ|with_reducible refine zJ (fun _=>?_) fun _=>?_|refine zK ?_|fail
   all_goals first|with_reducible exact .refl _|(refine ab ?_;have hno:=hno.out zz;simp[*];done)|((try refine ab ?_);exact zz)
   done)
  |(rcases hn with hn|⟨hn,hn2⟩<;>
   (
    repeat' first|exact zQ|with_reducible refine zJ (fun _=>?_) fun _=>?_|refine zK ?_|fail
    all_goals first|with_reducible exact .refl _|(refine ab ?_;have hno:=hno.out zz;simp[*];done)|((try refine ab ?_);exact zz)))
def IP(x:Sign):Bool:= !(decide ((40:Int)<(x.t.length:Int))||decide ((10:Int)<(x.c.length:Int)))
def Dk(v:bL):Bool:= !(decide ((20:Int)<(v.font.gs.length:Int))||decide ((20:Int)<(v.font.ks.length:Int))||decide ((70:Int)<(v.fe.length:Int))||decide ((40:Int)<(v.screen.bl.length:Int)))
def LA(v:bL):Bool:=Dk v&&v.fe.all IP
def yO(l:List bL):Bool:= !(decide ((4:Int)<(l.length:Int))&&decide ((l.length:Int)<=4096)||decide ((4200:Int)<(l.length:Int)))&&(l.take 10).all LA
set_option maxHeartbeats 1000000 in
instance(l:List bL):Ct Tryz.prog 29 [.sl 14 (l.map bL.d)] (Lm l) (.bool (yO l)):=by
 refine bm (fn:=Tryz.f29) [] [.tmp 2] fun pre=>?_;unfold yO;generalize hA:List.all _ _=A;repeat' first|exact zQ|with_reducible refine zJ (fun _=>?_) fun _=>?_|refine zK ?_|fail
 all_goals first|exact ab (congrArg D.bool (by simp[*];done))|skip
 all_goals refine wJ l 10 10 rfl hA 3 [(2,5),(19,82)] [(4,4)] pre sG (fun j x τ β hx hj hj2 hw hi hno=>?_) fun τ β m hn hi ha=>?_
 all_goals first
  |(rcases hn with hn|⟨hn,hn2⟩<;>
   (
    repeat' first|exact zQ|with_reducible refine zJ (fun _=>?_) fun _=>?_|refine zK ?_|fail
    all_goals first|with_reducible exact .refl _|(refine ab ?_;have hno:=hno.out zz;simp[*];done)|((try refine ab ?_);exact zz)
    done))
  |skip
 all_goals
  unfold LA at hno⊢;generalize hB:List.all x.fe _=B at *;have hf0:Dk x= !(decide ((20:Int)<(x.font.gs.length:Int))||decide ((20:Int)<(x.font.ks.length:Int))||decide ((70:Int)<(x.fe.length:Int))||decide ((40:Int)<(x.screen.bl.length:Int))):=rfl;generalize Dk x=F at *;replace hf0:Hid _:=hf0;repeat' first|exact zQ|with_reducible refine zJ (fun _=>?_) fun _=>?_|refine zK ?_|fail
  all_goals first
   |(have hno:=hno.out (by rw[hf0.out];simp[*]);exact ab (congrArg D.bool (by simp[*];done)))
   |skip
  all_goals
   refine fS x.fe hB 5 [(2,2),(5,5),(58,82)] [] (by simp[Lm];omega) sG (fun k y τ' β' hy hk hw2 hi2 hno2=>?_) fun τ' β' hn2 hi2 hb2=>?_
   ·unfold IP at hno2⊢;have hno3:(!(decide ((40:Int)<(y.t.length:Int))||decide ((10:Int)<(y.c.length:Int))))=false->A=false:=fun h=>hno.out (by rw[hno2.out h];simp);replace hno3:Hid _:=hno3;clear hno hno2 hf0;repeat' first|exact zQ|with_reducible refine zJ (fun _=>?_) fun _=>?_|refine zK ?_|fail
    all_goals first
     |(have hno:=hno3.out (by simp[*]);exact ab (congrArg D.bool (by simp[*];done)))
     |rfl
   ·have hF:F=true:=by rw[hf0.out];simp[*]
    clear hf0 hno;repeat' first|exact zQ|with_reducible refine zJ (fun _=>?_) fun _=>?_|refine zK ?_|fail
    all_goals exact ab (congrArg D.bool (by simp[*];done))
instance(l:List Word)(a b c d e:Int):Ct Tryz.prog 10 [.agg [I a,I b,I c,I d,I e,.sl 5 (l.map Word.d)]] (Lm l) (.bool (yP l)):=by
 refine bm (fn:=Tryz.f10) [] [.tmp 2] fun pre=>?_;repeat' first|exact zQ|with_reducible refine zJ (fun _=>?_) fun _=>?_|refine zK ?_|fail
def yM(l:List Term):Bool:=decide ((l.length:Int)<=30)||decide ((1024:Int)<(l.length:Int))&&decide ((l.length:Int)<=1100)
instance(l:List Term):Ct Tryz.prog 31 [.sl 8 (l.map Term.d)] (Lm l) (.bool (yM l)):=by
 refine bm (fn:=Tryz.f31) [] [.tmp 2] fun pre=>?_;unfold yM;repeat' first|exact zQ|with_reducible refine zJ (fun _=>?_) fun _=>?_|refine zK ?_|fail
 all_goals first|with_reducible exact .refl _|(refine ab ?_;have hno:=hno.out zz;simp[*];done)|((try refine ab ?_);exact zz)
def GI:Int->List Nat->Int
 |v,[]=>v
 |v,x::l=>if v<=9000 then GI (v+1+x) l else v
def R6(d:bT):Bool:=decide (GI (GI 0 (d.secs.map List.length)) (d.pend.map fun w=>w.data.length)<=9000)
theorem I3{T G:Prop}(main:(Unit->T)->G)(pf:T):G:=main fun _=>pf
theorem Gg{g:aO}(h:iZ g):Sz g:=⟨h.clen,h.elen,h.rlen,fun x hx=>(h.ents x hx).len,fun x hx=>⟨(h.rules x hx).plen,(h.rules x hx).glen⟩⟩
attribute [local go_sem] aO.d
instance(g:aO):Ct Tryz.prog 30 [.agg [.str g.name,strs g.cats,.str g.start,I g.no,.sl 5 (g.entries.map Entry.d),.sl 5 (g.rules.map aC.d)]] (iZ g) (.bool (n6 g)):=⟨fun h=>Oz g (Gg h) h.name h.start⟩
def Hc(s:aN):Bool:=decide ((3:Int)<s.sources)&&decide (s.sources<=16)||decide ((3:Int)<(s.grams.length:Int))||decide ((8:Int)<(s.terms.length:Int))||decide ((8:Int)<(s.house.length:Int))||decide ((4:Int)<(s.budgets.length:Int))||decide ((8:Int)<(s.trades.length:Int))||decide ((12:Int)<(s.visits.length:Int))|| !yO s.viewers||decide ((16:Int)<(s.heard.length:Int))&&decide ((s.heard.length:Int)<=4096)||decide ((4200:Int)<(s.heard.length:Int))
def Dj(g:aO):Bool:= !(!n6 g||decide ((10:Int)<(g.rules.length:Int))||decide ((8:Int)<(g.cats.length:Int))&&decide ((g.cats.length:Int)<=32))
def Hd(s:aN):Bool:= !yM s.terms||decide ((1:Int)<s.langs)&&decide ((8:Int)<s.most)&&decide (s.most<=16)
def IM(h:aD):Bool:= !(!yP h.words||decide ((5:Int)<(h.words.length:Int)))
def gY(s:aN):Bool:= !Hc s&&s.grams.all Dj&& !Hd s&&(s.heard.take 20).all IM
attribute [local go_sem] List.append_eq List.cons_append List.nil_append
set_option maxHeartbeats 4000000 in
instance Oy(s:aN):Ct Tryz.prog 8 [s.d] ((∀g∈s.grams,iZ g)/\Lm s.grams/\Lm s.terms/\Lm s.viewers/\Lm s.heard/\(∀h∈s.heard,Lm h.words)) (.bool (gY s)):=by
 refine bm (fn:=Tryz.f8) [] [.tmp 2] fun pre=>?_;obtain⟨g1,g2,g3,g4,g5,g6⟩:=pre;unfold gY;generalize hA:List.all s.grams _=A;generalize hB:List.all (List.take 20 s.heard) _=E;have h0:Hc s=(decide ((3:Int)<s.sources)&&decide (s.sources<=16)||decide ((3:Int)<(s.grams.length:Int))||decide ((8:Int)<(s.terms.length:Int))||decide ((8:Int)<(s.house.length:Int))||decide ((4:Int)<(s.budgets.length:Int))||decide ((8:Int)<(s.trades.length:Int))||decide ((12:Int)<(s.visits.length:Int))|| !yO s.viewers||decide ((16:Int)<(s.heard.length:Int))&&decide ((s.heard.length:Int)<=4096)||decide ((4200:Int)<(s.heard.length:Int))):=rfl;generalize Hc s=F0 at *;replace h0:Hid _:=h0;replace g1:Hid _:=g1;replace g6:Hid _:=g6;apply I3
 ·intro tail;repeat' first|exact zQ|with_reducible refine zJ (fun _=>?_) fun _=>?_|refine zK ?_|fail
  all_goals first
   |exact ab (congrArg D.bool (by rw[h0.out];simp[*];done))
   |skip
  all_goals exact fresh (fun σ' B=>F0=false/\σ' 1= .loc 1 1 0 0/\σ' 3=I 0/\B 1=⟨1,1,15,33,[s.d]⟩) ⟨by rw[h0.out];simp[*],by simp[go_sem],by simp[go_sem],by simp[go_sem]⟩ (tail ())
 ·rintro σ B ⟨rfl,k1,k3,b1⟩;clear h0;refine fS s.grams hA 3 [(2,3),(75,118)] [] g2 k3 (fun j x τ β hx hj hw hi hno=>?_) fun τ β hn hi ha=>?_
  ·have hxo:=g1.out x (List.mem_of_getElem? hx);unfold Dj at hno⊢;repeat' first|exact zQ|with_reducible refine zJ (fun _=>?_) fun _=>?_|refine zK ?_|fail
   all_goals first|with_reducible exact .refl _|(refine ab ?_;have hno:=hno.out zz;simp[*];done)|((try refine ab ?_);exact zz)
  ·have h2:Hd s=(!yM s.terms||decide ((1:Int)<s.langs)&&decide ((8:Int)<s.most)&&decide (s.most<=16)):=rfl;generalize Hd s=F2 at *;replace h2:Hid _:=h2;apply I3
   ·intro tail;repeat' first|exact zQ|with_reducible refine zJ (fun _=>?_) fun _=>?_|refine zK ?_|fail
    all_goals first
     |exact ab (congrArg D.bool (by rw[h2.out];simp[*];done))
     |skip
    all_goals exact fresh (fun σ' B=>F2=false/\σ' 1= .loc 1 1 0 0/\σ' 4=I 0/\B 1=⟨1,1,15,33,[s.d]⟩) ⟨by rw[h2.out];simp[*],by simp[go_sem,k1],by simp[go_sem],by simp[go_sem,b1]⟩ (tail ())
   ·clear k1 k3 b1;rintro σ B ⟨rfl,k1,k3,b1⟩;refine wJ s.heard 20 20 rfl hB 4 [(2,2),(4,4),(141,171)] [] g5 k3 (fun j x τ β hx hj hj2 hw hi hno=>?_) fun τ β m hn hi ha=>?_
    ·have hxo:=g6.out x (List.mem_of_getElem? hx);unfold IM at hno⊢;repeat' first|exact zQ|with_reducible refine zJ (fun _=>?_) fun _=>?_|refine zK ?_|fail
     all_goals first|with_reducible exact .refl _|(refine ab ?_;have hno:=hno.out zz;simp[*];done)|((try refine ab ?_);exact zz)
    ·rcases hn with hn|⟨hn,hn2⟩
     all_goals
      repeat' first|exact zQ|with_reducible refine zJ (fun _=>?_) fun _=>?_|refine zK ?_|fail
      all_goals first|with_reducible exact .refl _|(refine ab ?_;have hno:=hno.out zz;simp[*];done)|((try refine ab ?_);exact zz)
def Ay(s:aN):Prop:=(∀g∈s.grams,iZ g)/\Lm s.grams/\Lm s.terms/\Lm s.viewers/\Lm s.heard/\∀h∈s.heard,Lm h.words
structure okF(p:bc):Prop where
 a:Ay p.sit
 b:okD p.bF/\(∀b∈p.bF.secs,b.length<=1099511627776)/\∀w∈p.bF.pend,w.data.length<=1099511627776
 c:Lm p.jnl.recs
 d:∀b∈p.jnl.recs,Lm b
def Lz(p:bc):Bool:= !(!gY p.sit||decide ((40:Int)<(p.jnl.recs.length:Int))|| !R6 p.bF)&&p.jnl.recs.all fun b=> !decide ((2000:Int)<(b.length:Int))
end Go.V.Jn
