/- Plants: what the statements begin with. -/
import Derived.Test.YtkgloohlmogakaaGreatDoorB38
import Derived.Test.YtkgloohlmogakaaGreatDoorB40
import Derived.Test.YtkgloohlmogakaaGreatDoorB39
import Derived.Test.YtkgloohlmogakaaGreatDoorB16
set_option linter.unusedSimpArgs false
set_option linter.unusedVariables false
set_option linter.unnecessarySimpa false
set_option maxRecDepth 100000
namespace Go.V.Jn
open Go.Proofs Go.RowKit Go.V.Lx Go.V.Gr Go.V.Ty Go.V.St
instance(n t:Int):Ct Tryz.prog 28 [I n,I t] (0<=t/\t<=1000) (hE n t).d:=by
 refine bm (fn:=Tryz.f28) [] [.cell 4 48] fun pre=>?_;obtain⟨h1,h2⟩:=pre;have w:IntKind.i64.wrap (t+3)=t+3:=iL _ oM oM;repeat' first|exact zQ|with_reducible refine zJ (fun _=>?_) fun _=>?_|refine zK ?_|fail
 refine fj (.cons (.refl _) (.cons (.refl _) (.cons (.refl _) (.cons (.refl _) (.cons (.refl _) (.cons (.refl _) (.cons (.refl _) (.cons ?_ .nil))))))));exact yt (ps:=[]) (.cons (.refl _) (.cons (.refl _) (.cons (.refl _) (.cons (.refl _) (.cons (.nil _) .nil)))))
instance(s:aN):Ct Tryz.prog 23 [s.d] True (.tup [(a_ s []).d,.sl 8 (s.heard.map aD.d)]):=by
 refine bm (fn:=Tryz.f23) [] [.cell 2 33,.tmp 3] fun pre=>?_;repeat' first|exact zQ|with_reducible refine zJ (fun _=>?_) fun _=>?_|refine zK ?_|fail
 exact wk
instance(s:aN):Ct Tryz.prog 22 [s.d] (Ay s/\(gY s=true->St.cX s)) (.bool (gY s&&decide (bg s=0))):=by
 refine bm (fn:=Tryz.f22) [] [.tmp 2] fun pre=>?_;obtain⟨p1,p2⟩:=pre;have hF:=(Oy s).h p1;cases hf:gY s
 ·rw[hf]at hF;haveI:Ct Tryz.prog 8 [s.d] True (.bool false):=⟨fun _=>hF⟩
  clear hF p1 p2;repeat' first|exact zQ|with_reducible refine zJ (fun _=>?_) fun _=>?_|refine zK ?_|fail
 ·rw[hf]at hF;have p3:=p2 hf;haveI:Ct Tryz.prog 8 [s.d] True (.bool true):=⟨fun _=>hF⟩
  clear hF p1 p2;repeat' first|exact zQ|with_reducible refine zJ (fun _=>?_) fun _=>?_|refine zK ?_|fail
set_option maxHeartbeats 2000000 in
instance:Ct Tryz.prog 27 [] True s1.d:=by
 refine bm (fn:=Tryz.f27) [(1,[(3,2)])] [.cell 0 33] fun pre=>?_;have c1:(1:Int) * ((112:Nat):Int)<=140737488355328:=by decide
 have c2:(1:Int) * ((40:Nat):Int)<=140737488355328:=by decide
 repeat' first|exact zQ|with_reducible refine zJ (fun _=>?_) fun _=>?_|refine zK ?_|fail
 rw[cU _ _ _ _ _ _ (by decide) rfl rfl,cU _ _ _ _ _ _ (by decide) rfl rfl];repeat' first|exact zQ|with_reducible refine zJ (fun _=>?_) fun _=>?_|refine zK ?_|fail
 refine fj (.cons (.refl _) (.cons (.refl _) (.cons (.refl _) (.cons (.refl _) (.cons (.refl _) (.cons (.refl _) (.cons (.refl _) (.cons ?_ (.cons (.nil _) (.cons (.nil _) (.cons (.refl _) (.cons (.nil _) (.cons (.nil _) (.cons (.nil _) (.cons (.nil _) .nil)))))))))))))));exact yt (ps:=[]) (.cons (.refl _) (.cons (.nil _) (.cons (.refl _) (.cons (.refl _) (.cons (.nil _) (.cons (.nil _) .nil))))))
abbrev sz:D:=.agg [I 0,I 0,I 0,I 0,I 0,I 0,I 0,.nilsl,.nilsl,.nilsl,.nilsl,.nilsl,.nilsl,.nilsl,.nilsl]
@[reducible] def rA(s:aN)(L:List D)(j:fO)(d:bT):D:=.agg [I s.sources,I s.langs,I s.chunk,I s.quiet,I s.late,I s.gap,I s.most,.sl 6 (s.grams.map aO.d),.sl 8 (s.terms.map Term.d),.sl 10 (s.house.map bE.d),.sl 5 (s.budgets.map aJ.d),.sl 7 (s.trades.map bo.d),.sl 14 (s.viewers.map bL.d),.sl 4 (s.visits.map aT.d),.sl 8 L,
 .sl 1 (j.recs.map bj),I j.many,I j.sync,.sl 1 (d.secs.map bj),.sl 2 (d.pend.map bA.d),I d.left,.bool d.stop]
theorem Kr:bk sz s0.d:=fj (.cons (.refl _) (.cons (.refl _) (.cons (.refl _) (.cons (.refl _) (.cons (.refl _) (.cons (.refl _) (.cons (.refl _) (.cons (.nil _) (.cons (.nil _) (.cons (.nil _) (.cons (.nil _) (.cons (.nil _) (.cons (.nil _) (.cons (.nil _) (.cons (.nil _) .nil)))))))))))))))
theorem Ka:bk pz p0.d:=fj (.cons (.refl _) (.cons (.refl _) (.cons (.refl _) (.cons (.refl _) (.cons (.refl _) (.cons (.refl _) (.cons (.refl _) (.cons (.nil _) (.cons (.nil _) (.cons (.nil _) (.cons (.nil _) (.cons (.nil _) (.cons (.nil _) (.cons (.nil _) (.cons (.nil _) (.cons (.nil _) (.cons (.refl _) (.cons (.refl _) (.cons (.nil _) (.cons (.nil _) (.cons (.refl _) (.cons (.refl _) .nil))))))))))))))))))))))
set_option maxHeartbeats 8000000 in
theorem Gc:aq Tryz.prog 7 [] (.bool true):=by
 suffices Ct Tryz.prog 7 [] True (.bool true)from this.h trivial
 refine bm (fn:=Tryz.f7) [(5,[(8,7),(8,2),(7,2),(6,2)]),(9,[(8,7),(8,2),(7,2),(6,2)]),(11,[(8,7),(8,2),(7,2),(6,2)])] [.tmp 0] fun pre=>?_;obtain⟨j5,j1,jl,jk,j2,j3,jf,d5,dl,dk,d2,df,hN,q5,hH1,q1,hC0,hC9,hS,q2,hH2,q3,hj3,hCf,hH3⟩:=examples;have cN:∀(s:aN) (n:Int),Ct Tryz.prog 11 [s.d,I n] (St.cX s) (.tup [(dG s n).1.d,I (dG s n).2]):=fun s n=>inferInstance;have cH:∀(p:bc) (h:aD),Ct Tryz.prog 13 [p.d,h.d] (mY p/\iW h/\St.cX (a_ p.sit (p.sit.heard++[h]))/\(bV h).length<=1099511627776/\p.jnl.recs.length<=1048576) (.tup [(cW p h).1.d,I (cW p h).2]):=fun p h=>inferInstance;have cC:∀(p:bc) (n:Int),Ct Tryz.prog 20 [p.d,I n] (mY p) (.tup [(dB p n).1.d,I (dB p n).2]):=fun p n=>inferInstance;have cS:∀(p:bc),Ct Tryz.prog 18 [p.d] (mY p) (.tup [(fu p).1.d,I (fu p).2]):=fun p=>inferInstance;have o5:=om q5 qD sI;have o1:=om q1 (fh qD sI) (by simp only[List.mem_singleton];rintro _ rfl;exact Ax);have o2:=om q2 (fh qD sI) (by simp only[List.mem_singleton];rintro _ rfl;exact Ax);have o3:=om q3 (fh qD sI) (by simp only[List.mem_cons,List.not_mem_nil,or_false];rintro _ (rfl|rfl);exact Ax;exact HO);have a1:aq Tryz.prog 11 [sz,I 5] (.tup [p0.d,I 540]):=by
  have:=(cN s0 5).h MD.sit;rw[show dG s0 5=(p0,540) by unfold dG;rw[Bn];rfl]at this;exact this.Ji Kr (.refl _)
 have a2:aq Tryz.prog 11 [s1.d,I 0] (.tup [p0.d,I 1]):=by
  have:=(cN s1 0).h qD;rwa[show dG s1 0=(p0,1) by unfold dG;rw[Gf];rfl]at this
 have a3:=(cN s1 5).h qD;rw[hN]at a3;have a4:aq Tryz.prog 20 [bc.d ⟨s1,j5,d5⟩,I (-1)] (.tup [p0.d,I 1]):=by
  have:=(cC ⟨s1,j5,d5⟩ (-1)).h o5;rwa[show dB ⟨s1,j5,d5⟩ (-1)=(p0,1) by unfold dB;rw[if_pos ((dT _).2 q5),if_neg oM]]at this
 have a5:=(cH ⟨s1,j5,d5⟩ (hE 0 7)).h ⟨o5,Ax,fh qD sI,by have:=Ax.2;omega,by have:=tg q5;omega⟩;rw[hH1]at a5;have a6:=(cC ⟨a_ s1 [hE 0 7],j1,d5⟩ 0).h o1;rw[hC0]at a6;have a7:=(cC ⟨a_ s1 [hE 0 7],j1,d5⟩ 9).h o1;rw[hC9]at a7;have a8:=(cS ⟨a_ s1 [hE 0 7],j1,d5⟩).h o1;rw[hS]at a8;have a9:=(cH ⟨a_ s1 [hE 0 7],j2,d2⟩ (hE 1 8)).h ⟨o2,HO,fh qD sI,by have:=HO.2;omega,by have:=tg q2;omega⟩;rw[hH2]at a9;have a10:=(cC ⟨a_ s1 [hE 0 7,hE 1 8],j3,d2⟩ 0).h o3;rw[hCf]at a10;have a11:=(cH ⟨a_ s1 [hE 0 7,hE 1 8],j3,d2⟩ (hE 2 3)).h ⟨o3,Mz,fh qD sI,by have:=Mz.2;omega,by have:=tg q3;omega⟩;rw[hH3]at a11;have a12:aq Tryz.prog 16 [pz] (I 580):=by
  have:=(wV p0).h MD;rw[MJ]at this;exact this.Pv Ka
 have a13:=(wV ⟨a_ s1 [hE 0 7,hE 1 8],j3,d2⟩).h o3;rw[if_pos ((dT _).2 q3)]at a13;have a14:aq Tryz.prog 25 [.sl 8 [(hE 0 7).d],.sl 8 [(hE 0 7).d]] (.bool true):=by
  have key:∀l:List aD,Ct Tryz.prog 25 [.sl 8 (l.map aD.d),.sl 8 (l.map aD.d)] (Lm l/\∀h∈l,Lm h.words/\∀x∈h.words,Lm x.alts) (.bool true):=fun l=>inferInstance;exact(key [hE 0 7]).h ⟨by simp[Lm],by simp[Lm]⟩
 have a15:aq Tryz.prog 26 [s1.d,s1.d] (.bool true):=(Jb s1).h ⟨by simp[Lm],by simp[Lm],by intro g hg;obtain rfl:=List.mem_singleton.1 hg;exact⟨by simp,by simp,by simp,by simp,by simp⟩,by simp[Lm],by simp[Lm],by simp[Lm],by simp[Lm],by simp[Lm]⟩;have cE:∀n t:Int,Ct Tryz.prog 28 [I n,I t] (0<=t/\t<=1000) (hE n t).d:=fun n t=>inferInstance;have b1:=(cE 0 7).h (by decide);have b2:=(cE 1 8).h (by decide);have b3:=(cE 2 3).h (by decide);have b4:aq Tryz.prog 27 [] s1.d:=by
  have key:Ct Tryz.prog 27 [] True s1.d:=inferInstance;exact key.h trivial
 have hs0:s1.heard.length=0:=rfl;clear cN cH cC cS cE o5 o1 o2 o3 hN q5 hH1 q1 hC0 hC9 hS q2 hH2 q3 hCf hH3;simp only at a1 a2 a3 a4 a5 a6 a7 a8 a9 a10 a11 a12 a13;generalize hE 0 7=H7 at *;generalize hE 1 8=H8 at *;generalize hE 2 3=H3 at *;generalize s1=s at *;haveI:Ct Tryz.prog 11 [sz,I 5] True (.tup [p0.d,I 540]):=⟨fun _=>a1⟩
 haveI:Ct Tryz.prog 11 [s.d,I 0] True (.tup [p0.d,I 1]):=⟨fun _=>a2⟩
 haveI:Ct Tryz.prog 11 [s.d,I 5] True (.tup [bc.d ⟨s,j5,d5⟩,I 0]):=⟨fun _=>a3⟩
 haveI:Ct Tryz.prog 20 [bc.d ⟨s,j5,d5⟩,I (-1)] True (.tup [p0.d,I 1]):=⟨fun _=>a4⟩
 haveI:Ct Tryz.prog 13 [bc.d ⟨s,j5,d5⟩,H7.d] True (.tup [rA s [H7.d] j1 d5,I 0]):=⟨fun _=>a5⟩
 haveI:Ct Tryz.prog 20 [rA s [H7.d] j1 d5,I 0] True (.tup [bc.d ⟨s,jl,dl⟩,I 0]):=⟨fun _=>a6⟩
 haveI:Ct Tryz.prog 20 [rA s [H7.d] j1 d5,I 9] True (.tup [rA s [H7.d] jk dk,I 0]):=⟨fun _=>a7⟩
 haveI:Ct Tryz.prog 18 [rA s [H7.d] j1 d5] True (.tup [rA s [H7.d] j2 d2,I 0]):=⟨fun _=>a8⟩
 haveI:Ct Tryz.prog 13 [rA s [H7.d] j2 d2,H8.d] True (.tup [rA s [H7.d,H8.d] j3 d2,I 0]):=⟨fun _=>a9⟩
 haveI:Ct Tryz.prog 20 [rA s [H7.d,H8.d] j3 d2,I 0] True (.tup [rA s [H7.d] jf df,I 0]):=⟨fun _=>a10⟩
 haveI:Ct Tryz.prog 13 [rA s [H7.d,H8.d] j3 d2,H3.d] True (.tup [p0.d,I 1]):=⟨fun _=>a11⟩
 haveI:Ct Tryz.prog 16 [pz] True (I 580):=⟨fun _=>a12⟩
 haveI:Ct Tryz.prog 16 [rA s [H7.d,H8.d] j3 d2] True (I 0):=⟨fun _=>a13⟩
 haveI:Ct Tryz.prog 25 [.sl 8 [H7.d],.sl 8 [H7.d]] True (.bool true):=⟨fun _=>a14⟩
 haveI:Ct Tryz.prog 26 [s.d,s.d] True (.bool true):=⟨fun _=>a15⟩
 haveI:Ct Tryz.prog 28 [I 0,I 7] True H7.d:=⟨fun _=>b1⟩
 haveI:Ct Tryz.prog 28 [I 1,I 8] True H8.d:=⟨fun _=>b2⟩
 haveI:Ct Tryz.prog 28 [I 2,I 3] True H3.d:=⟨fun _=>b3⟩
 haveI:Ct Tryz.prog 27 [] True s.d:=⟨fun _=>b4⟩
 clear a1 a2 a3 a4 a5 a6 a7 a8 a9 a10 a11 a12 a13 a14 a15 b1 b2 b3 b4;replace hj3:Hid _:=hj3;repeat' first|exact zQ|with_reducible refine zJ (fun _=>?_) fun _=>?_|refine zK ?_|fail
 all_goals first|exact absurd hj3.out (by assumption)|(exfalso;omega)
set_option maxHeartbeats 8000000 in
theorem O0(s:aN)(l:List aD)(sy:Nat)(hsy:sy<65536)(os:St.cX s)(hs:bg s=0)(h0:s.heard=[])(ol:Lm l)(oh:∀h∈l,iW h):aq Tryz.prog 24 [s.d,.sl 8 (l.map aD.d),.int .u16 (sy:Int)] (.tup [(iX sy 0 (dG s 60).1 [] 0 l).1.d,.sl 8 ((iX sy 0 (dG s 60).1 [] 0 l).2.1.map aD.d),I (iX sy 0 (dG s 60).1 [] 0 l).2.2,.bool true]):=by
 suffices Ct Tryz.prog 24 [s.d,.sl 8 (l.map aD.d),.int .u16 (sy:Int)] True (.tup [(iX sy 0 (dG s 60).1 [] 0 l).1.d,.sl 8 ((iX sy 0 (dG s 60).1 [] 0 l).2.1.map aD.d),I (iX sy 0 (dG s 60).1 [] 0 l).2.2,.bool true])from this.h trivial
 refine bm (fn:=Tryz.f24) [(2000009,[]),(9,[(6,3),(6,2)])] [.cell 6 41,.tmp 7,.tmp 8,.tmp 9] fun pre=>?_;obtain⟨n5,hRI⟩:=RI.new (l:=l) hs h0;have hN:aq Tryz.prog 11 [s.d,I 60] (.tup [(dG s 60).1.d,I 0]):=by
  have key:∀(s:aN) (n:Int),Ct Tryz.prog 11 [s.d,I n] (St.cX s) (.tup [(dG s n).1.d,I (dG s n).2]):=fun s n=>inferInstance;have:=(key s 60).h os;rwa[n5]at this
 generalize(dG s 60).1=P0 at *;generalize hR:iX sy 0 P0 [] 0 l=R;replace hR:Hid _:=hR;haveI:Ct Tryz.prog 11 [s.d,I 60] True (.tup [P0.d,I 0]):=⟨fun _=>hN⟩
 clear hN;replace oh:Hid _:=oh;clear h0 hs n5;repeat' first|exact zQ|with_reducible refine zJ (fun _=>?_) fun _=>?_|refine zK ?_|fail
 refine bO l [(7,9),(11,14),(25,58)] [(6,6),(12,12),(13,13),(42,42)] (fun j τ β=>τ 25=I j/\∃(p:bc) (all:List aD) (safe:Nat) (z:D),β 6=⟨1,1,22,41,[p.d]⟩/\τ 7=z/\aW β [42] 48 8 z (all.map aD.d)/\τ 8=I safe/\RI s l j p all safe/\Hid (iX sy j p all safe (l.drop j)=R)) ol ⟨by simp[go_sem],P0,[],0,.nilsl,by simp[ao],by simp[go_sem],.nil _ _ _ _,by simp[go_sem],hRI,hR⟩ (fun j x τ β hx hj hw hi=>?_) fun τ β hn hi=>?_
 ·obtain⟨h25,p,all,safe,z,b6,h7,hv,h8,ri,hr⟩:=hi;have hxl:=List.mem_of_getElem? hx;have hxo:=oh.out x hxl;have hle:=ri.le;have hdr:l.drop j=x::l.drop (j+1):=by
   have hlt:j<l.length:=(List.getElem?_eq_some_iff.1 hx).1;rw[List.drop_eq_getElem_cons hlt,(List.getElem?_eq_some_iff.1 hx).2]
  have hr:=hr.out;rw[hdr]at hr;unfold iX at hr;clear hdr;have hf:=hv.facts;have hH:aq Tryz.prog 13 [p.d,x.d] (.tup [(cW p x).1.d,I (cW p x).2]):=by
   have key:∀(p:bc) (h:aD),Ct Tryz.prog 13 [p.d,h.d] (mY p/\iW h/\St.cX (a_ p.sit (p.sit.heard++[h]))/\(bV h).length<=1099511627776/\p.jnl.recs.length<=1048576) (.tup [(cW p h).1.d,I (cW p h).2]):=fun p h=>inferInstance;refine(key p x).h ⟨om ri.pg (by rw[ri.sit];exact fh os oM) (by rw[ri.sit];exact fun h hh=>oh.out h (ri.mem h hh)),hxo,?_,by have:=hxo.2;omega,by have:=tg ri.pg;omega⟩;rw[ri.sit];exact fh os (by simp;omega)
  by_cases hh:(cW p x).2=0
  rotate_left
  ·rw[if_neg hh]at hr;generalize(cW p x).1=X at *;generalize(cW p x).2=e at *;haveI:Ct Tryz.prog 13 [p.d,x.d] True (.tup [X.d,I e]):=⟨fun _=>hH⟩
   have ri2:=ri.skip;replace hr:Hid _:=hr;clear hH ri hxo hle;replace ri2:Hid _:=ri2;repeat' first|exact zQ|with_reducible refine zJ (fun _=>?_) fun _=>?_|refine zK ?_|fail
   exact⟨p,all,safe,z,rfl,rfl,hv.of fun t ht=>by simp at ht;subst ht;simp[ao,aY,cm],rfl,ri2.out,hr⟩
  rw[if_pos hh]at hr;rw[hh]at hH;have ri1:=ri.L3 hxl hh;have ri2:=fun hj=>ri1.sync hj;have hle1:=ri1.le;generalize(cW p x).1=X at *;haveI:Ct Tryz.prog 13 [p.d,x.d] True (.tup [X.d,I 0]):=⟨fun _=>hH⟩
  have hY:aq Tryz.prog 18 [X.d] (.tup [(fu X).1.d,I (fu X).2]):=by
   have key:∀(p:bc),Ct Tryz.prog 18 [p.d] (mY p) (.tup [(fu p).1.d,I (fu p).2]):=fun p=>inferInstance;exact(key X).h (om ri1.pg (by rw[ri1.sit];exact fh os oM) (by rw[ri1.sit];exact fun h hh=>oh.out h (ri1.mem h hh)))
  have hb1:(sy:Int).fdiv (2 ^ min j 16)=((sy / 2 ^ min j 16:Nat):Int):=by rw[show(2:Int) ^ min j 16=((2 ^ min j 16:Nat):Int) by norm_cast,Int.fdiv_eq_ediv_of_nonneg _ (Int.natCast_nonneg _)];rfl
  have hb2:ca .and .u16 ((sy / 2 ^ min j 16:Nat):Int) 1=((sy / 2 ^ min j 16 % 2:Nat):Int):=by
   have hlt:sy / 2 ^ min j 16<65536:=Nat.lt_of_le_of_lt (Nat.div_le_self ..) hsy;rw[show(1:Int)=((1:Nat):Int)from rfl,oP .u16 rfl (by simp[IntKind.bits];omega),Nat.and_one_is_mod]
  clear hH ri hh hle;replace ri1:Hid _:=ri1;replace ri2:Hid _:=ri2;replace hr:Hid _:=hr;have hlen:(all.map aD.d).length<=4096:=by simp at hle1⊢;omega
  replace hlen:Hid _:=hlen;repeat' first|exact zQ|with_reducible refine zJ (fun _=>?_) fun _=>?_|refine zK ?_|fail
  refine fQ (.light 1 (.load 0 13 (.load 2 12 (.both 3 [13] (.both 4 [13] (.both 5 [] (.light 6 .fin) .stop) .stop) .stop)))) aj ?_;repeat' first|exact zQ|with_reducible refine zJ (fun _=>?_) fun _=>?_|refine zK ?_|fail
  refine app [42] (hv.of fun t ht=>by simp at ht;subst ht;simp[ao,aY,cm]) (fun z' β' hv'=>?_) (by have:=hlen.out;simp only[List.length_cons,List.length_nil];omega);have hf':=hv'.facts;replace hv':aW β' [42] 48 8 z' (all.map aD.d++[x.d]):=hv';rw[show all.map aD.d++[x.d]=(all++[x]).map aD.d by simp]at hv';by_cases hbt:qh sy j
  ·have hbj:=xp hsy hbt;obtain⟨hy0,ri3⟩:=ri2.out hbj;rw[List.length_append]at ri3;replace ri3:RI s l (j+1) (fu X).1 (all++[x]) (all.length+1):=ri3;have hln:mO (.slice 48 8 80 true) z'=some (all.length+1):=by rw[hv'.len];simp
   rw[hy0]at hY;have hr:=hr.out;rw[if_pos hbt]at hr;unfold qh at hbt;rw[hbt]at hb2;replace hr:Hid _:=hr;replace ri3:Hid _:=ri3;generalize(fu X).1=Y at *;haveI:Ct Tryz.prog 18 [X.d] True (.tup [Y.d,I 0]):=⟨fun _=>hY⟩
   clear hY hy0 ri1 ri2 hbt hbj hlen hle1 hxo;have hb3:((1:Nat):Int)=1:=rfl;repeat' first|exact zQ|with_reducible refine zJ (fun _=>?_) fun _=>?_|refine zK ?_|fail
   exact⟨Y,all++[x],all.length+1,z',rfl,rfl,hv'.of fun t ht=>by simp at ht;subst ht;simp[ao,aY,cm],rfl,ri3.out,hr⟩
  ·have hr:=hr.out;rw[if_neg hbt]at hr;have hz:sy / 2 ^ min j 16 % 2=0:=by unfold qh at hbt;omega
   rw[hz]at hb2;replace hr:Hid _:=hr;have ri3:=ri1.out.skip;replace ri3:Hid _:=ri3;clear hY ri1 ri2 hbt hz hlen hle1 hxo;have hb3:((0:Nat):Int)=0:=rfl;repeat' first|exact zQ|with_reducible refine zJ (fun _=>?_) fun _=>?_|refine zK ?_|fail
   exact⟨X,all++[x],safe,z',rfl,rfl,hv'.of fun t ht=>by simp at ht;subst ht;simp[ao,aY,cm],rfl,ri3.out,hr⟩
 ·obtain⟨h25,p,all,safe,z,b6,h7,hv,h8,ri,hr⟩:=hi;have hr:=hr.out;rw[List.drop_length]at hr;unfold iX at hr;subst hr;have hf:=hv.facts;obtain⟨r,o2,o1⟩:=o4 hv (by rw[cA];simp[D.pure,D.aF]);clear ri;repeat' first|exact zQ|with_reducible refine zJ (fun _=>?_) fun _=>?_|refine zK ?_|fail
  rw[o1 _ fun t ht=>by simp at ht;subst ht;simp[ao,aY,cm]];simp only[go_sem];exact pv (.cons (.refl _) (.cons o2 (.cons (.refl _) (.cons (.refl _) .nil))))
abbrev di:Sh:=.int .i64
theorem oH{n:Int}(h:(Lit.int .i64 n).wf=true):i64 n:=by
 simp[Lit.wf,IntKind.min,IntKind.max,IntKind.signed,IntKind.bits]at h;exact⟨by omega,by omega⟩
theorem fU{α:Type}{e:Sh}{sz:Nat}{f:α->D}{p:α->Prop}(key:∀ys,e.bB ys->∃x:α,e.pack ys=f x/\p x){ys:List D}(h:(Sh.slice sz e).bB ys):∃l:List α,ys=[.sl sz (l.map f)]/\Lm l/\∀x∈l,p x:=by
 simp only[Sh.bB]at h;obtain⟨es,rfl,hl,h⟩:=h;obtain⟨l,rfl,hp⟩:=lP (f:=f) (p:=p) (es:=es) fun x hx=>by
  obtain⟨zs,rfl,hz⟩:=h x hx;exact key zs hz
 rw[List.length_map]at hl;exact⟨l,rfl,ea hl,hp⟩
def wh:Sh:=.agg [.str,di,di,di,oC]
def MY:Sh:=.agg [di,di,di,.slice 5 wh]
def Ge:Sh:=.agg [di,di,MY]
def tj:Sh:=.agg [di,di,Ge]
structure KV(x:Word):Prop where
 al:Lm x.alts
 f:i64 x.f
 u:i64 x.u
 s:i64 x.s
theorem Hz(ys:List D)(h:wh.bB ys):∃x:Word,wh.pack ys=x.d/\KV x:=by
 simp only[wh,Sh.bB,Sh.fI]at h;obtain⟨_,_,rfl,⟨t,rfl,_⟩,_,_,rfl,⟨f,rfl,h1⟩,_,_,rfl,⟨u,rfl,h2⟩,_,_,rfl,⟨s,rfl,h3⟩,_,_,rfl,h4,rfl⟩:=h;obtain⟨l,rfl,hl,_⟩:=n7 h4;exact⟨⟨t,f,u,s,l⟩,rfl,⟨hl,oH h1,oH h2,oH h3⟩⟩
structure xl(x:aD):Prop where
 lw:Lm x.words
 al:∀w∈x.words,Lm w.alts
 ok:okW (cw x)
theorem Fv(ys:List D)(h:tj.bB ys):∃x:aD,tj.pack ys=x.d/\xl x:=by
 simp only[tj,Ge,MY,Sh.bB,Sh.fI]at h;obtain⟨_,_,rfl,⟨a,rfl,h1⟩,_,_,rfl,⟨b,rfl,h2⟩,_,_,rfl,⟨_,_,rfl,⟨c,rfl,h3⟩,_,_,rfl,⟨d,rfl,h4⟩,_,_,rfl,⟨_,_,rfl,⟨e,rfl,h5⟩,_,_,rfl,⟨f,rfl,h6⟩,_,_,rfl,⟨g,rfl,h7⟩,_,_,rfl,h8,rfl⟩,rfl⟩,rfl⟩:=h;obtain⟨l,rfl,hl,hp⟩:=fU (f:=Word.d) (p:=KV) Hz (sz:=5) (by simp only[Sh.bB];exact h8);refine⟨⟨a,b,c,d,e,f,g,l⟩,rfl,⟨hl,fun w hw=>(hp w hw).al,?_⟩⟩;have hw:∀x∈l,okW (bS x):=fun x hx=>by
  have o:=hp x hx;have ht:mP (x.alts.map aQ.t):=by rw[qE];intro y hy;obtain⟨s,_,rfl⟩:=List.mem_map.1 hy;trivial
  have h1:=o.f;have h2:=o.u;have h3:=o.s;unfold i64 at h1 h2 h3;simp[bS,okW,mP,ht,h1,h2,h3]
 have hws:mP (l.map bS):=by rw[qE];intro y hy;obtain⟨s,hs,rfl⟩:=List.mem_map.1 hy;exact hw s hs
 replace h1:=oH h1;replace h2:=oH h2;replace h3:=oH h3;replace h4:=oH h4;replace h5:=oH h5;replace h6:=oH h6;replace h7:=oH h7;unfold i64 at h1 h2 h3 h4 h5 h6 h7;simp[cw,okW,mP,hws,h1,h2,h3,h4,h5,h6,h7]
def wg:Sh:=.agg [di,di,di,di,oC,oC,.str,.bool]
theorem Hy(ys:List D)(h:wg.bB ys):∃x:Term,wg.pack ys=x.d/\St.vI x:=by
 simp only[wg,Sh.bB,Sh.fI]at h;obtain⟨_,_,rfl,⟨a,rfl,_⟩,_,_,rfl,⟨b,rfl,_⟩,_,_,rfl,⟨c,rfl,_⟩,_,_,rfl,⟨e,rfl,_⟩,_,_,rfl,h1,_,_,rfl,h2,_,_,rfl,⟨t,rfl,h3⟩,_,_,rfl,⟨g,rfl⟩,rfl⟩:=h;obtain⟨l,rfl,hl,_⟩:=n7 h1;obtain⟨m,rfl,hm,_⟩:=n7 h2;exact⟨⟨a,b,c,e,l,m,t,g⟩,rfl,ea h3,hl,hm⟩
def tp:Sh:=.agg [di,di,di,di,di,di,di,di,di,di]
theorem Fx(ys:List D)(h:tp.bB ys):∃x:bE,tp.pack ys=x.d/\True:=by
 simp only[tp,Sh.bB,Sh.fI]at h;obtain⟨_,_,rfl,⟨a,rfl,_⟩,_,_,rfl,⟨b,rfl,_⟩,_,_,rfl,⟨c,rfl,_⟩,_,_,rfl,⟨d,rfl,_⟩,_,_,rfl,⟨e,rfl,_⟩,_,_,rfl,⟨f,rfl,_⟩,_,_,rfl,⟨g,rfl,_⟩,_,_,rfl,⟨i,rfl,_⟩,_,_,rfl,⟨j,rfl,_⟩,_,_,rfl,⟨k,rfl,_⟩,rfl⟩:=h;exact⟨⟨a,b,c,d,e,f,g,i,j,k⟩,rfl,trivial⟩
def qZ:Sh:=.agg [di,.agg (List.replicate 4 di)]
theorem Ds(ys:List D)(h:qZ.bB ys):∃x:aJ,qZ.pack ys=x.d/\True:=by
 simp only[qZ,List.replicate,Sh.bB,Sh.fI]at h;obtain⟨_,_,rfl,⟨a,rfl,_⟩,_,_,rfl,⟨_,_,rfl,⟨b,rfl,_⟩,_,_,rfl,⟨c,rfl,_⟩,_,_,rfl,⟨d,rfl,_⟩,_,_,rfl,⟨e,rfl,_⟩,rfl⟩,rfl⟩:=h;exact⟨⟨a,b,c,d,e⟩,rfl,trivial⟩
def nO:Sh:=.agg [di,di,di,di,di,di,di]
theorem Fy(ys:List D)(h:nO.bB ys):∃x:bo,nO.pack ys=x.d/\True:=by
 simp only[nO,Sh.bB,Sh.fI]at h;obtain⟨_,_,rfl,⟨a,rfl,_⟩,_,_,rfl,⟨b,rfl,_⟩,_,_,rfl,⟨c,rfl,_⟩,_,_,rfl,⟨d,rfl,_⟩,_,_,rfl,⟨e,rfl,_⟩,_,_,rfl,⟨f,rfl,_⟩,_,_,rfl,⟨g,rfl,_⟩,rfl⟩:=h;exact⟨⟨a,b,c,d,e,f,g⟩,rfl,trivial⟩
def kS:Sh:=.agg [di,di,di,di]
theorem Fz(ys:List D)(h:kS.bB ys):∃x:aT,kS.pack ys=x.d/\i64 x.kind:=by
 simp only[kS,Sh.bB,Sh.fI]at h;obtain⟨_,_,rfl,⟨a,rfl,_⟩,_,_,rfl,⟨b,rfl,_⟩,_,_,rfl,⟨c,rfl,h1⟩,_,_,rfl,⟨d,rfl,_⟩,rfl⟩:=h;exact⟨⟨a,b,c,d⟩,rfl,oH h1⟩
def o_:Sh:=.agg [di,di,di]
theorem Ft(ys:List D)(h:o_.bB ys):∃x:dM,o_.pack ys=x.d/\True:=by
 simp only[o_,Sh.bB,Sh.fI]at h;obtain⟨_,_,rfl,⟨a,rfl,_⟩,_,_,rfl,⟨b,rfl,_⟩,_,_,rfl,⟨c,rfl,_⟩,rfl⟩:=h;exact⟨⟨a,b,c⟩,rfl,trivial⟩
theorem Hs(ys:List D)(h:o_.bB ys):∃x:eU,o_.pack ys=x.d/\True:=by
 simp only[o_,Sh.bB,Sh.fI]at h;obtain⟨_,_,rfl,⟨a,rfl,_⟩,_,_,rfl,⟨b,rfl,_⟩,_,_,rfl,⟨c,rfl,_⟩,rfl⟩:=h;exact⟨⟨a,b,c⟩,rfl,trivial⟩
theorem Hu(ys:List D)(h:kS.bB ys):∃x:eB,kS.pack ys=x.d/\True:=by
 simp only[kS,Sh.bB,Sh.fI]at h;obtain⟨_,_,rfl,⟨a,rfl,_⟩,_,_,rfl,⟨b,rfl,_⟩,_,_,rfl,⟨c,rfl,h1⟩,_,_,rfl,⟨d,rfl,_⟩,rfl⟩:=h;exact⟨⟨a,b,c,d⟩,rfl,trivial⟩
def we:Sh:=.agg [.str,.slice 1 di]
theorem JK(ys:List D)(h:di.bB ys):∃x:Int,di.pack ys= .int .i64 x/\True:=by
 simp only[Sh.bB]at h;obtain⟨n,rfl,_⟩:=h;exact⟨n,rfl,trivial⟩
theorem Hw(ys:List D)(h:we.bB ys):∃x:Sign,we.pack ys=x.d/\Lm x.c:=by
 rw[we,Sh.bB]at h;simp only[Sh.fI]at h;obtain⟨_,_,rfl,h0,_,_,rfl,h1,rfl⟩:=h;simp only[Sh.bB]at h0;obtain⟨t,rfl,_⟩:=h0;obtain⟨l,rfl,hl,_⟩:=fU (f:=D.int .i64) (p:=fun _=>True) JK h1;exact⟨⟨t,l⟩,rfl,hl⟩
def rb:Sh:=.agg [di,di,di,di,di,di,.bool,.agg [.slice 3 o_,di,.slice 3 o_],.slice 2 we,.agg [di,di,.slice 4 kS]]
theorem ng{ys:List D}(h:di.bB ys):∃n,ys=[I n]:=by
 simp only[Sh.bB]at h;obtain⟨n,rfl,_⟩:=h;exact⟨n,rfl⟩
theorem OE{ys:List D}(h:Sh.bool.bB ys):∃n,ys=[.bool n]:=by
 simp only[Sh.bB]at h;exact h
theorem Dt(ys:List D)(h:rb.bB ys):∃x:bL,rb.pack ys=x.d/\Az x:=by
 rw[rb,Sh.bB]at h;simp only[Sh.fI]at h;obtain⟨_,_,rfl,ha,_,_,rfl,hb,_,_,rfl,hc,_,_,rfl,hd,_,_,rfl,he,_,_,rfl,hf,_,_,rfl,hg,_,_,rfl,h1,_,_,rfl,h2,_,_,rfl,h3,rfl⟩:=h;rw[Sh.bB]at h1 h3;simp only[Sh.fI]at h1 h3;obtain⟨_,_,rfl,i1,_,_,rfl,i2,_,_,rfl,i3,rfl⟩:=h1;obtain⟨_,_,rfl,j1,_,_,rfl,j2,_,_,rfl,j3,rfl⟩:=h3;obtain⟨a,rfl⟩:=ng ha;obtain⟨b,rfl⟩:=ng hb;obtain⟨c,rfl⟩:=ng hc;obtain⟨d,rfl⟩:=ng hd;obtain⟨e,rfl⟩:=ng he;obtain⟨f,rfl⟩:=ng hf;obtain⟨g,rfl⟩:=OE hg;obtain⟨o,rfl⟩:=ng i2;obtain⟨w,rfl⟩:=ng j1;obtain⟨z,rfl⟩:=ng j2;obtain⟨gs,rfl,k1,_⟩:=fU Ft i1;obtain⟨ks,rfl,k2,_⟩:=fU Hs i3;obtain⟨ss,rfl,k3,k4⟩:=fU Hw h2;obtain⟨bl,rfl,k5,_⟩:=fU Hu j3;exact⟨⟨a,b,c,d,e,f,g,⟨gs,o,ks⟩,ss,⟨w,z,bl⟩⟩,rfl,⟨k1,k2⟩,⟨k3,k4⟩,k5⟩
def CU:Sh:=nO
def q_:Sh:=.agg [CU,.slice 6 sK,.slice 8 wg,.slice 10 tp,.slice 5 qZ,.slice 7 nO,.slice 14 rb,.slice 4 kS,.slice 8 tj]
structure lG(s:aN):Prop where
 gr:Lm s.grams/\∀g∈s.grams,iZ g
 te:Lm s.terms/\∀x∈s.terms,St.vI x
 ho:Lm s.house
 lb:Lm s.budgets
 lt:Lm s.trades
 vi:Lm s.viewers/\∀v∈s.viewers,Az v
 vs:Lm s.visits/\∀v∈s.visits,i64 v.kind
 he:Lm s.heard/\∀h∈s.heard,xl h
theorem Fu(ys:List D)(h:sK.bB ys):∃g:aO,sK.pack ys=g.d/\iZ g:=Hr ⟨ys,rfl,h⟩
theorem Hx(ys:List D)(h:q_.bB ys):∃s:aN,.agg ys=s.d/\lG s:=by
 rw[q_,Sh.bB]at h;simp only[Sh.fI]at h;obtain⟨_,_,rfl,h0,_,_,rfl,h1,_,_,rfl,h2,_,_,rfl,h3,_,_,rfl,h4,_,_,rfl,h5,_,_,rfl,h6,_,_,rfl,h7,_,_,rfl,h8,rfl⟩:=h;simp only[CU,nO,Sh.bB,Sh.fI]at h0;obtain⟨_,_,rfl,⟨a,rfl,_⟩,_,_,rfl,⟨b,rfl,_⟩,_,_,rfl,⟨c,rfl,_⟩,_,_,rfl,⟨d,rfl,_⟩,_,_,rfl,⟨e,rfl,_⟩,_,_,rfl,⟨f,rfl,_⟩,_,_,rfl,⟨g,rfl,_⟩,rfl⟩:=h0;obtain⟨l1,rfl,k1,p1⟩:=fU Fu h1;obtain⟨l2,rfl,k2,p2⟩:=fU Hy h2;obtain⟨l3,rfl,k3,p3⟩:=fU Fx h3;obtain⟨l4,rfl,k4,p4⟩:=fU Ds h4;obtain⟨l5,rfl,k5,p5⟩:=fU Fy h5;obtain⟨l6,rfl,k6,p6⟩:=fU Dt h6;obtain⟨l7,rfl,k7,p7⟩:=fU Fz h7;obtain⟨l8,rfl,k8,p8⟩:=fU Fv h8;exact⟨⟨a,b,c,d,e,f,g,l1,l2,l3,l4,l5,l6,l7,l8⟩,rfl,⟨⟨k1,p1⟩,⟨k2,p2⟩,k3,k4,k5,⟨k6,p6⟩,⟨k7,p7⟩,⟨k8,p8⟩⟩⟩
theorem Co{d:D}(h:q_.has d):∃s:aN,d=s.d/\lG s:=by
 obtain⟨ys,rfl,h⟩:=h;exact Hx ys h
theorem Hp(ys:List D)(h:(Sh.int .u8).bB ys):∃x:UInt8,(Sh.int .u8).pack ys= .int .u8 (x.toNat:Int)/\True:=by
 simp only[Sh.bB]at h;obtain⟨n,rfl,hw⟩:=h;simp[Lit.wf,IntKind.min,IntKind.max,IntKind.signed,IntKind.bits]at hw;refine⟨UInt8.ofNat n.toNat,?_,trivial⟩;show D.int .u8 n=_
 congr 1
 rw[UInt8.toNat_ofNat_of_lt' (by simp[UInt8.size];omega)];omega
theorem Fq(ys:List D)(h:pU.bB ys):∃b:ah,pU.pack ys=bj b/\Lm b:=by
 rw[pU]at h;obtain⟨l,rfl,hl,_⟩:=fU Hp h;exact⟨l,rfl,hl⟩
structure wB(p:bc):Prop where
 sit:lG p.sit
 rcs:Lm p.jnl.recs/\∀b∈p.jnl.recs,Lm b
 sec:Lm p.bF.secs/\∀b∈p.bF.secs,Lm b
 pen:Lm p.bF.pend/\∀w∈p.bF.pend,Lm w.data
theorem lX{n:Int}(h:okW (.i n)):(bH (.i n)).length<=11:=by
 rw[okW]at h;have:=iR (Bo h.1 h.2);simp only[bH,List.length_cons];omega
theorem IL{s:ah}(h:s.length<=1048576):(bH (.t s)).length<=11+s.length:=by
 have:=iR (u:=s.length) oM;simp only[bH,List.length_cons,List.length_append];omega
theorem yL{xs:List aQ}(h:xs.length<=1048576):(bH (.l xs)).length<=11+(cI xs).length:=by
 have:=iR (u:=xs.length) oM;simp only[bH,List.length_cons,List.length_append];omega
theorem oT{α:Type}{f:α->D}(hf:∀x,1<=(f x).bulk):∀l:List α,l.length<=D.bZ (l.map f)
 |[]=>Nat.zero_le _
 |x::l=>by
  rw[List.map_cons,D.bZ,List.length_cons];have:=oT hf l;have:=hf x;omega
theorem E6:∀ {l:List ah},D.bZ (l.map D.str)<=1048576->(cI (l.map .t)).length<=15 * D.bZ (l.map D.str)
 |[],_=>Nat.zero_le _
 |s::l,h=>by
  simp only[List.map_cons,cI,List.length_append,D.bZ,D.bulk]at h⊢;have:=IL (s:=s) oM;have:=E6 (l:=l) oM;omega
theorem yu(w:Word):w.d.bulk=w.t.length+5+D.bZ (w.alts.map D.str):=by simp only[Word.d,strs,D.bulk,D.bZ];omega
theorem G6{w:Word}(ok:okW (bS w))(h:w.d.bulk<=1048576):(bH (bS w)).length<=15 * w.d.bulk:=by
 rw[yu]at h⊢;have ha:=oT (f:=D.str) (fun x=>by simp[D.bulk]) w.alts;unfold bS at ok⊢;rw[vJ]at ok;have h0:=yL (xs:=[.t w.t,.i w.f,.i w.u,.i w.s,.l (w.alts.map .t)]) sI;have h1:=IL (s:=w.t) oM;have h2:=lX (n:=w.f) (ok _ sI);have h3:=lX (n:=w.u) (ok _ sI);have h4:=lX (n:=w.s) (ok _ sI);have h5:=yL (xs:=w.alts.map aQ.t) (by rw[List.length_map];omega);have h6:=E6 (l:=w.alts) oM;simp only[cI,List.length_append,List.length_nil]at h0;omega
theorem xC:∀ {l:List Word},(∀w∈l,okW (bS w))->D.bZ (l.map Word.d)<=1048576->(cI (l.map bS)).length<=15 * D.bZ (l.map Word.d)
 |[],_,_=>Nat.zero_le _
 |w::l,ok,h=>by
  simp only[List.map_cons,cI,List.length_append,D.bZ]at h⊢;have:=G6 (ok w sI) oM;have:=xC (l:=l) (fun x hx=>ok x (by simp[hx])) oM;omega
theorem vq(h:aD):h.d.bulk=8+D.bZ (h.words.map Word.d):=by simp only[aD.d,D.bulk,D.bZ];omega
theorem Ke{h:aD}(ok:okW (cw h))(hb:h.d.bulk<=1048576):(bV h).length<=15 * h.d.bulk:=by
 rw[vq]at hb⊢;have ha:=oT (f:=Word.d) (fun x=>by rw[yu];omega) h.words;unfold bV;unfold cw at ok⊢;rw[vJ]at ok;have h0:=yL (xs:=[.i h.at_,.i h.src,.i h.seq,.i h.sent,.i h.kind,.i h.opat,.i h.cut,.l (h.words.map bS)]) sI;have h1:=lX (n:=h.at_) (ok _ sI);have h2:=lX (n:=h.src) (ok _ sI);have h3:=lX (n:=h.seq) (ok _ sI);have h4:=lX (n:=h.sent) (ok _ sI);have h5:=lX (n:=h.kind) (ok _ sI);have h6:=lX (n:=h.opat) (ok _ sI);have h7:=lX (n:=h.cut) (ok _ sI);have h8:=yL (xs:=h.words.map bS) (by rw[List.length_map];omega);have okw:=ok (.l (h.words.map bS)) sI;rw[vJ]at okw;have h9:=xC (l:=h.words) (fun w hw=>okw _ (List.mem_map_of_mem hw)) oM;simp only[cI,List.length_append,List.length_nil]at h0;omega
theorem CH{h:aD}(o:xl h)(hb:h.d.bulk<=1048576):iW h:=⟨o.ok,by have:=Ke o.ok hb;omega⟩
theorem pI{xs:List D}{i n:Nat}{es:List D}(h:xs[i]? =some (.sl n es)):D.bZ es+1<=(D.agg xs).bulk:=by
 have:=kH (List.mem_of_getElem? h);simp only[D.bulk]at this⊢;exact this
theorem Il{s:aN}{h:aD}(hh:h∈s.heard):h.d.bulk<=s.d.bulk:=by
 have h1:=kH (l:=s.heard.map aD.d) (List.mem_map_of_mem hh);have h2:=pI (xs:=s.d.cells) (i:=14) (n:=8) (es:=s.heard.map aD.d) rfl;exact Nat.le_trans h1 (Nat.le_of_succ_le h2)
theorem DZ{p:bc}{h:aD}(hh:h∈p.sit.heard):h.d.bulk<=p.d.bulk:=by
 have h1:=kH (l:=p.sit.heard.map aD.d) (List.mem_map_of_mem hh);have h2:=pI (xs:=p.d.cells) (i:=14) (n:=8) (es:=p.sit.heard.map aD.d) rfl;exact Nat.le_trans h1 (Nat.le_of_succ_le h2)
theorem AL(p:bc):p.sit.heard.length<=p.d.bulk:=by
 have h1:=oT (f:=aD.d) (fun x=>by rw[vq];omega) p.sit.heard;have h2:=pI (xs:=p.d.cells) (i:=14) (n:=8) (es:=p.sit.heard.map aD.d) rfl;exact Nat.le_trans h1 (Nat.le_of_succ_le h2)
theorem yk:∀b:ah,D.bZ (aV b)=b.length
 |[]=>rfl
 |x::b=>by
  have:=yk b;simp only[aV,List.map_cons,D.bZ,D.bulk,List.length_cons]at this⊢;omega
theorem B9(b:ah):(bj b).bulk=b.length+1:=by rw[bj,D.bulk,yk]
theorem Ig{p:bc}{b:ah}(hb:b∈p.bF.secs):b.length<=p.d.bulk:=by
 have h1:=kH (l:=p.bF.secs.map bj) (List.mem_map_of_mem hb);rw[B9]at h1;have h2:=pI (xs:=p.d.cells) (i:=18) (n:=1) (es:=p.bF.secs.map bj) rfl;exact Nat.le_trans (Nat.le_of_succ_le h1) (Nat.le_of_succ_le h2)
theorem Es(w:bA):w.d.bulk=w.data.length+2:=by
 have:=B9 w.data;simp only[bA.d,D.bZ,D.bulk]at this⊢;omega
theorem FU{p:bc}{w:bA}(hb:w∈p.bF.pend):w.data.length<=p.d.bulk:=by
 have h1:=kH (l:=p.bF.pend.map bA.d) (List.mem_map_of_mem hb);rw[Es]at h1;have h2:=pI (xs:=p.d.cells) (i:=19) (n:=2) (es:=p.bF.pend.map bA.d) rfl;exact Nat.le_trans (Nat.le_trans (Nat.le_add_right _ 2) h1) (Nat.le_of_succ_le h2)
theorem lG.s{s:aN}(o:lG s)(hf:gY s=true):St.cX s:=by
 refine⟨fun g hg=>⟨o.gr.2 g hg,fun x hx=>?_⟩,o.te.2,fun v hv=>(o.vi.2 v hv).1,o.vs.2,o.gr.1,o.te.1,o.vi.1,o.vs.1,o.he.1⟩;unfold gY at hf;simp only[Bool.and_eq_true,List.all_eq_true]at hf;have h1:=hf.1.1.2 g hg;unfold Dj at h1;have h2:n6 g=true:=by
  cases h:n6 g with
  |true=>rfl
  |false=>rw[h]at h1;simp at h1
 unfold n6 at h2;simp only[Bool.and_eq_true,List.all_eq_true]at h2;have h3:=h2.2.2 x hx;simp only[rS,Bool.and_eq_true,decide_eq_true_eq]at h3;omega
theorem lG.f4{s:aN}(o:lG s):Ay s:=⟨o.gr.2,o.gr.1,o.te.1,o.vi.1,o.he.1,fun h hh=>(o.he.2 h hh).lw⟩
theorem lG.ss{s:aN}(o:lG s):HP s:=⟨⟨o.te.1,fun x hx=>(o.te.2 x hx).2⟩,o.ho,fun g hg=>Gg (o.gr.2 g hg),o.gr.1,o.lb,o.lt,⟨o.vi.1,o.vs.1,o.vi.2⟩,⟨o.he.1,fun h hh=>⟨(o.he.2 h hh).lw,(o.he.2 h hh).al⟩⟩⟩
theorem lG.a_{s:aN}(o:lG s){l:List aD}(hl:Lm l)(hh:∀h∈l,xl h):lG (a_ s l):=⟨o.gr,o.te,o.ho,o.lb,o.lt,o.vi,o.vs,⟨hl,hh⟩⟩
theorem lG.zero:lG s0:=⟨⟨by simp[Lm],by simp⟩,⟨by simp[Lm],by simp⟩,by simp[Lm],by simp[Lm],by simp[Lm],⟨by simp[Lm],by simp⟩,⟨by simp[Lm],by simp⟩,⟨by simp[Lm],by simp⟩⟩
theorem Bj:∀ {l:List ah},(∀b∈l,b.length<=2000)->aS l<=19 * l.length
 |[],_=>Nat.zero_le _
 |b::l,h=>by
  have h1:=Bj fun x hx=>h x (List.mem_cons_of_mem _ hx);have h2:=h b (List.mem_cons_self ..);have h3:bn b<=19:=by unfold bn;omega
  simp only[aS,List.map_cons,List.sum_cons,List.length_cons]at h1⊢;omega
theorem wB.f{p:bc}(o:wB p)(hb:p.d.bulk<=1048576):okF p:=
 ⟨o.sit.f4,⟨⟨o.sec.1,o.pen.1⟩,fun b hm=>by have:=Ig hm;omega,fun w hm=>by have:=FU hm;omega⟩,o.rcs.1,o.rcs.2⟩
theorem wB.hr{p:bc}(o:wB p)(hb:p.d.bulk<=1048576):∀h∈p.sit.heard,iW h:=fun h hh=>CH (o.sit.he.2 h hh) (by have:=DZ hh;omega)
theorem wB.p{p:bc}(o:wB p)(hb:p.d.bulk<=1048576)(hf:Lz p=true):mY p:=by
 unfold Lz at hf;simp only[Bool.and_eq_true,List.all_eq_true]at hf;obtain⟨hf,hr⟩:=hf;have hf1:gY p.sit=true/\¬(40:Int)<p.jnl.recs.length:=by
  cases h:gY p.sit with
  |false=>rw[h]at hf;simp at hf
  |true=>rw[h]at hf;simp at hf;exact⟨rfl,by omega⟩
 have hu:=Bj (l:=p.jnl.recs) fun b hm=>by have:=hr b hm;simp at this;omega
 refine⟨o.sit.s hf1.1,?_,o.hr hb,?_,⟨o.sec.1,o.pen.1⟩⟩
 ·have:=AL p;omega
 ·unfold o0;omega
structure PA(p:bc):Prop where
 a:HP p.sit
 b:Lm p.jnl.recs
 c:okD p.bF
theorem PA.zero:PA p0:=⟨lG.zero.ss,by simp[Lm],by simp[Lm],by simp[Lm]⟩
end Go.V.Jn
