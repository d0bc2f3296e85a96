/- Plants: what a crash keeps. -/
import Derived.Test.YtkgloohlmogakaaGreatDoorB41
set_option linter.unusedSimpArgs false
set_option linter.unusedVariables false
set_option linter.unnecessarySimpa false
set_option maxRecDepth 100000
namespace Go.V.Jn
open Go.Proofs Go.RowKit Go.V.Lx Go.V.Gr Go.V.Ty Go.V.St
structure KI(s:aN)(p:bc)(all:List aD)(safe g:Nat)(B:List aD):Prop where
 pg:PG p
 sit:p.sit=a_ s B
 pre:B=all.take B.length
 syn:p.jnl.sync=safe
 gen:bQ p.bF.secs<=g
theorem KI.safe{s:aN}{p:bc}{all:List aD}{safe g:Nat}{B:List aD}(h:KI s p all safe g B):safe<=B.length/\B.length<=4096/\B.length<=all.length:=by
 have h1:=xf h.pg.sit;obtain⟨_,j3,j4,_⟩:=gL h.pg.jnl;rw[h.pg.recs,List.length_map,h.sit,h.syn]at j4;rw[h.sit]at h1;simp only at h1 j4;have h2:=congrArg List.length h.pre;rw[List.length_take]at h2;omega
theorem KI.IJ{s:aN}{p:bc}{all:List aD}{safe g:Nat}{B:List aD}(h:KI s p all safe g B){n:Int}(h0:0<=n)(h1:n<=65536)(hg:g<4294967296):
 ∃(C:List aD) (J:fO) (K:bT),dB p n=(⟨a_ s C,J,K⟩,0)/\KI s ⟨a_ s C,J,K⟩ all C.length (g+1) C/\safe<=C.length/\C.length<=all.length:=by
 have hs:=h.safe;have hgn:=h.gen;obtain⟨S,q,e,g1,g2,g3,g4,_⟩:=oU h.pg h0 h1 oM;rw[h.sit]at e g4;rw[h.syn]at g3;simp only at e g4;have hq:(B.take q).length=q:=by rw[List.length_take];omega
 refine⟨B.take q,⟨p.jnl.recs.take q,p.jnl.many,q⟩,⟨S,[],-1,false⟩,e,⟨by rw[e]at g1;exact g1,rfl,?_,by rw[hq],by simp only;omega⟩,by rw[hq];omega,by rw[hq];omega⟩;rw[hq,show B.take q=(all.take B.length).take q by rw[<-h.pre],List.take_take,Nat.min_eq_left oM]
theorem KI.ok{s:aN}{p:bc}{all:List aD}{safe g:Nat}{B:List aD}(h:KI s p all safe g B)(os:St.cX s)(oh:∀h∈all,iW h):mY p:=by
 have hs:=h.safe;refine om h.pg (by rw[h.sit];exact fh os oM) ?_;rw[h.sit];intro x hx;simp only at hx;rw[h.pre]at hx;exact oh x (List.mem_of_mem_take hx)
@[reducible] def yh(s:aN)(L:List D):D:=.agg [I s.sources,I s.langs,I s.chunk,I s.quiet,I s.late,I s.gap,I s.most,.sl 6 (s.grams.map aO.d),.sl 8 (s.terms.map Term.d),.sl 10 (s.house.map bE.d),.sl 5 (s.budgets.map aJ.d),.sl 7 (s.trades.map bo.d),.sl 14 (s.viewers.map bL.d),.sl 4 (s.visits.map aT.d),.sl 8 L]
theorem Ga{s:aN}(os:lG s)(hb:s.d.bulk<=1048576)(hf:gY s=true)(hs:bg s=0){sy:Nat}(hsy:sy<65536):∃(all:List aD) (J:fO) (K:bT) (safe:Nat),
 aq Tryz.prog 24 [(a_ s []).d,.sl 8 (s.heard.map aD.d),.int .u16 (sy:Int)] (.tup [bc.d ⟨a_ s all,J,K⟩,.sl 8 (all.map aD.d),I safe,.bool true])/\
 KI s ⟨a_ s all,J,K⟩ all safe 17 all/\(∀h∈all,xl h/\iW h):=by
 have hs0:bg (a_ s [])=0:=by
  have:=A8 (s:=s) (l:=s.heard) hs 0;rwa[List.take_zero]at this
 have oh:∀h∈s.heard,iW h:=fun h hh=>CH (os.he.2 h hh) (by have:=Il hh;omega);have hr:=O0 (a_ s []) s.heard sy hsy (fh (os.s hf) sI) hs0 rfl os.he.1 oh;have hi:=vW hsy s.heard 0 _ _ _ (RI.new (l:=s.heard) hs0 rfl).2 fun _ h=>h;generalize iX sy 0 (dG (a_ s []) 60).1 [] 0 s.heard=R at hr hi;obtain⟨⟨P,J,K⟩,all,safe⟩:=R;have h1:=hi.sit;simp only at h1;subst h1;refine⟨all,J,K,safe,hr,⟨hi.pg,rfl,by rw[List.take_length],hi.syn,?_⟩,fun h hh=>⟨os.he.2 h (hi.mem h hh),oh h (hi.mem h hh)⟩⟩;have:=hi.gen;simp only at this;show bQ K.secs<=17;omega
theorem A2{l:List aD}(hl:Lm l)(oh:∀h∈l,xl h):aq Tryz.prog 25 [.sl 8 (l.map aD.d),.sl 8 (l.map aD.d)] (.bool true):=by
 have key:Ct Tryz.prog 25 [.sl 8 (l.map aD.d),.sl 8 (l.map aD.d)] (Lm l/\∀h∈l,Lm h.words/\∀x∈h.words,Lm x.alts) (.bool true):=inferInstance;exact key.h ⟨hl,fun h hh=>⟨(oh h hh).lw,(oh h hh).al⟩⟩
theorem Cc{p:bc}{n:Int}{X:bc}(h:mY p)(e:dB p n=(X,0)):aq Tryz.prog 20 [p.d,I n] (.tup [X.d,I 0]):=by
 have key:∀(p:bc) (n:Int),Ct Tryz.prog 20 [p.d,I n] (mY p) (.tup [(dB p n).1.d,I (dB p n).2]):=fun p n=>inferInstance;have:=(key p n).h h;rwa[e]at this
theorem sY{p:bc}(h:mY p)(g:PG p):aq Tryz.prog 16 [p.d] (I 0):=by
 have:=(wV p).h h;rwa[if_pos ((dT p).2 g)]at this
set_option maxHeartbeats 8000000 in
theorem Mg(s:aN)(sy lf:Nat)(hsy:sy<65536)(hlf:lf<256)(os:lG s)(hb:s.d.bulk<=1048576):aq Tryz.prog 5 [s.d,.int .u16 (sy:Int),.int .u8 (lf:Int)] (.bool true):=by
 suffices Ct Tryz.prog 5 [s.d,.int .u16 (sy:Int),.int .u8 (lf:Int)] True (.bool true)from this.h trivial
 refine bm (fn:=Tryz.f5) [] [.tmp 6] fun pre=>?_;haveI:Ct Tryz.prog 7 [] True (.bool true):=⟨fun _=>Gc⟩
 have hR:aq Tryz.prog 22 [s.d] (.bool (gY s&&decide (bg s=0))):=by
  have key:Ct Tryz.prog 22 [s.d] (Ay s/\(gY s=true->St.cX s)) (.bool (gY s&&decide (bg s=0))):=inferInstance;exact key.h ⟨os.f4,os.s⟩
 by_cases hc:gY s=true/\bg s=0
 rotate_left
 ·have hF:(gY s&&decide (bg s=0))=false:=by rw[Bool.eq_false_iff];intro h;simp at h;exact hc h
  rw[hF]at hR;haveI:Ct Tryz.prog 22 [s.d] True (.bool false):=⟨fun _=>hR⟩
  clear hR hc os hb hF;repeat' first|exact zQ|with_reducible refine zJ (fun _=>?_) fun _=>?_|refine zK ?_|fail
 obtain⟨hf,hs⟩:=hc;rw[hf,hs]at hR;simp only[decide_true,Bool.and_true]at hR;haveI:Ct Tryz.prog 22 [s.d] True (.bool true):=⟨fun _=>hR⟩
 obtain⟨all,J,K,safe,hr,ki,oh⟩:=Ga os hb hf hs hsy;have oS:=os.s hf;have ok1:=ki.ok oS fun h hh=>(oh h hh).2;obtain⟨C,J',K',e,ki2,g1,g2⟩:=ki.IJ (n:=((lf % 24:Nat):Int)) oM oM oM;have ok2:=ki2.ok oS fun h hh=>(oh h hh).2;have a1:=Cc ok1 e;have a2:=sY ok1 ki.pg;have a3:=sY ok2 ki2.pg;have hal:=ki.safe;have a4:=A2 (l:=all) (by simp only[Lm];omega) fun h hh=>(oh h hh).1;have hC:∀h∈C,xl h:=fun h hh=>by rw[ki2.pre]at hh;exact(oh h (List.mem_of_mem_take hh)).1
 have a5:=A2 (l:=C) (by simp only[Lm];omega) hC;have a6:aq Tryz.prog 25 [.sl 8 (C.map aD.d),.sl 8 ((all.map aD.d).take C.length)] (.bool true):=by rw[<-List.map_take,<-ki2.pre];exact a5
 have a7:aq Tryz.prog 26 [(a_ s []).d,(a_ s []).d] (.bool true):=(Jb (a_ s [])).h (os.a_ (by simp[Lm]) sI).ss;have a8:aq Tryz.prog 23 [yh s (C.map aD.d)] (.tup [yh s [],.sl 8 (C.map aD.d)]):=by
  have key:∀s:aN,Ct Tryz.prog 23 [s.d] True (.tup [(a_ s []).d,.sl 8 (s.heard.map aD.d)]):=fun s=>inferInstance;exact(key (a_ s C)).h trivial
 haveI:Ct Tryz.prog 23 [yh s (C.map aD.d)] True (.tup [yh s [],.sl 8 (C.map aD.d)]):=⟨fun _=>a8⟩
 haveI:Ct Tryz.prog 24 [yh s [],.sl 8 (s.heard.map aD.d),.int .u16 (sy:Int)] True (.tup [bc.d ⟨a_ s all,J,K⟩,.sl 8 (all.map aD.d),I safe,.bool true]):=⟨fun _=>hr⟩
 haveI:Ct Tryz.prog 20 [bc.d ⟨a_ s all,J,K⟩,I ((lf % 24:Nat):Int)] True (.tup [bc.d ⟨a_ s C,J',K'⟩,I 0]):=⟨fun _=>a1⟩
 haveI:Ct Tryz.prog 16 [bc.d ⟨a_ s all,J,K⟩] True (I 0):=⟨fun _=>a2⟩
 haveI:Ct Tryz.prog 16 [bc.d ⟨a_ s C,J',K'⟩] True (I 0):=⟨fun _=>a3⟩
 haveI:Ct Tryz.prog 25 [.sl 8 (all.map aD.d),.sl 8 (all.map aD.d)] True (.bool true):=⟨fun _=>a4⟩
 haveI:Ct Tryz.prog 25 [.sl 8 (C.map aD.d),.sl 8 ((all.map aD.d).take C.length)] True (.bool true):=⟨fun _=>a6⟩
 haveI:Ct Tryz.prog 26 [yh s [],yh s []] True (.bool true):=⟨fun _=>a7⟩
 clear a1 a2 a3 a4 a5 a6 a7 a8 hr hR ok1 ok2 hC e os oS oh hb hf hs ki ki2;have hm:(lf:Int).tmod 24=((lf % 24:Nat):Int):=by rw[Int.tmod_eq_emod_of_nonneg oM];rfl
 have c1:¬((C.length:Int)<(safe:Int)):=oM;have c2:(C.length:Int)<=(all.length:Int):=oM;repeat' first|exact zQ|with_reducible refine zJ (fun _=>?_) fun _=>?_|refine zK ?_|fail
 all_goals (exfalso;omega)
set_option maxHeartbeats 8000000 in
theorem Kw(s:aN)(sy:Nat)(l:ah)(hsy:sy<65536)(hl:Lm l)(os:lG s)(hb:s.d.bulk<=1048576):aq Tryz.prog 6 [s.d,.int .u16 (sy:Int),bj l] (.bool true):=by
 suffices Ct Tryz.prog 6 [s.d,.int .u16 (sy:Int),bj l] True (.bool true)from this.h trivial
 refine bm (fn:=Tryz.f6) [] [.tmp 6] fun pre=>?_;haveI:Ct Tryz.prog 7 [] True (.bool true):=⟨fun _=>Gc⟩
 have hR:aq Tryz.prog 22 [s.d] (.bool (gY s&&decide (bg s=0))):=by
  have key:Ct Tryz.prog 22 [s.d] (Ay s/\(gY s=true->St.cX s)) (.bool (gY s&&decide (bg s=0))):=inferInstance;exact key.h ⟨os.f4,os.s⟩
 by_cases hc:gY s=true/\bg s=0
 rotate_left
 ·have hF:(gY s&&decide (bg s=0))=false:=by rw[Bool.eq_false_iff];intro h;simp at h;exact hc h
  rw[hF]at hR;haveI:Ct Tryz.prog 22 [s.d] True (.bool false):=⟨fun _=>hR⟩
  clear hR hc os hb hF;repeat' first|exact zQ|with_reducible refine zJ (fun _=>?_) fun _=>?_|refine zK ?_|fail
 obtain⟨hf,hs⟩:=hc;rw[hf,hs]at hR;simp only[decide_true,Bool.and_true]at hR;haveI:Ct Tryz.prog 22 [s.d] True (.bool true):=⟨fun _=>hR⟩
 obtain⟨all,J,K,safe,hr,ki,oh⟩:=Ga os hb hf hs hsy;have oS:=os.s hf;haveI:Ct Tryz.prog 24 [yh s [],.sl 8 (s.heard.map aD.d),.int .u16 (sy:Int)] True (.tup [bc.d ⟨a_ s all,J,K⟩,.sl 8 (all.map aD.d),I safe,.bool true]):=⟨fun _=>hr⟩
 have hal:=ki.safe.2.1;replace ki:Hid _:=ki;replace oh:Hid _:=oh;replace oS:Hid _:=oS;clear hr hR hf hs hb os;repeat' first|exact zQ|with_reducible refine zJ (fun _=>?_) fun _=>?_|refine zK ?_|fail
 refine bO l [(6,6),(11,11),(14,16),(45,94)] [(9,9),(15,15)] (fun j τ β=>τ 45=I j/\∃(B:List aD) (J:fO) (K:bT) (safe:Nat),τ 11=I safe/\β 9=⟨1,1,22,41,[bc.d ⟨a_ s B,J,K⟩]⟩/\Hid (KI s ⟨a_ s B,J,K⟩ all safe (17+j) B)) hl ⟨by simp[go_sem],all,J,K,safe,by simp[go_sem],by simp[go_sem],ki⟩ (fun j x τ β hx hj hw hi=>?_) fun τ β hn hi=>?_
 ·obtain⟨h45,B,J,K,safe,h11,b9,ki⟩:=hi;have hl6:l.length<=6:=oM;obtain⟨C,J',K',e,ki2,g1,g2⟩:=ki.out.IJ (n:=((x.toNat % 24:Nat):Int)) oM oM oM;have a1:=Cc (ki.out.ok oS.out fun h hh=>(oh.out h hh).2) e;have hC:∀h∈C,xl h:=fun h hh=>by rw[ki2.pre]at hh;exact(oh.out h (List.mem_of_mem_take hh)).1
  have a5:=A2 (l:=C) (by simp only[Lm];omega) hC;have a6:aq Tryz.prog 25 [.sl 8 (C.map aD.d),.sl 8 ((all.map aD.d).take C.length)] (.bool true):=by rw[<-List.map_take,<-ki2.pre];exact a5
  haveI:Ct Tryz.prog 20 [bc.d ⟨a_ s B,J,K⟩,I ((x.toNat % 24:Nat):Int)] True (.tup [bc.d ⟨a_ s C,J',K'⟩,I 0]):=⟨fun _=>a1⟩
  haveI:Ct Tryz.prog 25 [.sl 8 (C.map aD.d),.sl 8 ((all.map aD.d).take C.length)] True (.bool true):=⟨fun _=>a6⟩
  have hm:(x.toNat:Int).tmod 24=((x.toNat % 24:Nat):Int):=by rw[Int.tmod_eq_emod_of_nonneg oM];rfl
  have hwx:IntKind.i64.wrap (x.toNat:Int)=x.toNat:=iL _ oM (by have:=x.toNat_lt;omega);have c1:¬((C.length:Int)<(safe:Int)):=oM;have c2:¬((all.length:Int)<(C.length:Int)):=oM;replace ki2:Hid _:=ki2;clear ki e a1 a5 a6 hC g1;repeat' first|exact zQ|with_reducible refine zJ (fun _=>?_) fun _=>?_|refine zK ?_|fail
  exact⟨C,J',K',C.length,rfl,rfl,ki2⟩
 ·repeat' first|exact zQ|with_reducible refine zJ (fun _=>?_) fun _=>?_|refine zK ?_|fail
end Go.V.Jn
