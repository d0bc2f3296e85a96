/- Sittings: budgets and trades. -/
import Derived.Test.YtkgloohlmogakaaGreatDoorB21
set_option linter.unusedSimpArgs false
set_option linter.unusedVariables false
set_option maxRecDepth 100000
namespace Go.V.St
open Go.Proofs Go.RowKit Go.V.Lx Go.V.Gr Go.V.Ty
def j7(n:Int):Bool:=aL n 0 1073741824
def dH(b:aJ):Bool:=aL b.lang 0 31&&(j7 b.m0&&j7 b.m1&&j7 b.m2&&j7 b.m3)
def gU(ls:List Int)(x:bo):Bool:=aL x.no 0 1048576&&aL x.at_ 0 1099511627775&&aL x.known 0 1099511627775&&aL x.stage 0 3&&ls.contains x.from_&&ls.contains x.to_&& !decide (x.from_=x.to_)&&aL x.ms 1 1073741824
theorem mr(n a b:Int):aq Tryz.prog 235 [I n,I a,I b] (.bool (aL n a b)):=by
 refine av mixed (fn:=Tryz.f235) (tab:=[]) ?_ rfl aj rfl;refine aw _ [.tmp 6] _ rfl rfl rfl aj ?_;repeat' (first|with_reducible refine ar (fun _=>?_) (fun _=>?_)|with_reducible refine an (fun _=>?_) (fun _=>?_)|simp(disch:=omega) only[go_sem, *])
 all_goals first|exact .refl _|(refine ab (congrArg D.bool ?_);first|(simp(disch:=omega) [*,aL];done)|(simp[aL]at *;omega)|(rw[Bool.eq_iff_iff];simp[aL]at *;omega))
theorem EI(n:Int):aq Tryz.prog 237 [I n] (.bool (!j7 n)):=by
 refine av mixed (fn:=Tryz.f237) (tab:=[]) ?_ rfl aj rfl;refine aw _ [.tmp 2] _ rfl rfl rfl aj ?_;repeat' (first|with_reducible refine ar (fun _=>?_) (fun _=>?_)|with_reducible refine an (fun _=>?_) (fun _=>?_)|with_reducible refine br (mr _ _ _) sG ?_|with_reducible refine bw (mr _ _ _) sG ?_|simp(disch:=omega) only[go_sem, *])
 all_goals first|exact .refl _|(refine ab (congrArg D.bool ?_);first|(simp(disch:=omega) [*,j7];done)|(simp[j7]at *;omega)|(rw[Bool.eq_iff_iff];simp[j7]at *;omega))
theorem zj(b:aJ):aq Tryz.prog 183 [b.d] (.bool (dH b)):=by
 have hc:=Fo (f:=237) (caps:=[]) (p:=fun n=> !j7 n) [b.m0,b.m1,b.m2,b.m3] sI (fun x _=>EI x) (fun x=>rfl) rfl;refine av mixed (fn:=Tryz.f183) (tab:=[]) ?_ rfl aj rfl;refine aw _ [.tmp 2] _ rfl rfl rfl aj ?_;simp(disch:=omega) only[go_sem,aJ.d];refine au (mr _ _ _) rfl ?_;simp(disch:=omega) only[go_sem,aJ.d];refine an (fun h1=>?_) (fun h1=>?_)
 ·simp(disch:=omega) only[go_sem,h1,aJ.d];refine mu hc (by simp[go_sem,qF,D.cells,D.aF,D.pure,D.one,iB,ao,cg,lv,I]) rfl ?_;simp(disch:=omega) only[go_sem,h1,aJ.d];exact ab (congrArg D.bool (by simp[dH,h1,Bool.and_assoc]))
 ·simp(disch:=omega) only[go_sem,h1,aJ.d];exact ab (congrArg D.bool (by simp[dH,h1,Bool.and_assoc]))
theorem EC(b:aJ):aq Tryz.prog 182 [b.d] (.bool (!dH b)):=by
 refine av mixed (fn:=Tryz.f182) (tab:=[]) ?_ rfl aj rfl;refine aw _ [.tmp 2] _ rfl rfl rfl aj ?_;repeat' (first|with_reducible refine ar (fun _=>?_) (fun _=>?_)|with_reducible refine an (fun _=>?_) (fun _=>?_)|with_reducible refine br (zj b) sG ?_|with_reducible refine bw (zj b) sG ?_|simp(disch:=omega) only[go_sem, *,aJ.d])
 all_goals first|exact .refl _|(refine ab (congrArg D.bool ?_);first|(simp(disch:=omega) [*,];done)|(simp[]at *;omega)|(rw[Bool.eq_iff_iff];simp[]at *;omega))
theorem qz(b:aJ):aq Tryz.prog 185 [b.d] (I b.lang):=by
 refine av mixed (fn:=Tryz.f185) (tab:=[]) ?_ rfl aj rfl;refine aw _ [.tmp 2] _ rfl rfl rfl aj ?_;simp(disch:=omega) only[go_sem,aJ.d];exact .refl _
theorem vF(x:bo):aq Tryz.prog 190 [x.d] (I x.no):=by
 refine av mixed (fn:=Tryz.f190) (tab:=[]) ?_ rfl aj rfl;refine aw _ [.tmp 2] _ rfl rfl rfl aj ?_;simp(disch:=omega) only[go_sem,bo.d];exact .refl _
theorem BC(l:List aJ)(hl:l.length<=140737488355328):aq Tryz.prog 184 [.sl 5 (l.map aJ.d),.fn (.func 185) []] (.bool (gv aJ.lang l)):=by
 refine av mixed (fn:=Tryz.f184) (tab:=[(4,[(8,3)])]) ?_ rfl aj rfl;refine aw _ [.tmp 4] _ rfl rfl rfl aj ?_;simp(disch:=omega) only[go_sem];refine aX l.length (fun j σ bx=>σ 0= .sl 5 (l.map aJ.d)/\σ 1= .fn (.func 185) []/\σ 7=I l.length/\σ 8=I j/\gv aJ.lang (l.take j)=true) ?_ ?_ ?_
 ·simp[go_sem,aR,ao,gv]
 ·rintro j σ bx hj ⟨h0,h1,h7,h8,hn⟩;obtain⟨x,hx⟩:=aP hj;have hlt:(j:Int)<(l.length:Int):=oM;rcases j with _|j
  ·have h8:σ 8=I 0:=h8;have hlt:(0:Int)<(l.length:Int):=oM;simp(disch:=omega) only[go_sem,h0,h1,h7,h8,hlt];exact⟨congrArg I (wr 1 oM oM),nQ l⟩
  ·obtain⟨y,hy⟩:=aP (show j<l.length by omega);have hw:IntKind.i64.wrap (((j+1:Nat):Int) - 1)=(j:Int):=by rw[wr _ oM oM];omega
   have hp:(0:Int)<((j+1:Nat):Int):=oM;repeat' (first|with_reducible refine ar (fun _=>?_) (fun _=>?_)|with_reducible refine an (fun _=>?_) (fun _=>?_)|with_reducible refine br (qz y) sG ?_|with_reducible refine bw (qz y) sG ?_|with_reducible refine br (qz x) sG ?_|with_reducible refine bw (qz x) sG ?_|simp(disch:=omega) only[go_sem, *,h0,h1,h7,h8,hlt,hx,hy,hw,hp,aJ.d])
   all_goals first|exact ab (congrArg D.bool (wv hy hx (by assumption)).symm)|(rw[aK oM];exact⟨rfl,rk hy hx hn oM⟩)
 ·rintro σ bx ⟨h0,h1,h7,h8,hn⟩;have hlt:¬(l.length:Int)<(l.length:Int):=oM;simp(disch:=omega) only[go_sem,h7,h8,hlt];rw[List.take_length]at hn;exact ab (congrArg D.bool hn.symm)
theorem Dv(l:List bo)(hl:l.length<=140737488355328):aq Tryz.prog 189 [.sl 7 (l.map bo.d),.fn (.func 190) []] (.bool (gv bo.no l)):=by
 refine av mixed (fn:=Tryz.f189) (tab:=[(4,[(8,3)])]) ?_ rfl aj rfl;refine aw _ [.tmp 4] _ rfl rfl rfl aj ?_;simp(disch:=omega) only[go_sem];refine aX l.length (fun j σ bx=>σ 0= .sl 7 (l.map bo.d)/\σ 1= .fn (.func 190) []/\σ 7=I l.length/\σ 8=I j/\gv bo.no (l.take j)=true) ?_ ?_ ?_
 ·simp[go_sem,aR,ao,gv]
 ·rintro j σ bx hj ⟨h0,h1,h7,h8,hn⟩;obtain⟨x,hx⟩:=aP hj;have hlt:(j:Int)<(l.length:Int):=oM;rcases j with _|j
  ·have h8:σ 8=I 0:=h8;have hlt:(0:Int)<(l.length:Int):=oM;simp(disch:=omega) only[go_sem,h0,h1,h7,h8,hlt];exact⟨congrArg I (wr 1 oM oM),nQ l⟩
  ·obtain⟨y,hy⟩:=aP (show j<l.length by omega);have hw:IntKind.i64.wrap (((j+1:Nat):Int) - 1)=(j:Int):=by rw[wr _ oM oM];omega
   have hp:(0:Int)<((j+1:Nat):Int):=oM;repeat' (first|with_reducible refine ar (fun _=>?_) (fun _=>?_)|with_reducible refine an (fun _=>?_) (fun _=>?_)|with_reducible refine br (vF y) sG ?_|with_reducible refine bw (vF y) sG ?_|with_reducible refine br (vF x) sG ?_|with_reducible refine bw (vF x) sG ?_|simp(disch:=omega) only[go_sem, *,h0,h1,h7,h8,hlt,hx,hy,hw,hp,bo.d])
   all_goals first|exact ab (congrArg D.bool (wv hy hx (by assumption)).symm)|(rw[aK oM];exact⟨rfl,rk hy hx hn oM⟩)
 ·rintro σ bx ⟨h0,h1,h7,h8,hn⟩;have hlt:¬(l.length:Int)<(l.length:Int):=oM;simp(disch:=omega) only[go_sem,h7,h8,hlt];rw[List.take_length]at hn;exact ab (congrArg D.bool hn.symm)
def uM(fm:Int->Option D):Prop:=∀n v,fm n=some v->∃a b c d:Int,v= .agg [I a,I b,I c,I d]
theorem S4(l:List aJ)(hl:l.length<=32)(bx0:ae):aU Tryz.prog 180 200 [.sl 5 (l.map aJ.d)] bx0 (fun d bx'=>∃e c es fm,d= .omap 206 e/\bx' 206=⟨e,3,0,266,I c::es⟩/\jT fm es/\(∀n,(fm n).isSome=(l.map aJ.lang).contains n)/\uM fm/\∀s,s<200->bx' s=bx0 s) (fun _ _=>False):=by
 refine aG (fn:=Tryz.f180) (tab:=[]) (base:=200) mixed ?_ rfl aj rfl;refine aH _ [.tmp 2] 20 rfl rfl rfl aj ?_;simp(disch:=omega) only[go_sem];refine aX l.length (fun j σ bx=>σ 3= .omap 206 ((bx0 206).ep+1)/\σ 7= .sl 5 (l.map aJ.d)/\σ 8=I l.length/\σ 9=I j/\(∃c es fm,bx 206=⟨(bx0 206).ep+1,3,0,266,I c::es⟩/\jT fm es/\(∀n,(fm n).isSome=((l.take j).map aJ.lang).contains n)/\uM fm)/\∀s,s<200->bx s=bx0 s) ?_ ?_ ?_
 ·simp[go_sem,aR,ao];exact⟨⟨0,[],⟨rfl,rfl⟩,_,jT.nil,(fun n=>rfl),fun n v h=>by cases h⟩,fun s hs h=>absurd h oM⟩
 ·rintro j σ bx hj ⟨h3,h7,h8,h9,⟨c,es,fm,hb,hm,hf,hv⟩,hs⟩;obtain⟨x,hx⟩:=aP hj;have hlt:(j:Int)<(l.length:Int):=oM;obtain⟨es',c',hu,hm'⟩:=hm.ao x.lang (.agg [I x.m0,I x.m1,I x.m2,I x.m3]) c;simp(disch:=omega) only[go_sem,h3,h7,h8,h9,hlt,hx,hb,hu,aJ.d,dW];rw[aK oM];refine⟨rfl,⟨_,_,_,rfl,hm',(fun n=>?_),fun n v h=>?_⟩,fun s hs'=>?_⟩
  ·rw[List.take_add_one,hx];simp only[Option.toList_some,List.map_append,List.map_cons,List.map_nil,List.contains_append];by_cases hn:n=x.lang
   ·simp[hn]
   ·rw[if_neg hn,hf n];simp[hn]
  ·by_cases hn:n=x.lang
   ·simp only[if_pos hn]at h;injection h with h;exact⟨_,_,_,_,h.symm⟩
   ·simp only[if_neg hn]at h;exact hv n v h
  ·rw[if_neg oM,if_neg oM,if_neg oM];exact hs s hs'
 ·rintro σ bx ⟨h3,h7,h8,h9,⟨c,es,fm,hb,hm,hf,hv⟩,hs⟩;have hlt:¬(l.length:Int)<(l.length:Int):=oM;simp(disch:=omega) only[go_sem,h3,h8,h9,hlt];exact⟨_,_,_,_,rfl,hb,hm,(by rw[List.take_length]at hf;exact hf),hv,hs⟩
theorem xO{r:Option (Nat×D)}{fm:Int->Option D}{n:Int}(h:r.map (·.2)=fm n)(hv:uM fm):∃a b c d,mW (some (.agg [I 0,I 0,I 0,I 0])) true (some r)=some (.tup [.agg [I a,I b,I c,I d],.bool (fm n).isSome]):=by
 cases r with
 |none=>exact⟨0,0,0,0,by rw[<-h];rfl⟩
 |some q=>
  obtain⟨j,v⟩:=q;obtain⟨a,b,c,d,rfl⟩:=hv n v h.symm;exact⟨a,b,c,d,by rw[<-h];rfl⟩
theorem It{bx:ae}{e:Nat}{c:Int}{es:List D}{fm:Int->Option D}{ls:List Int}(hb:bx 206=⟨e,3,0,266,I c::es⟩)(hm:jT fm es)(hf:∀n,(fm n).isSome=ls.contains n)(hv:uM fm)(x:bo):
 aU Tryz.prog 188 300 [.omap 206 e,x.d] bx (fun d bx'=>d= .bool (gU ls x)/\∀s,s<300->bx' s=bx s) (fun _ _=>False):=by
 refine aG (fn:=Tryz.f188) (tab:=[]) (base:=300) mixed ?_ rfl aj rfl;refine aH _ [.tmp 4] 59 rfl rfl rfl aj ?_;obtain⟨r1,g1,g2⟩:=hm.find x.from_;obtain⟨r2,k1,k2⟩:=hm.find x.to_;obtain⟨a1,b1,c1,d1,v1⟩:=xO g2 hv;obtain⟨a2,b2,c2,d2,v2⟩:=xO k2 hv;rw[hf]at v1 v2;repeat' (first|with_reducible refine ar (fun _=>?_) (fun _=>?_)|with_reducible refine an (fun _=>?_) (fun _=>?_)|with_reducible refine br (mr _ _ _) sG ?_|with_reducible refine bw (mr _ _ _) sG ?_|simp(disch:=omega) only[go_sem, *,hb,g1,k1,v1,v2,bo.d])
 all_goals exact⟨congrArg D.bool (by simp_all[gU]),fun s hs=>by repeat rw[if_neg oM]⟩
theorem ED{bx0:ae}{e e5:Nat}{c:Int}{es:List D}{fm:Int->Option D}{ls:List Int}(h5:bx0 5=⟨e5,1,1,266,[.omap 206 e]⟩)(hb:bx0 206=⟨e,3,0,266,I c::es⟩)(hm:jT fm es)(hf:∀n,(fm n).isSome=ls.contains n)(hv:uM fm):
 bC 187 [.loc 5 e5 0 0] 207 250 bx0 bo.d (fun _=>True) (fun x=> !gU ls x):=by
 intro bx x hs _;refine aG (fn:=Tryz.f187) (tab:=[]) (base:=250) mixed ?_ rfl aj rfl;refine aH _ [.tmp 3] 8 rfl rfl rfl aj ?_;have g5:=(hs 5 oM).trans h5;have gb:=(hs 206 oM).trans hb;simp(disch:=omega) only[go_sem,g5,gb,bo.d];refine aB (It (c:=c) (ls:=ls) (by simp[ao,gb]) hm hf hv x) rfl ?_;rintro d bx2 ⟨rfl,hk⟩;simp(disch:=omega) only[go_sem];exact fun s hs=>by rw[hk s oM];simp only[ao];rw[if_neg oM]
def cu(bs:List aJ)(ts:List bo):Int:=if 32<bs.length\/4096<ts.length then 2 else if bs.all dH&&gv aJ.lang bs&&ts.all (gU (bs.map aJ.lang))&&gv bo.no ts then 0 else 400
theorem lJ{α:Type}(p:α->Bool)(l:List α):(l.any fun x=> !p x)= !l.all p:=by simp[List.any_eq_not_all_not]
theorem EK(bs:List aJ)(ts:List bo):aU Tryz.prog 128 0 [.sl 5 (bs.map aJ.d),.sl 7 (ts.map bo.d)] (fun _=> .none) (fun d bx=>d=I (cu bs ts)) (fun _ _=>False):=by
 refine aG (fn:=Tryz.f128) (tab:=[]) (base:=0) mixed ?_ rfl aj rfl;refine aH _ [.tmp 4] 33 rfl rfl rfl aj ?_;simp(disch:=omega) only[go_sem];have big:(32<bs.length\/4096<ts.length)->I 2=I (cu bs ts):=fun h=>congrArg I (by unfold cu;rw[if_pos h]);refine ar (fun h1=>?_) (fun h1=>?_)
 ·simp(disch:=omega) only[go_sem,h1,decide_true];exact big (.inl oM)
 simp(disch:=omega) only[go_sem,h1,decide_false];refine ar (fun h2=>?_) (fun h2=>?_)
 ·simp(disch:=omega) only[go_sem,h2,decide_true];exact big (.inr oM)
 simp(disch:=omega) only[go_sem,h2,decide_false];have e:cu bs ts=if bs.all dH&&gv aJ.lang bs&&ts.all (gU (bs.map aJ.lang))&&gv bo.no ts then 0 else 400:=by unfold cu;rw[if_neg oM]
 have no:(bs.all dH&&gv aJ.lang bs&&ts.all (gU (bs.map aJ.lang))&&gv bo.no ts)=false->I 400=I (cu bs ts):=fun h=>congrArg I (by rw[e,h];rfl);refine aB (S4 bs oM _) rfl ?_;rintro d bx1 ⟨e1,c,es,fm,rfl,b1,hm,hf,hv,hs1⟩;simp(disch:=omega) only[go_sem,b1];refine au (JG (f:=182) (caps:=[]) (p:=fun b=> !dH b) bs oM (fun b _=>EC b) (fun b=>rfl) sG) sG ?_;simp(disch:=omega) only[go_sem,lJ];refine an (fun h3=>?_) (fun h3=>?_)
 rotate_left
 ·simp(disch:=omega) only[go_sem,h3];exact no (by simp only[h3,Bool.false_and])
 simp(disch:=omega) only[go_sem,h3];refine au (BC bs oM) sG ?_;simp(disch:=omega) only[go_sem,h3];refine an (fun h4=>?_) (fun h4=>?_)
 rotate_left
 ·simp(disch:=omega) only[go_sem,h3,h4];exact no (by simp only[h4,Bool.and_false,Bool.false_and])
 simp(disch:=omega) only[go_sem,h3,h4];refine aB (JI (n0:=207) (k:=250) (ED (e:=e1) (e5:=(bx1 5).ep+1) (c:=c) (bx0:=ao (ao bx1 5 ⟨(bx1 5).ep+1,1,1,266,[.raw (.map none)]⟩) 5 ⟨(bx1 5).ep+1,1,1,266,[.omap 206 e1]⟩) (by simp[ao]) (by simp[ao,b1]) hm hf hv) oM ts oM (fun _ _=>trivial) _ (fun _ _=>rfl)) rfl ?_;rintro d bx2 ⟨rfl,hk⟩;simp(disch:=omega) only[go_sem,lJ,h3,h4];refine an (fun h5=>?_) (fun h5=>?_)
 rotate_left
 ·simp(disch:=omega) only[go_sem,h3,h4,h5];exact no (by simp only[h5,Bool.and_false,Bool.false_and])
 simp(disch:=omega) only[go_sem,h3,h4,h5];refine au (Dv ts oM) sG ?_;simp(disch:=omega) only[go_sem,h3,h4,h5];refine an (fun h6=>?_) (fun h6=>?_)
 rotate_left
 ·simp(disch:=omega) only[go_sem,h3,h4,h5,h6];exact no (by simp only[h6,Bool.and_false])
 simp(disch:=omega) only[go_sem,h3,h4,h5,h6];exact congrArg I (by rw[e,h3,h4,h5,h6];rfl)
theorem EJ(bs:List aJ)(ts:List bo):aq Tryz.prog 128 [.sl 5 (bs.map aJ.d),.sl 7 (ts.map bo.d)] (I (cu bs ts)):=
 (EK bs ts).to (fun _ _ h=>h) (fun d' bx' h=>⟨I (cu bs ts),by rw[h];rfl,.refl _⟩)
theorem dU(n m:Int):aq Tryz.prog 252 [I n,I m] (.bool (aL n 0 m)):=by
 refine av mixed (fn:=Tryz.f252) (tab:=[]) ?_ rfl aj rfl;refine aw _ [.tmp 4] _ rfl rfl rfl aj ?_;repeat' (first|with_reducible refine ar (fun _=>?_) (fun _=>?_)|with_reducible refine an (fun _=>?_) (fun _=>?_)|simp(disch:=omega) only[go_sem, *])
 all_goals first|exact .refl _|(refine ab (congrArg D.bool ?_);first|(simp(disch:=omega) [*,aL];done)|(simp[aL]at *;omega)|(rw[Bool.eq_iff_iff];simp[aL]at *;omega))
def CE(b:aJ):List Bool:=[j7 b.m0,j7 b.m1,j7 b.m2,j7 b.m3]
theorem nt(b:aJ):aq Tryz.prog 202 [b.d] (.bool (dH b)):=by
 refine av mixed (fn:=Tryz.f202) (tab:=[]) ?_ rfl aj rfl;refine aw _ [.tmp 2] _ rfl rfl rfl aj ?_;simp(disch:=omega) only[go_sem,aJ.d];refine aX 4 (fun k σ bx=>σ 1= .loc 1 1 0 0/\bx 1=⟨1,1,5,119,[b.d]⟩/\σ 3=I k/\((CE b).take k).all id=true) ?_ ?_ ?_
 ·simp[go_sem,aR,ao,Bx.none]
 ·rintro k σ bx hk ⟨h1,b1,h3,hn⟩;obtain rfl|rfl|rfl|rfl:k=0\/k=1\/k=2\/k=3:=oM
  ·have h3:σ 3=I 0:=h3;repeat' (first|with_reducible refine ar (fun _=>?_) (fun _=>?_)|with_reducible refine an (fun _=>?_) (fun _=>?_)|with_reducible refine br (dU _ _) sG ?_|with_reducible refine bw (dU _ _) sG ?_|simp(disch:=omega) only[go_sem, *,h1,b1,h3,aJ.d])
   ·simp_all[CE,j7,wr]
   ·exact ab (congrArg D.bool (by simp_all[dH,j7]))
  ·have h3:σ 3=I 1:=h3;repeat' (first|with_reducible refine ar (fun _=>?_) (fun _=>?_)|with_reducible refine an (fun _=>?_) (fun _=>?_)|with_reducible refine br (dU _ _) sG ?_|with_reducible refine bw (dU _ _) sG ?_|simp(disch:=omega) only[go_sem, *,h1,b1,h3,aJ.d])
   ·simp_all[CE,j7,wr]
   ·exact ab (congrArg D.bool (by simp_all[dH,j7]))
  ·have h3:σ 3=I 2:=h3;repeat' (first|with_reducible refine ar (fun _=>?_) (fun _=>?_)|with_reducible refine an (fun _=>?_) (fun _=>?_)|with_reducible refine br (dU _ _) sG ?_|with_reducible refine bw (dU _ _) sG ?_|simp(disch:=omega) only[go_sem, *,h1,b1,h3,aJ.d])
   ·simp_all[CE,j7,wr]
   ·exact ab (congrArg D.bool (by simp_all[dH,j7]))
  ·have h3:σ 3=I 3:=h3;repeat' (first|with_reducible refine ar (fun _=>?_) (fun _=>?_)|with_reducible refine an (fun _=>?_) (fun _=>?_)|with_reducible refine br (dU _ _) sG ?_|with_reducible refine bw (dU _ _) sG ?_|simp(disch:=omega) only[go_sem, *,h1,b1,h3,aJ.d])
   ·simp_all[CE,j7,wr]
   ·exact ab (congrArg D.bool (by simp_all[dH,j7]))
 ·rintro σ bx ⟨h1,b1,h3,hn⟩;have h3:σ 3=I 4:=h3;repeat' (first|with_reducible refine ar (fun _=>?_) (fun _=>?_)|with_reducible refine an (fun _=>?_) (fun _=>?_)|with_reducible refine br (dU _ _) sG ?_|with_reducible refine bw (dU _ _) sG ?_|simp(disch:=omega) only[go_sem, *,h1,b1,h3,aJ.d])
  all_goals exact ab (congrArg D.bool (by simp_all[dH,CE]))
theorem vQ(l:List aJ)(hl:l.length<=140737488355328)(n:Int):aq Tryz.prog 253 [.sl 5 (l.map aJ.d),I n] (I (dw (fun b:aJ=>decide (b.lang=n)) l)):=by
 refine av mixed (fn:=Tryz.f253) (tab:=[]) ?_ rfl aj rfl;refine aw _ [.tmp 4] _ rfl rfl rfl aj ?_;simp(disch:=omega) only[go_sem];refine aX l.length (fun j σ bx=>σ 0= .sl 5 (l.map aJ.d)/\σ 1=I n/\σ 5=I j/\(l.take j).any (fun b:aJ=>decide (b.lang=n))=false) ?_ ?_ ?_
 ·simp[go_sem,aR]
 ·rintro j σ bx hj ⟨h0,h1,h5,hn⟩;obtain⟨x,hx⟩:=aP hj;have hlt:(j:Int)<(l.length:Int):=oM;repeat' (first|with_reducible refine ar (fun _=>?_) (fun _=>?_)|with_reducible refine an (fun _=>?_) (fun _=>?_)|simp(disch:=omega) only[go_sem, *,h0,h1,h5,hlt,hx,aJ.d])
  ·exact ab (congrArg I (iP hn hx (by simpa using(by assumption))).symm)
  ·rw[aK oM];exact⟨rfl,gX hn hx (by simpa using(by assumption))⟩
 ·rintro σ bx ⟨h0,h1,h5,hn⟩;have hlt:¬(l.length:Int)<(l.length:Int):=oM;simp(disch:=omega) only[go_sem,h0,h1,h5,hlt];rw[List.take_length]at hn;exact ab (congrArg I (fW hn).symm)
theorem JQ(l:List aJ)(n:Int):decide (0<=dw (fun b:aJ=>decide (b.lang=n)) l)=(l.map aJ.lang).contains n:=by
 rw[show(l.map aJ.lang).contains n=l.any (fun b:aJ=>decide (b.lang=n)) by
  induction l with
  |nil=>rfl
  |cons b l ih=>rw[List.map_cons,List.contains_cons,List.any_cons,ih];congr 1;exact decide_eq_decide.2 ⟨Eq.symm,Eq.symm⟩]
 unfold dw;cases h:l.findIdx? (fun b:aJ=>decide (b.lang=n))with
 |none=>rw[List.findIdx?_eq_none_iff]at h;simp;simpa using h
 |some i=>
  rw[List.findIdx?_eq_some_iff_getElem]at h;obtain⟨h1,h2,_⟩:=h;simp only[Int.natCast_nonneg,decide_true];exact(List.any_eq_true.2 ⟨l[i],List.getElem_mem _,h2⟩).symm
theorem JR(l:List aJ)(n:Int):0<=dw (fun b:aJ=>decide (b.lang=n)) l<->(l.map aJ.lang).contains n=true:=by rw[<-JQ,decide_eq_true_eq]
theorem nu(l:List aJ)(hl:l.length<=140737488355328)(x:bo):aq Tryz.prog 203 [.sl 5 (l.map aJ.d),x.d] (.bool (gU (l.map aJ.lang) x)):=by
 refine av mixed (fn:=Tryz.f203) (tab:=[]) ?_ rfl aj rfl;refine aw _ [.tmp 4] _ rfl rfl rfl aj ?_;repeat' (first|with_reducible refine ar (fun _=>?_) (fun _=>?_)|with_reducible refine an (fun _=>?_) (fun _=>?_)|with_reducible refine br (dU _ _) sG ?_|with_reducible refine bw (dU _ _) sG ?_|with_reducible refine br (vQ _ hl _) sG ?_|with_reducible refine bw (vQ _ hl _) sG ?_|simp(disch:=omega) only[go_sem, *,bo.d])
 all_goals (refine ab (congrArg D.bool ?_);(try simp only[JR,Bool.not_eq_true]at *);unfold gU;simp only[*,Bool.true_and,Bool.and_true,Bool.false_and,Bool.and_false,decide_true,decide_false,Bool.not_true,Bool.not_false];try (unfold aL;simp[*]))
theorem jg{α:Type}{p:α->Bool}{l:List α}{j:Nat}{x:α}(hx:l[j]? =some x)(h:(l.take j).all p=true)(h1:p x=true):(l.take (j+1)).all p=true:=by rw[List.take_add_one,hx];simp only[Option.toList_some,List.all_append,h,List.all_cons,h1,List.all_nil,Bool.and_self]
theorem mi{α:Type}{p:α->Bool}{l:List α}{j:Nat}{x:α}(hx:l[j]? =some x)(h1:p x=false):l.all p=false:=
 List.all_eq_false.2 ⟨x,List.mem_of_getElem? hx,by simp[h1]⟩
theorem D3(bs:List aJ)(ts:List bo):aq Tryz.prog 143 [.sl 5 (bs.map aJ.d),.sl 7 (ts.map bo.d)] (I (cu bs ts)):=by
 refine av mixed (fn:=Tryz.f143) (tab:=[]) ?_ rfl aj rfl;refine aw _ [.tmp 4] _ rfl rfl rfl aj ?_;simp(disch:=omega) only[go_sem];have big:(32<bs.length\/4096<ts.length)->bk (I 2) (I (cu bs ts)):=fun h=>ab (congrArg I (by unfold cu;rw[if_pos h]));refine ar (fun h1=>?_) (fun h1=>?_)
 ·simp(disch:=omega) only[go_sem,h1,decide_true];exact big (.inl oM)
 simp(disch:=omega) only[go_sem,h1,decide_false];refine ar (fun h2=>?_) (fun h2=>?_)
 ·simp(disch:=omega) only[go_sem,h2,decide_true];exact big (.inr oM)
 simp(disch:=omega) only[go_sem,h2,decide_false];have e:cu bs ts=if bs.all dH&&gv aJ.lang bs&&ts.all (gU (bs.map aJ.lang))&&gv bo.no ts then 0 else 400:=by unfold cu;rw[if_neg oM]
 have no:(bs.all dH&&gv aJ.lang bs&&ts.all (gU (bs.map aJ.lang))&&gv bo.no ts)=false->bk (I 400) (I (cu bs ts)):=fun h=>ab (congrArg I (by rw[e,h];rfl));have yes:(bs.all dH&&gv aJ.lang bs&&ts.all (gU (bs.map aJ.lang))&&gv bo.no ts)=true->bk (I 0) (I (cu bs ts)):=fun h=>ab (congrArg I (by rw[e,h];rfl));clear e big;generalize cu bs ts=r at *;refine aX bs.length (fun j σ bx=>σ 0= .sl 5 (bs.map aJ.d)/\σ 1= .sl 7 (ts.map bo.d)/\σ 5=I j/\(bs.take j).all dH=true/\gv aJ.lang (bs.take j)=true) ?_ ?_ ?_
 ·simp[go_sem,aR,ao,gv]
 ·rintro j σ bx hj ⟨h0,h1',h5,hn,hu⟩;obtain⟨x,hx⟩:=aP hj;have hlt:(j:Int)<(bs.length:Int):=oM;rcases j with _|j
  ·have h5:σ 5=I 0:=h5;have hlt:(0:Int)<(bs.length:Int):=oM;have fin:dH x=true->(bs.take 1).all dH=true:=fun h=>jg hx hn h;repeat' (first|with_reducible refine ar (fun _=>?_) (fun _=>?_)|with_reducible refine an (fun _=>?_) (fun _=>?_)|with_reducible refine br (nt x) sG ?_|with_reducible refine bw (nt x) sG ?_|simp(disch:=omega) only[go_sem, *,h0,h1',h5,hlt,hx])
   all_goals first|exact no (by rw[mi hx (by assumption)];rfl)|exact⟨congrArg I (wr 1 oM oM),by first|exact⟨fin (by assumption),nQ bs⟩|exact fin (by assumption)|exact nQ bs⟩
  ·obtain⟨y,hy⟩:=aP (show j<bs.length by omega);have hw:IntKind.i64.wrap (((j+1:Nat):Int) - 1)=(j:Int):=by rw[wr _ oM oM];omega
   have hp:(0:Int)<((j+1:Nat):Int):=oM;repeat' (first|with_reducible refine ar (fun _=>?_) (fun _=>?_)|with_reducible refine an (fun _=>?_) (fun _=>?_)|with_reducible refine br (nt x) sG ?_|with_reducible refine bw (nt x) sG ?_|simp(disch:=omega) only[go_sem, *,h0,h1',h5,hlt,hx,hy,hw,hp])
   all_goals first|exact no (by rw[mi hx (by assumption)];rfl)|exact no (by rw[wv hy hx (by assumption),Bool.and_false];rfl)|(rw[aK oM];exact⟨rfl,jg hx hn (by assumption),rk hy hx hu oM⟩)
 rintro σ bx ⟨h0,h1',h5,hn,hu⟩;have hlt:¬(bs.length:Int)<(bs.length:Int):=oM;rw[List.take_length]at hn hu;simp(disch:=omega) only[go_sem,h0,h1',h5,hlt];refine aX ts.length (fun j σ bx=>σ 0= .sl 5 (bs.map aJ.d)/\σ 1= .sl 7 (ts.map bo.d)/\σ 6=I j/\(ts.take j).all (gU (bs.map aJ.lang))=true/\gv bo.no (ts.take j)=true) ?_ ?_ ?_
 ·simp[go_sem,aR,ao,gv,h0,h1']
 ·rintro j σ bx hj ⟨h0,h1',h6,hn2,hu2⟩;obtain⟨x,hx⟩:=aP hj;have hlt:(j:Int)<(ts.length:Int):=oM;rcases j with _|j
  ·have h6:σ 6=I 0:=h6;have hlt:(0:Int)<(ts.length:Int):=oM;have fin:gU (bs.map aJ.lang) x=true->(ts.take 1).all (gU (bs.map aJ.lang))=true:=fun h=>jg hx hn2 h;repeat' (first|with_reducible refine ar (fun _=>?_) (fun _=>?_)|with_reducible refine an (fun _=>?_) (fun _=>?_)|with_reducible refine br (nu bs oM x) sG ?_|with_reducible refine bw (nu bs oM x) sG ?_|simp(disch:=omega) only[go_sem, *,h0,h1',h6,hlt,hx])
   all_goals first|exact no (by rw[mi hx (by assumption),Bool.and_false];rfl)|exact⟨congrArg I (wr 1 oM oM),by first|exact⟨fin (by assumption),nQ ts⟩|exact fin (by assumption)|exact nQ ts⟩
  ·obtain⟨y,hy⟩:=aP (show j<ts.length by omega);have hw:IntKind.i64.wrap (((j+1:Nat):Int) - 1)=(j:Int):=by rw[wr _ oM oM];omega
   have hp:(0:Int)<((j+1:Nat):Int):=oM;repeat' (first|with_reducible refine ar (fun _=>?_) (fun _=>?_)|with_reducible refine an (fun _=>?_) (fun _=>?_)|with_reducible refine br (nu bs oM x) sG ?_|with_reducible refine bw (nu bs oM x) sG ?_|simp(disch:=omega) only[go_sem, *,h0,h1',h6,hlt,hx,hy,hw,hp])
   all_goals first|exact no (by rw[mi hx (by assumption),Bool.and_false];rfl)|exact no (by rw[wv hy hx (by assumption),Bool.and_false])|(rw[aK oM];exact⟨rfl,jg hx hn2 (by assumption),rk hy hx hu2 oM⟩)
 rintro σ bx ⟨h0,h1',h6,hn2,hu2⟩;have hlt:¬(ts.length:Int)<(ts.length:Int):=oM;rw[List.take_length]at hn2 hu2;simp(disch:=omega) only[go_sem,h0,h1',h6,hlt];exact yes (by rw[hn,hu,hn2,hu2];rfl)
abbrev VS:Type:=Bool×Bool×Int
def gn(who:Int)(s:VS)(v:aT):VS:=if v.who=who then(if v.kind=1 then(true,true,v.lang)else if v.kind=2 then(s.1,s.2.1,v.lang)else if v.kind=3 then(s.1,false,s.2.2)else if v.kind=4 then(s.1,true,s.2.2)else s)else s
def fE(l:List aT)(who:Int):VS:=l.foldl (gn who) (false,false,0)
def eJ(v:aT):Bool:=aL v.at_ 0 1099511627775&&aL v.who 0 99999&&aL v.kind 1 4&&aL v.lang 0 31&&(decide (v.kind=1)||decide (v.kind=2)||decide (v.lang=0))
def n8(l:List aT):Int:=jM aT.at_ 0 l
def gx(s:VS)(v:aT):Bool:=if v.kind=1 then !s.1 else if v.kind=2 then s.1 else if v.kind=3 then s.2.1 else s.1&& !s.2.1
def hZ(l:List aT)(v:aT):Bool:=eJ v&&decide (n8 l<=v.at_)&&gx (fE l v.who) v
def s_(l:List aT):Prop:=∀j v,l[j]? =some v->hZ (l.take j) v=true
noncomputable instance(l:List aT):Decidable (s_ l):=Classical.propDecidable _
noncomputable def cF(l:List aT):Int:=if 4096<l.length then 2 else if s_ l then 0 else 520
theorem tU{l:List aT}{j:Nat}{v:aT}(h:l[j]? =some v)(n:Int):fE (l.take (j+1)) n=gn n (fE (l.take j) n) v:=by unfold fE;rw[List.take_add_one,h];simp[List.foldl_append]
theorem yp(n m:Int):aq Tryz.prog 239 [I n,I m] (.bool (aL n 0 (m - 1))):=by
 refine av mixed (fn:=Tryz.f239) (tab:=[]) ?_ rfl aj rfl;refine aw _ [.tmp 4] _ rfl rfl rfl aj ?_;repeat' (first|with_reducible refine ar (fun _=>?_) (fun _=>?_)|with_reducible refine an (fun _=>?_) (fun _=>?_)|simp(disch:=omega) only[go_sem, *])
 all_goals first|exact .refl _|(refine ab (congrArg D.bool ?_);first|(simp(disch:=omega) [*,aL];done)|(simp[aL]at *;omega)|(rw[Bool.eq_iff_iff];simp[aL]at *;omega))
theorem tO(n m:Int):aq Tryz.prog 307 [I n,I m] (.bool (aL n 0 (m - 1))):=by
 refine av mixed (fn:=Tryz.f307) (tab:=[]) ?_ rfl aj rfl;refine aw _ [.tmp 4] _ rfl rfl rfl aj ?_;repeat' (first|with_reducible refine ar (fun _=>?_) (fun _=>?_)|with_reducible refine an (fun _=>?_) (fun _=>?_)|simp(disch:=omega) only[go_sem, *])
 all_goals first|exact .refl _|(refine ab (congrArg D.bool ?_);first|(simp(disch:=omega) [*,aL];done)|(simp[aL]at *;omega)|(rw[Bool.eq_iff_iff];simp[aL]at *;omega))
theorem Hj(v:aT):aq Tryz.prog 261 [v.d] (.bool (eJ v)):=by
 refine av mixed (fn:=Tryz.f261) (tab:=[]) ?_ rfl aj rfl;refine aw _ [.tmp 2] _ rfl rfl rfl aj ?_;repeat' (first|with_reducible refine ar (fun _=>?_) (fun _=>?_)|with_reducible refine an (fun _=>?_) (fun _=>?_)|with_reducible refine br (tO _ _) sG ?_|with_reducible refine bw (tO _ _) sG ?_|simp(disch:=omega) only[go_sem, *,aT.d])
 all_goals first|exact .refl _|(refine ab (congrArg D.bool ?_);first|(simp(disch:=omega) [*,eJ,aL];done)|(simp[eJ,aL]at *;omega)|(rw[Bool.eq_iff_iff];simp[eJ,aL]at *;omega))
theorem tq(l:List aT)(hl:l.length<=4096)(n:Int):aq Tryz.prog 262 [.sl 4 (l.map aT.d),I n] (.tup [.bool (fE l n).1,.bool (fE l n).2.1,I (fE l n).2.2]):=by
 refine av mixed (fn:=Tryz.f262) (tab:=[]) ?_ rfl aj rfl;refine aw _ [.tmp 4,.tmp 5,.tmp 6] _ rfl rfl rfl aj ?_;simp(disch:=omega) only[go_sem];refine aX l.length (fun j σ bx=>σ 0= .sl 4 (l.map aT.d)/\σ 1=I n/\σ 10=I j/\σ 7= .bool (fE (l.take j) n).1/\σ 8= .bool (fE (l.take j) n).2.1/\σ 9=I (fE (l.take j) n).2.2) ?_ ?_ ?_
 ·simp[go_sem,aR,fE]
 ·rintro j σ bx hj ⟨h0,h1,h10,h7,h8,h9⟩;obtain⟨x,hx⟩:=aP hj;have hlt:(j:Int)<(l.length:Int):=oM;have hw:IntKind.i64.wrap ((j:Int)+1)=((j+1:Nat):Int):=aK oM;have hs:=tU hx n;repeat' (first|with_reducible refine ar (fun _=>?_) (fun _=>?_)|with_reducible refine an (fun _=>?_) (fun _=>?_)|simp(disch:=omega) only[go_sem, *,h0,h1,h10,h7,h8,h9,hlt,hx,hw,aT.d])
  all_goals simp_all[gn]
 ·rintro σ bx ⟨h0,h1,h10,h7,h8,h9⟩;have hlt:¬(l.length:Int)<(l.length:Int):=oM;rw[List.take_length]at h7 h8 h9;simp(disch:=omega) only[go_sem,h0,h10,h7,h8,h9,hlt];exact .refl _
theorem DC{l:List aT}{x:aT}(h:l[l.length - 1]? =some x):n8 l=x.at_:=by
 have:l=l.take (l.length - 1)++[x]:=by
  have hl:=(List.getElem?_eq_some_iff.1 h).1
  conv=>lhs;rw[<-List.take_append_drop (l.length - 1) l]
  rw[List.drop_eq_getElem_cons hl,List.drop_eq_nil_of_le oM];rw[(List.getElem?_eq_some_iff.1 h).2]
 unfold n8;rw[this];exact r_
theorem Fl{v:aT}(h:eJ v=true):0<=v.at_:=by simp[eJ,aL]at h;omega
theorem LF(l:List aT)(hl:l.length<=4096)(v:aT):aq Tryz.prog 206 [.sl 4 (l.map aT.d),v.d] (.bool (hZ l v)):=by
 refine av mixed (fn:=Tryz.f206) (tab:=[]) ?_ rfl aj rfl;refine aw _ [.tmp 4] _ rfl rfl rfl aj ?_;simp(disch:=omega) only[go_sem,aT.d];refine au (Hj v) sG ?_;simp(disch:=omega) only[go_sem,aT.d];refine an (fun c1=>?_) (fun c1=>?_)
 rotate_left
 ·simp(disch:=omega) only[go_sem,c1];exact ab (congrArg D.bool (by simp[hZ,c1]))
 simp(disch:=omega) only[go_sem,c1];rcases Nat.eq_zero_or_pos l.length with h0|h0
 ·have hl0:l=[]:=List.eq_nil_of_length_eq_zero h0;have hla:decide (n8 l<=v.at_)=true:=by subst hl0;exact decide_eq_true (Fl c1)
  have hn:¬(0:Int)<(l.length:Int):=oM;clear hl0;repeat' (first|with_reducible refine ar (fun _=>?_) (fun _=>?_)|with_reducible refine an (fun _=>?_) (fun _=>?_)|with_reducible refine br (tq l hl _) sG ?_|with_reducible refine bw (tq l hl _) sG ?_|simp(disch:=omega) only[go_sem, *,aT.d])
  all_goals exact ab (congrArg D.bool (by simp_all[hZ,gx]))
 ·obtain⟨x,hx⟩:=aP (show l.length - 1<l.length by omega);have hla:=DC hx;have hn:(0:Int)<(l.length:Int):=oM;have hw:IntKind.i64.wrap ((l.length:Int) - 1)=((l.length - 1:Nat):Int):=by rw[wr _ oM oM];omega
  refine rN hn ?_;repeat' (first|with_reducible refine ar (fun _=>?_) (fun _=>?_)|with_reducible refine an (fun _=>?_) (fun _=>?_)|with_reducible refine br (tq l hl _) sG ?_|with_reducible refine bw (tq l hl _) sG ?_|simp(disch:=omega) only[go_sem, *,aT.d])
  all_goals exact ab (congrArg D.bool (by simp_all[hZ,gx]<;>(intro h;omega)))
theorem D5(l:List aT):aq Tryz.prog 146 [.sl 4 (l.map aT.d)] (I (cF l)):=by
 refine av mixed (fn:=Tryz.f146) (tab:=[]) ?_ rfl aj rfl;refine aw _ [.tmp 2] _ rfl rfl rfl aj ?_;simp(disch:=omega) only[go_sem];refine ar (fun h1=>?_) (fun h1=>?_)
 ·simp(disch:=omega) only[go_sem,h1,decide_true];exact ab (congrArg I (by unfold cF;rw[if_pos oM]))
 simp(disch:=omega) only[go_sem,h1,decide_false];have e:cF l=if s_ l then 0 else 520:=by unfold cF;rw[if_neg oM]
 have no:∀j v,l[j]? =some v->hZ (l.take j) v=false->bk (I 520) (I (cF l)):=fun j v h h'=>ab (congrArg I (by rw[e,if_neg fun g=>by rw[g j v h]at h';cases h']));have yes:(∀j v,j<l.length->l[j]? =some v->hZ (l.take j) v=true)->bk (I 0) (I (cF l)):=fun h=>ab (congrArg I (by rw[e,if_pos (show s_ l from fun j v h'=>h j v (List.getElem?_eq_some_iff.1 h').1 h')]));clear e;generalize cF l=r at *;refine aX l.length (fun j σ bx=>σ 0= .sl 4 (l.map aT.d)/\σ 3=I j/\∀i v,i<j->l[i]? =some v->hZ (l.take i) v=true) ?_ ?_ ?_
 ·simp[go_sem,aR]
 ·rintro j σ bx hj ⟨h0,h3,hn⟩;obtain⟨x,hx⟩:=aP hj;have hlt:(j:Int)<(l.length:Int):=oM;have hw:IntKind.i64.wrap ((j:Int)+1)=((j+1:Nat):Int):=aK oM;have hf:aq Tryz.prog 206 [.sl 4 (List.take (j - 0) (l.map aT.d)),x.d] (.bool (hZ (l.take j) x)):=by rw[Nat.sub_zero,<-List.map_take];exact LF (l.take j) (by rw[List.length_take];omega) x
  simp(disch:=omega) only[go_sem,h0,h3,hlt,hx];refine au hf sG ?_;simp(disch:=omega) only[go_sem,h0,h3,hlt,hx];refine an (fun c=>?_) (fun c=>?_)
  ·simp(disch:=omega) only[go_sem,h0,h3,hlt,hx,hw];refine fun i v hi hv=>?_;by_cases hij:i=j
   ·subst hij;rw[hx]at hv;injection hv with hv;subst hv;exact c
   ·exact hn i v oM hv
  ·simp(disch:=omega) only[go_sem,h0,h3,hlt,hx];exact no j x hx c
 ·rintro σ bx ⟨h0,h3,hn⟩;have hlt:¬(l.length:Int)<(l.length:Int):=oM;simp(disch:=omega) only[go_sem,h0,h3,hlt];exact yes hn
end Go.V.St
