/- Terms of a glossary. -/
import Derived.Test.YtkgloohlmogakaaGreatDoorB26
import Derived.Test.YtkgloohlmogakaaGreatDoorB17
import Derived.Test.YtkgloohlmogakaaGreatDoorB24
import Derived.Test.YtkgloohlmogakaaGreatDoorB25
import Derived.Test.YtkgloohlmogakaaGreatDoorB23
import Derived.Test.YtkgloohlmogakaaGreatDoorB22
import Derived.Test.YtkgloohlmogakaaGreatDoorB20
import Derived.Test.YtkgloohlmogakaaGreatDoorB19
set_option linter.unusedSimpArgs false
set_option linter.unusedVariables false
set_option maxRecDepth 100000
namespace Go.V.St
open Go.Proofs Go.RowKit Go.V.Lx Go.V.Gr Go.V.Ty
theorem Lg{α:Type}(p:α->Bool)(l:List α):(l.any fun x=> !p x)= !l.all p:=by simp[List.any_eq_not_all_not]
@[simp] def pk(n:Int):Bool:=decide (0<=n)&&decide (n<1099511627776)
@[simp] def DB(n:Int):Bool:=decide (0<=n)&&decide (n<32)
def nM(l:List ah):Bool:=decide ((1:Int)<=l.length)&&decide ((l.length:Int)<=4)&&l.all rn
def ph(x:Term):Bool:=aL x.no 0 1048576&&pk x.at_&&pk x.known&&DB x.lang&&nM x.src&&if x.gone then decide ((x.tgt.length:Int)=0)&&decide (x.cat=[])else nM x.tgt&&fc x.cat
def pj(last:Int)(x:Term):Option Int:=if ph x&&decide (last<x.no)then some x.no else none
def jC(l:List Term):Int:=if 1024<(l.length:Int)then 2 else if(l.foldlM pj (-1)).isSome then 0 else 270
instance(n:Int):Ct Tryz.prog 229 [I n] True (.bool (pk n)):=by
 refine bm (fn:=Tryz.f229) [] [.tmp 2] fun pre=>?_;repeat' first|exact zQ|with_reducible refine zJ (fun _=>?_) fun _=>?_|refine zK ?_|fail
 all_goals first|with_reducible exact .refl _|(refine ab ?_;have hno:=hno.out zz;simp[*];done)|((try refine ab ?_);exact zz)
instance(n:Int):Ct Tryz.prog 230 [I n] True (.bool (DB n)):=by
 refine bm (fn:=Tryz.f230) [] [.tmp 2] fun pre=>?_;repeat' first|exact zQ|with_reducible refine zJ (fun _=>?_) fun _=>?_|refine zK ?_|fail
 all_goals first|with_reducible exact .refl _|(refine ab ?_;have hno:=hno.out zz;simp[*];done)|((try refine ab ?_);exact zz)
instance(n:Int):Ct Tryz.prog 244 [I n] True (.bool (pk n)):=by
 refine bm (fn:=Tryz.f244) [] [.tmp 2] fun pre=>?_;repeat' first|exact zQ|with_reducible refine zJ (fun _=>?_) fun _=>?_|refine zK ?_|fail
 all_goals first|with_reducible exact .refl _|(refine ab ?_;have hno:=hno.out zz;simp[*];done)|((try refine ab ?_);exact zz)
instance(n:Int):Ct Tryz.prog 245 [I n] True (.bool (DB n)):=by
 refine bm (fn:=Tryz.f245) [] [.tmp 2] fun pre=>?_;repeat' first|exact zQ|with_reducible refine zJ (fun _=>?_) fun _=>?_|refine zK ?_|fail
 all_goals first|with_reducible exact .refl _|(refine ab ?_;have hno:=hno.out zz;simp[*];done)|((try refine ab ?_);exact zz)
instance(s:ah):Ct Tryz.prog 275 [.str s] True (.bool (!rn s)):=by
 refine bm (fn:=Tryz.f275) [] [.tmp 2] fun pre=>?_;repeat' first|exact zQ|with_reducible refine zJ (fun _=>?_) fun _=>?_|refine zK ?_|fail
instance(l:List ah):Ct Tryz.prog 231 [.sl 1 (l.map D.str)] True (.bool (nM l)):=by
 refine bm (fn:=Tryz.f231) [] [.tmp 2] fun pre=>?_;have hA:=Lg rn l;unfold nM;generalize List.all l _=A at *;repeat' first|exact zQ|with_reducible refine zJ (fun _=>?_) fun _=>?_|refine zK ?_|fail
 all_goals first|with_reducible exact .refl _|(refine ab ?_;have hno:=hno.out zz;simp[*];done)|((try refine ab ?_);exact zz)
instance(l:List ah):Ct Tryz.prog 246 [.sl 1 (l.map D.str)] (Lm l) (.bool (nM l)):=by
 refine bm (fn:=Tryz.f246) [] [.tmp 2] fun pre=>?_;unfold nM;generalize hA:List.all _ _=A;repeat' first|exact zQ|with_reducible refine zJ (fun _=>?_) fun _=>?_|refine zK ?_|fail
 refine fS l hA 3 [(2,15)] [] pre sG (fun j x τ β hx hj hw hi hno=>?_) fun τ β hn hi ha=>?_;all_goals (try repeat' first|exact zQ|with_reducible refine zJ (fun _=>?_) fun _=>?_|refine zK ?_|fail)
 all_goals first|with_reducible exact .refl _|(refine ab ?_;have hno:=hno.out zz;simp[*];done)|((try refine ab ?_);exact zz)
instance(s:ah):Ct Tryz.prog 232 [.str s] (Lm s) (.bool (fc s)):=⟨FK s⟩
instance(s:ah):Ct Tryz.prog 247 [.str s] (Lm s) (.bool (fc s)):=⟨CF s⟩
instance(x:Term):Ct Tryz.prog 178 [x.d] (Lm x.cat) (.bool (ph x)):=by
 refine bm (fn:=Tryz.f178) [] [.tmp 2] fun pre=>?_;unfold ph;repeat' first|exact zQ|with_reducible refine zJ (fun _=>?_) fun _=>?_|refine zK ?_|fail
 all_goals first|with_reducible exact .refl _|(refine ab ?_;have hno:=hno.out zz;simp[*];done)|((try refine ab ?_);exact zz)
instance(x:Term):Ct Tryz.prog 200 [x.d] (Lm x.cat/\Lm x.src/\Lm x.tgt) (.bool (ph x)):=by
 refine bm (fn:=Tryz.f200) [] [.tmp 2] fun pre=>?_;unfold ph;obtain⟨h1,h2,h3⟩:=pre;repeat' first|exact zQ|with_reducible refine zJ (fun _=>?_) fun _=>?_|refine zK ?_|fail
 all_goals first|with_reducible exact .refl _|(refine ab ?_;have hno:=hno.out zz;simp[*];done)|((try refine ab ?_);exact zz)
abbrev vI(x:Term):Prop:=Lm x.cat/\Lm x.src/\Lm x.tgt
instance(l:List Term):Ct Tryz.prog 126 [.sl 8 (l.map Term.d)] (∀x∈l,vI x) (I (jC l)):=by
 refine bm (fn:=Tryz.f126) [] [.tmp 2] fun pre=>?_;unfold jC;generalize hA:List.foldlM pj (-1) l=A;repeat' first|exact zQ|with_reducible refine zJ (fun _=>?_) fun _=>?_|refine zK ?_|fail
 refine kI l pj (-1) hA 11 [(2,3),(5,5),(11,26)] [(5,5)] (fun j s τ _=>τ 3=I s) oM sG sG (fun j x s τ β hx hj hw hi h3 hno=>?_) fun s τ β hn hi h3 ha=>?_
 ·obtain⟨hx1,hx2,hx3⟩:=pre x (List.mem_of_getElem? hx);unfold pj at hno⊢;clear pre;repeat' first|exact zQ|with_reducible refine zJ (fun _=>?_) fun _=>?_|refine zK ?_|fail
  all_goals first|with_reducible exact .refl _|(refine ab ?_;have hno:=hno.out zz;simp[*];done)|((try refine ab ?_);exact zz)
 ·repeat' first|exact zQ|with_reducible refine zJ (fun _=>?_) fun _=>?_|refine zK ?_|fail
  all_goals first|with_reducible exact .refl _|(refine ab ?_;have hno:=hno.out zz;simp[*];done)|((try refine ab ?_);exact zz)
def w6{α:Type}(l:List α)(f:α->Int)(s0:Int)(j:Nat)(s:Int):Prop:=(j=0/\s=s0)\/∃k y,j=k+1/\l[k]? =some y/\s=f y
set_option maxHeartbeats 1000000 in
instance(l:List Term):Ct Tryz.prog 141 [.sl 8 (l.map Term.d)] (∀x∈l,vI x) (I (jC l)):=by
 refine bm (fn:=Tryz.f141) [] [.tmp 2] fun pre=>?_;unfold jC;generalize hA:List.foldlM pj (-1) l=A;repeat' first|exact zQ|with_reducible refine zJ (fun _=>?_) fun _=>?_|refine zK ?_|fail
 refine kI l pj (-1) hA 3 [(2,3),(7,36)] [] (fun j s τ _=>w6 l Term.no (-1) j s) oM sG (.inl ⟨rfl,rfl⟩) (fun j x s τ β hx hj hw hi h3 hno=>?_) fun s τ β hn hi h3 ha=>?_
 ·obtain⟨hx1,hx2,hx3⟩:=pre x (List.mem_of_getElem? hx);have hn0:ph x=true-> -1<x.no:=fun h=>by simp[ph]at h;omega
  have nx:w6 l Term.no (-1) (j+1) x.no:=.inr ⟨j,x,rfl,hx,rfl⟩;unfold pj at hno⊢;clear pre;rcases h3 with⟨rfl,rfl⟩|⟨k,y,rfl,hy,rfl⟩
  ·repeat' first|exact zQ|with_reducible refine zJ (fun _=>?_) fun _=>?_|refine zK ?_|fail
   ·exact⟨by simp,_,rfl,nx⟩
   all_goals first|with_reducible exact .refl _|(refine ab ?_;have hno:=hno.out zz;simp[*];done)|((try refine ab ?_);exact zz)
  ·have hk:IntKind.i64.wrap (((k+1:Nat):Int) - 1)=(k:Int):=by rw[iL _ oM oM];omega
   have hp:(0:Int)<((k+1:Nat):Int):=oM;repeat' first|exact zQ|with_reducible refine zJ (fun _=>?_) fun _=>?_|refine zK ?_|fail
   rotate_left
   ·exact⟨_,zz,nx⟩
   all_goals first|with_reducible exact .refl _|(refine ab ?_;have hno:=hno.out zz;simp[*];done)|((try refine ab ?_);exact zz)
 ·repeat' first|exact zQ|with_reducible refine zJ (fun _=>?_) fun _=>?_|refine zK ?_|fail
  all_goals first|with_reducible exact .refl _|(refine ab ?_;have hno:=hno.out zz;simp[*];done)|((try refine ab ?_);exact zz)
def Ei(x:Sign):Bool:=decide ((dY x.t).2=0)&& !decide (((dY x.t).1.length:Int)<1)&& !decide ((4:Int)<(dY x.t).1.length)&& !decide ((x.c.length:Int)<1)&& !decide ((4:Int)<x.c.length)&&x.c.all fun n=>aL n 0 63
def re(seen:List ah)(x:Sign):Option (List ah):=if Ei x&& !seen.contains x.t then some (seen++[x.t])else none
def jB(l:List Sign):Int:=if 64<(l.length:Int)then 2 else if(l.foldlM re []).isSome&& !decide ((l.length:Int)=0)then 0 else 120
def SSet(ks:List ah)(es:List D):Prop:=∃l:List (ah×Int),es=l.map (fun e=> .tup [.str e.1,.bool true,.int .i64 e.2])/\ks=l.map (·.1)
theorem sL(k:ah):∀(l:List (ah×Int)) (i:Nat),(l.map (·.1)).contains k=true/\(∃j,dt .str (.str k) (l.map fun e=> .tup [.str e.1,.bool true,.int .i64 e.2]) i=some (some (j,.bool true)))\/(l.map (·.1)).contains k=false/\dt .str (.str k) (l.map fun e=> .tup [.str e.1,.bool true,.int .i64 e.2]) i=some none
 |[],i=> .inr ⟨rfl,rfl⟩
 |e::l,i=>by
  by_cases h:k=e.1
  ·exact .inl ⟨by simp[h],i,by simp[dt,je,h]⟩
  ·have hb:(k==e.1)=false:=by simpa using h
   rcases sL k l (i+1)with⟨h1,j,h2⟩|⟨h1,h2⟩
   ·exact .inl ⟨by simpa[h]using h1,j,by simp only[List.map_cons,dt,je,hb];exact h2⟩
   ·exact .inr ⟨by simpa[h]using h1,by simp only[List.map_cons,dt,je,hb];exact h2⟩
theorem SSet.look{ks:List ah}{es:List D}(h:SSet ks es)(k:ah):mW (some (.bool false)) false (dt .str (.str k) es 0)=some (.bool (ks.contains k)):=by
 obtain⟨l,rfl,rfl⟩:=h;rcases sL k l 0 with⟨h1,j,h2⟩|⟨h1,h2⟩<;>rw[h1,h2]<;>rfl
theorem SSet.ao{ks:List ah}{es:List D}(h:SSet ks es){k:ah}(hk:ks.contains k=false)(c:Int):∃es',jW .str (.str k) (.bool true) c es=some (.int .i64 (c+1)::es')/\SSet (ks++[k]) es':=by
 obtain⟨l,rfl,rfl⟩:=h;rcases sL k l 0 with⟨h1,j,h2⟩|⟨h1,h2⟩
 ·rw[h1]at hk;cases hk
 ·exact⟨_,by unfold jW;rw[h2],l++[(k,c)],by simp,by simp⟩
instance(l:List Int):Ct Tryz.prog 382 [ints l,.fn (.func 383) []] (Lm l) (.bool (l.all fun n=>aL n 0 63)):=⟨Lt l⟩
set_option maxHeartbeats 2000000 in
instance(l:List Sign):Ct Tryz.prog 381 [.sl 2 (l.map Sign.d)] True (I (jB l)):=by
 refine bm (fn:=Tryz.f381) [] [.tmp 2] fun pre=>?_;unfold jB;generalize hA:List.foldlM re [] l=A;repeat' first|exact zQ|with_reducible refine zJ (fun _=>?_) fun _=>?_|refine zK ?_|fail
 refine kI l re [] hA 14 [(2,2),(5,7),(14,63)] [(5,5),(11,11)] (fun j s τ β=>∃c es,β 11=⟨1,3,0,355,.int .i64 c::es⟩/\SSet s es) oM sG ⟨0,[],rfl,[],rfl,rfl⟩ (fun j x s τ β hx hj hw hi h3 hno=>?_) fun s τ β hn hi h3 ha=>?_
 ·obtain⟨c,es,h11,hs⟩:=h3;have hlk:=hs.look x.t;have hl:=o9 x.t;unfold re Ei at hno⊢;have hu:=fun h=>hs.ao (k:=x.t) h c;generalize hB:List.all x.c _=B at *;generalize s.contains x.t=C at *;repeat' first|exact zQ|with_reducible refine zJ (fun _=>?_) fun _=>?_|refine zK ?_|fail
  all_goals first|(have hno:=hno.out zz;refine ab ?_;simp[hno];done)|skip
  obtain⟨es',hu1,hu2⟩:=hu (by assumption);repeat' first|exact zQ|with_reducible refine zJ (fun _=>?_) fun _=>?_|refine zK ?_|fail
  exact⟨s++[x.t],zz,_,es',rfl,hu2⟩
 ·repeat' first|exact zQ|with_reducible refine zJ (fun _=>?_) fun _=>?_|refine zK ?_|fail
  all_goals first|with_reducible exact .refl _|(refine ab ?_;have hno:=hno.out zz;simp[*];done)|((try refine ab ?_);exact zz)
set_option maxHeartbeats 2000000 in
instance(l:List Sign):Ct Tryz.prog 306 [.sl 2 (l.map Sign.d)] True (.bool (decide (jB l=0))):=by
 refine bm (fn:=Tryz.f306) [] [.tmp 2] fun pre=>?_;unfold jB;generalize hA:List.foldlM re [] l=A;repeat' first|exact zQ|with_reducible refine zJ (fun _=>?_) fun _=>?_|refine zK ?_|fail
 rotate_left
 refine kI l re [] hA 3 [(2,6),(15,84)] [] (fun j s τ β=>s=(l.take j).map Sign.t) oM sG rfl (fun j x s τ β hx hj hw hi h3 hno=>?_) fun s τ β hn hi h3 ha=>?_
 ·subst h3;have hl:=o9 x.t;unfold re Ei at hno⊢;generalize hB:List.all x.c _=B at *;generalize hC:List.contains _ x.t=C at *;rw[List.contains_eq_any_beq,List.any_map]at hC;have ht:((l.take j).length:Int)=j:=by simp;omega
  repeat' first|exact zQ|with_reducible refine zJ (fun _=>?_) fun _=>?_|refine zK ?_|fail
  all_goals first|(have hno:=hno.out zz;refine ab ?_;simp[hno];done)|skip
  refine EM (l.take j) hC 6 [(2,2),(6,6),(69,84)] [] oM sG (fun k y τ β hy hk hw hi hyes=>?_) fun τ β hn hi hno=>?_
  ·have hy':l[k]? =some y:=by rw[List.getElem?_take_of_lt oM]at hy;exact hy
   rw[ht]at hk;have hyes:Hid (y.t=x.t->C=true):=fun h=>hyes.out (by simp[h]);have hno':Hid (C=true->A=none):=fun h=>hno.out (by simp[h]);clear hno hy hC;repeat' first|exact zQ|with_reducible refine zJ (fun _=>?_) fun _=>?_|refine zK ?_|fail
   ·exact ab (by simp[hno'.out (hyes.out (by assumption))])
   ·simp;exact fun h=>absurd h.symm (by assumption)
  ·have nx:(l.take (j+1)).map Sign.t=(l.take j).map Sign.t++[x.t]:=by rw[List.take_add_one,hx];simp
   rw[ht]at hn hi;clear hC;repeat' first|exact zQ|with_reducible refine zJ (fun _=>?_) fun _=>?_|refine zK ?_|fail
   exact⟨_,rfl,rfl⟩
 ·repeat' first|exact zQ|with_reducible refine zJ (fun _=>?_) fun _=>?_|refine zK ?_|fail
  rw[decide_eq_false (show ¬(l.length:Int)=0 by omega)];exact .refl _
 ·exact ab (congrArg D.bool (by rw[if_neg oM,decide_eq_true (show(l.length:Int)=0 by omega),Bool.not_true,Bool.and_false];rfl))
instance(s:bJ):Ct Tryz.prog 243 [s.d] True (I (gC s)):=⟨fun _=>F5 s⟩
instance(s:bJ):Ct Tryz.prog 258 [s.d] True (I (gC s)):=⟨fun _=>D4 s⟩
instance(s:b_):Ct Tryz.prog 259 [s.d] True (I (gj s)):=⟨fun _=>D1 s⟩
instance(a b c d e f:Bool):Ct Tryz.prog 242 [.sl 1 [.bool a,.bool b,.bool c,.bool d,.bool e,.bool f]] True (.bool (a&&b&&c&&d&&e&&f)):=⟨fun _=>by
 have:=M_ [a,b,c,d,e,f] sI;simpa[Bool.and_assoc]using this⟩
instance(n a b:Int):Ct Tryz.prog 241 [I n,I a,I b] True (.bool (aL n a b)):=⟨fun _=>Nb n a b⟩
def wK(v:bL):Bool:=aL v.cells 1 80&&decide (v.room=0)&&decide (jB v.fe=0)&&decide (v.font.gs.length=0)&&decide (v.font.ks.length=0)&&decide (v.font.o=0)
def eK(v:bL):Bool:=aL v.no 0 99999&&aL v.lang 0 31&&aL v.lines 1 8&&aL v.speed 0 1000&&decide (gC v.screen=0)&&if v.cells=0 then uA v else wK v
abbrev FO(v:bL):Prop:=Lm v.font.gs/\Lm v.font.ks
instance(v:bL):Ct Tryz.prog 385 [v.d] True (.bool (uA v)):=⟨fun _=>Im v⟩
instance(v:bL):Ct Tryz.prog 378 [v.d] (FO v) (.bool (wK v)):=by
 refine bm (fn:=Tryz.f378) [] [.tmp 2] fun pre=>?_;obtain⟨h1,h2⟩:=pre;unfold wK;repeat' first|exact zQ|with_reducible refine zJ (fun _=>?_) fun _=>?_|refine zK ?_|fail
 all_goals first|with_reducible exact .refl _|(refine ab (congrArg D.bool ?_);rw[Bool.eq_iff_iff];simp[*,-List.length_eq_zero_iff];try omega)
@[go_sem] theorem Vj:nj Tryz.prog 336 "hansard/viewers.right"=some 385:=aj
@[go_sem] theorem Vi:nj Tryz.prog 335 "hansard/viewers.right"=some 378:=aj
theorem S3(v:bL)(h:FO v)(bx:ae):aU Tryz.prog 193 5 [v.d] bx (fun _ bx'=>eK v=true/\∀q,q<5->bx' q=bx q) (fun d bx'=>eK v=false/\d= .ifc 53 (I 450)/\∀q,q<5->bx' q=bx q):=by
 refine aG (fn:=Tryz.f193) (tab:=[(5,[(21,18),(21,14),(17,14),(21,10),(17,10),(13,10),(21,7),(17,7),(13,7),(9,7)])]) (base:=5) mixed ?_ rfl aj rfl;refine aH _ [.tmp 2] 41 rfl rfl rfl aj ?_;have e:∀r,(if v.cells=0 then uA v else wK v)=r->eK v=(aL v.no 0 99999&&aL v.lang 0 31&&aL v.lines 1 8&&aL v.speed 0 1000&&decide (gC v.screen=0)&&r):=fun r h=>by rw[<-h];rfl
 generalize eK v=B at *;refine sw ?_;refine U8 (fun hc=>?_) fun hc=>?_
 ·have e:=e (uA v) (by rw[if_pos hc]);replace hc:Hid _:=hc;repeat' first|exact zQ|with_reducible refine zJ (fun _=>?_) fun _=>?_|refine zK ?_|fail
  all_goals exact fun q h=>if_neg oM
 ·have e:=e (wK v) (by rw[if_neg hc]);repeat' first|exact zQ|with_reducible refine zJ (fun _=>?_) fun _=>?_|refine zK ?_|fail
  all_goals exact fun q h=>if_neg oM
theorem BU{e:Nat}{x:D}(bx:ae)(h2:bx 2=⟨e,1,1,53,[x]⟩):rV Tryz.prog (bK Tryz.prog) [] Tryz.f192 5 [.loc 2 e 0 0] bx .ret fun m' bx'=>m'= .ret/\bx'=bx:=by
 refine iv (t:=5) _ _ 19 rfl rfl rfl aj aj (ao (ao (aR 0 [.loc 2 e 0 0]) 5 (.raw .nilIface)) 2 (.raw .nilIface)) ?_ ?_
 ·repeat' first|exact zQ|with_reducible refine zJ (fun _=>?_) fun _=>?_|refine zK ?_|fail
 ·repeat' first|exact zQ|with_reducible refine zJ (fun _=>?_) fun _=>?_|refine zK ?_|fail
theorem BT{e:Nat}{x:D}(n:Int)(bx:ae)(c:∀c,dz x 0 [c]=some c)(h2:bx 2=⟨e,1,1,53,[x]⟩):rV Tryz.prog (bK Tryz.prog) [] Tryz.f192 5 [.loc 2 e 0 0] bx (.pan (.ifc 53 (I n))) fun m' bx'=>m'= .ret/\bx'=ao bx 2 ⟨e,1,1,53,[I n]⟩:=by
 refine iv (t:=5) _ _ 19 rfl rfl rfl aj aj (ao (ao (aR 0 [.loc 2 e 0 0]) 5 (.ifc 53 (I n))) 2 (.ifc 53 (I n))) ?_ ?_
 ·repeat' first|exact zQ|with_reducible refine zJ (fun _=>?_) fun _=>?_|refine zK ?_|fail
 ·repeat' first|exact zQ|with_reducible refine zJ (fun _=>?_) fun _=>?_|refine zK ?_|fail
theorem Iz(v:bL)(h:FO v):xF Tryz.prog (bK Tryz.prog) [] Tryz.f130 0 [v.d] (fun _=> .none) (fun d bx'=>∃r,bf bx' d=some r/\bk r (I (if eK v then 0 else 450))) (fun _ _=>False):=by
 refine my _ [.cell 2 53] 5 rfl rfl rfl aj aj ?_;repeat' first|exact zQ|with_reducible refine zJ (fun _=>?_) fun _=>?_|refine zK ?_|fail
 refine nU (S3 v h _) rfl (fun d bx1 hq=>?_) (fun d bx1 hq=>?_)
 ·obtain⟨h1,h3⟩:=hq;have b2:=h3 2 oM;simp only[ao,Bx.none,reduceIte,Nat.reduceEqDiff]at b2;repeat' first|exact zQ|with_reducible refine zJ (fun _=>?_) fun _=>?_|refine zK ?_|fail
  refine fJ _ (qw (BU _ rfl)) fun m' bx2 hq=>?_;obtain⟨rfl,rfl⟩:=hq;repeat' first|exact zQ|with_reducible refine zJ (fun _=>?_) fun _=>?_|refine zK ?_|fail
  exact⟨_,rfl,.refl _⟩
 ·obtain⟨h1,rfl,h3⟩:=hq;have b2:=h3 2 oM;simp only[ao,Bx.none,reduceIte,Nat.reduceEqDiff]at b2;repeat' first|exact zQ|with_reducible refine zJ (fun _=>?_) fun _=>?_|refine zK ?_|fail
  refine fJ _ (qw (BT 450 _ (fun c=>by simp[go_sem]) b2)) fun m' bx2 hq=>?_;obtain⟨rfl,rfl⟩:=hq;repeat' first|exact zQ|with_reducible refine zJ (fun _=>?_) fun _=>?_|refine zK ?_|fail
  exact⟨_,rfl,.refl _⟩
instance(v:bL):Ct Tryz.prog 130 [v.d] (FO v) (I (if eK v then 0 else 450)):=⟨fun h=>(zP (Iz v h)).to (fun _ _ h=>h) fun d' bx' h=>h⟩
instance(l:List Sign):Ct Tryz.prog 260 [.sl 2 (l.map Sign.d)] True (I (jB l)):=by
 refine bm (fn:=Tryz.f260) [] [.tmp 2] fun pre=>?_;have h1:Hid (64<(l.length:Int)->jB l=2):=fun h=>by unfold jB;rw[if_pos h]
 have h2:Hid (¬64<(l.length:Int)->jB l=0\/jB l=120):=fun h=>by unfold jB;rw[if_neg h];split<;>simp
 repeat' first|exact zQ|with_reducible refine zJ (fun _=>?_) fun _=>?_|refine zK ?_|fail
 ·rw[h1.out (by assumption)];exact .refl _
 ·rcases h2.out (by assumption)with h|h
  ·contradiction
  ·rw[h];exact .refl _
instance(v:bL):Ct Tryz.prog 205 [v.d] True (.bool (eK v)):=by
 refine bm (fn:=Tryz.f205) [] [.tmp 2] fun pre=>?_;repeat' first|exact zQ|with_reducible refine zJ (fun _=>?_) fun _=>?_|refine zK ?_|fail
 all_goals (refine ab (congrArg D.bool ?_);simp[eK,uA,wK, *,-aL,-List.length_eq_zero_iff];try omega)
instance(v:bL):Ct Tryz.prog 145 [v.d] True (I (if eK v then 0 else 450)):=by
 refine bm (fn:=Tryz.f145) [] [.tmp 2] fun pre=>?_;repeat' first|exact zQ|with_reducible refine zJ (fun _=>?_) fun _=>?_|refine zK ?_|fail
 all_goals simp[*,ab]
end Go.V.St
namespace Go.V
open Go.Proofs Go.RowKit
class Cq(P:Program)(f:Nat)(ds:List D)(pre:outParam Prop)(ok:outParam Bool)(d pd:outParam D):Prop where
 h:pre->∀bx,aU P f 0 ds bx (fun d' bx'=>ok=true/\d'=d/\bx'=bx) (fun d' bx'=>ok=false/\d'=pd/\bx'=bx)
variable {tab:List (Nat×List (Nat×Nat))} {base nxt:Nat} {yl:Option (List (List D)×Nat×Nat)} {pn df:Bool} {P:Program} {bx:ae} {f:Nat} {ds:List D} {K2:Cl->D->ae->Prop} {pre:Prop} {d pd:D} {ok:Bool}
theorem gu[h:Cq P f ds pre ok d pd](h1:pre)(hk:ok=true->K2 .wa d bx)(hp:ok=false->K2 (.pan pd) .undef bx):dV ⟨bK P,tab,base,nxt,0,yl,pn,df⟩ f ds bx K2:=by
 refine nU (bG:=fun d' bx'=>ok=true/\d'=d/\bx'=bx) (Pan:=fun d' bx'=>ok=false/\d'=pd/\bx'=bx) (h.h h1 bx) rfl ?_ ?_
 ·rintro d' bx' ⟨h2,rfl,rfl⟩;exact hk h2
 ·rintro d' bx' ⟨h2,rfl,rfl⟩;exact hp h2
theorem LI{f:Nat}{fn:Func}{ds:List D}{d pd:D}{ok:Bool}{c:Code}{n:Nat}{pre:Prop}(tab:List (Nat×List (Nat×Nat)))(rv:List ResultVar)
 (h:pre->∀bx,cD Tryz.prog ⟨bK Tryz.prog,tab,0,0+n,0,none,true,false⟩ c (uy Tryz.prog rv (fun d' bx'=>ok=true/\d'=d/\bx'=bx) (fun d' bx'=>ok=false/\d'=pd/\bx'=bx)) (aR 0 ds) bx)
 (hc:fn.body=some c:=by exact rfl) (hr:fn.results=rv.toArray:=by exact rfl) (hn:fn.ntmps=n:=by exact rfl) (hok:codeOk tab n c=true:=by kernel_rfl)
 (hf:Tryz.prog.funcs[f]? =some fn:=by exact rfl) (hname:(fn.name== "runtime.NumGoroutine")=false:=by exact rfl) (hlen:decide (ds.length<=fn.ntmps)=true:=by kernel_rfl):Cq Tryz.prog f ds pre ok d pd:=
 ⟨fun h1 bx=>aG Lx.mixed (aH c rv n hc hr hn hok (h h1 bx)) hf hname hlen⟩
theorem IU{f:Nat}{fn:Func}{ds:List D}{d:D}{c:Code}{n:Nat}{pre:Prop}(tab:List (Nat×List (Nat×Nat)))(rv:List ResultVar)
 (h:pre->cD Tryz.prog ⟨bK Tryz.prog,tab,0,0+n,0,none,true,false⟩ c (uy Tryz.prog rv (fun d' bx'=>aI (bf bx' d') fun r=>bk r d) (fun _ _=>False)) (aR 0 ds) (fun _=> .none))
 (hc:fn.body=some c:=by exact rfl) (hr:fn.results=rv.toArray:=by exact rfl) (hn:fn.ntmps=n:=by exact rfl) (hok:codeOk tab n c=true:=by kernel_rfl)
 (hf:Tryz.prog.funcs[f]? =some fn:=by exact rfl) (hname:(fn.name== "runtime.NumGoroutine")=false:=by exact rfl) (hlen:decide (ds.length<=fn.ntmps)=true:=by kernel_rfl):Ct Tryz.prog f ds pre d:=
 ⟨fun h1=>(aG (base:=0) Lx.mixed (aH c rv n hc hr hn hok (h h1)) hf hname hlen).to (fun _ _ h=>h) fun d' bx' h=>by
  cases ho:bf bx' d' with
  |none=>rw[ho]at h;exact h.elim
  |some r=>rw[ho]at h;exact⟨r,rfl,h⟩⟩
theorem fresh{P:Program}{C:Calc}{c:Code}{Q:DX->Env->ae->Prop}{σ:Env}{bx:ae}(K:Env->ae->Prop)(h:K σ bx)(hk:∀σ bx,K σ bx->cD P C c Q σ bx):cD P C c Q σ bx:=hk σ bx h
end Go.V
namespace Go.V.St
open Go.Proofs Go.RowKit Go.V.Lx Go.V.Gr Go.V.Ty
abbrev ji(n:Int):D:=.ifc 53 (I n)
instance(b:Bool)(n:Int):Cq Tryz.prog 122 [.bool b,I n] True b (.tup []) (ji n):=by
 refine LI (fn:=Tryz.f122) (n:=8) [] [] fun pre bx=>?_;repeat' first|exact zQ|with_reducible refine zJ (fun _=>?_) fun _=>?_|refine zK ?_|fail
instance(n a b:Int):Cq Tryz.prog 123 [I n,I a,I b] True (aL n a b) (.tup []) (ji 540):=by
 refine LI (fn:=Tryz.f123) (n:=15) [] [] fun pre bx=>?_;repeat' first|exact zQ|with_reducible refine zJ (fun _=>?_) fun _=>?_|((with_reducible refine gu ?_ (fun _=>?_) fun _=>?_);exact pr)|refine zK ?_|fail
 all_goals first|with_reducible exact .refl _|(refine ab ?_;have hno:=hno.out zz;simp[*];done)|((try refine ab ?_);exact zz)
instance(l:List Int):Cq Tryz.prog 124 [.sl 1 (l.map I)] (Lm l) (l.all fun n=>decide (n=0)) (.tup []) (ji 540):=by
 refine LI (fn:=Tryz.f124) (n:=14) [] [] fun pre bx=>?_;generalize hA:List.all l _=A;repeat' first|exact zQ|with_reducible refine zJ (fun _=>?_) fun _=>?_|((with_reducible refine gu ?_ (fun _=>?_) fun _=>?_);exact pr)|refine zK ?_|fail
 refine fS l hA 6 [(3,3),(6,13)] [] pre sG (fun j x τ β hx hj hw hi hno=>?_) fun τ β hn hi ha=>?_
 ·repeat' first|exact zQ|with_reducible refine zJ (fun _=>?_) fun _=>?_|((with_reducible refine gu ?_ (fun _=>?_) fun _=>?_);exact pr)|refine zK ?_|fail
  exact hno.out (by assumption)
 ·repeat' first|exact zQ|with_reducible refine zJ (fun _=>?_) fun _=>?_|((with_reducible refine gu ?_ (fun _=>?_) fun _=>?_);exact pr)|refine zK ?_|fail
instance(v:bL)(n:Int):Ct Tryz.prog 195 [v.d,.cref (I n) 0] True (.bool (decide (v.no=n))):=by
 refine bm (fn:=Tryz.f195) [] [.tmp 3] fun pre=>?_;repeat' first|exact zQ|with_reducible refine zJ (fun _=>?_) fun _=>?_|refine zK ?_|fail
def vj(n:Int)(l:List bL):Int:=dw (fun v:bL=>decide (v.no=n)) l
instance(s:aN)(n:Int):Ct Tryz.prog 131 [s.d,I n] (Lm s.viewers) (I (vj n s.viewers)):=by
 refine bm (fn:=Tryz.f131) [] [.tmp 4] fun pre=>?_;repeat' first|exact zQ|with_reducible refine zJ (fun _=>?_) fun _=>?_|refine zK ?_|fail
 refine Lq (ds':=[.sl 14 (s.viewers.map bL.d),.fn (.func 195) [.cref (I n) 0]]) (by simp[go_sem,qF,D.cells,D.aF,D.pure,D.one,iB,ao,cg,lv,I,Bx.none]) ?_;repeat' first|exact zQ|with_reducible refine zJ (fun _=>?_) fun _=>?_|refine zK ?_|fail
 all_goals exact .refl _
instance(s:aN)(n:Int):Ct Tryz.prog 147 [s.d,I n] (Lm s.viewers) (I (vj n s.viewers)):=by
 refine bm (fn:=Tryz.f147) [] [.tmp 4] fun pre=>?_;generalize hA:List.findIdx? (fun v:bL=>decide (v.no=n)) s.viewers=A;unfold vj dw;rw[hA];repeat' first|exact zQ|with_reducible refine zJ (fun _=>?_) fun _=>?_|refine zK ?_|fail
 refine pJ s.viewers hA 5 [(4,21)] [] pre sG (fun j x τ β hx hj hw hi hno=>?_) fun τ β hn hi ha=>?_
 ·repeat' first|exact zQ|with_reducible refine zJ (fun _=>?_) fun _=>?_|refine zK ?_|fail
  ·rw[hno.out (by simpa using ‹x.no=n›)];exact .refl _
 ·subst ha;repeat' first|exact zQ|with_reducible refine zJ (fun _=>?_) fun _=>?_|refine zK ?_|fail
instance(n a b:Int):Ct Tryz.prog 140 [I n,I a,I b] True (.bool (aL n a b)):=by
 refine bm (fn:=Tryz.f140) [] [.tmp 6] fun pre=>?_;repeat' first|exact zQ|with_reducible refine zJ (fun _=>?_) fun _=>?_|refine zK ?_|fail
 all_goals first|with_reducible exact .refl _|(refine ab ?_;have hno:=hno.out zz;simp[*];done)|((try refine ab ?_);exact zz)
instance(n:Int):Ct Tryz.prog 148 [I n] True (.bool (pk n)):=by
 refine bm (fn:=Tryz.f148) [] [.tmp 2] fun pre=>?_;repeat' first|exact zQ|with_reducible refine zJ (fun _=>?_) fun _=>?_|refine zK ?_|fail
 all_goals first|with_reducible exact .refl _|(refine ab ?_;have hno:=hno.out zz;simp[*];done)|((try refine ab ?_);exact zz)
def oB(so la ch qu lt ga mo:Int):Bool:=aL so 1 16&&aL la 1 32&&aL ch 1 1073741824&&aL qu 1 1073741824&&aL ga 1 1073741824&&aL lt 0 1073741824&&aL mo 1 16
instance(a b c d e f g:Int):Ct Tryz.prog 75 [.agg [I a,I b,I c,I d,I e,I f,I g]] True (.bool (oB a b c d e f g)):=by
 refine bm (fn:=Tryz.f75) [] [.tmp 2] fun pre=>?_;unfold oB;repeat' first|exact zQ|with_reducible refine zJ (fun _=>?_) fun _=>?_|refine zK ?_|fail
 all_goals (refine ab (congrArg D.bool ?_);simp[*,-aL];done)
def vo(h:aD):Bool:=aL h.seq 0 1048576&&pk h.sent&&decide ((h.words.length:Int)<=64)
instance(h:aD):Ct Tryz.prog 149 [.agg [I h.seq,I h.sent,I h.kind,I h.opat,I h.cut,.sl 5 (h.words.map Word.d)]] True (.bool (vo h)):=by
 refine bm (fn:=Tryz.f149) [] [.tmp 2] fun pre=>?_;unfold vo;repeat' first|exact zQ|with_reducible refine zJ (fun _=>?_) fun _=>?_|refine zK ?_|fail
 all_goals first|with_reducible exact .refl _|(refine ab ?_;have hno:=hno.out zz;simp[*];done)|((try refine ab ?_);exact zz)
set_option maxHeartbeats 1000000
abbrev MA(g:aO):Prop:=iZ g/\∀x∈g.rules,x.parts.length<=65536
attribute [local go_sem] aO.d
instance(g:aO):Ct Tryz.prog 144 [.agg [.str g.name,strs g.cats,.str g.start,I g.no,.sl 5 (g.entries.map Entry.d),.sl 5 (g.rules.map aC.d)]] (MA g) (I (fT g)):=⟨fun h=>GK HY g h.1 h.2⟩
instance(l:List bE):Ct Tryz.prog 142 [.sl 10 (l.map bE.d)] True (I (fV l)):=⟨fun _=>F_ l⟩
instance(bs:List aJ)(ts:List bo):Ct Tryz.prog 143 [.sl 5 (bs.map aJ.d),.sl 7 (ts.map bo.d)] True (I (cu bs ts)):=⟨fun _=>D3 bs ts⟩
instance(l:List aT):Ct Tryz.prog 146 [.sl 4 (l.map aT.d)] True (I (cF l)):=⟨fun _=>D5 l⟩
structure cX(s:aN):Prop where
 gr:∀g∈s.grams,MA g
 te:∀x∈s.terms,vI x
 vi:∀v∈s.viewers,FO v
 ki:∀v∈s.visits,i64 v.kind
 lg:Lm s.grams
 lt:Lm s.terms
 lv:Lm s.viewers
 li:Lm s.visits
 lh:Lm s.heard
def yR(p:(aO×aJ)×Nat):Bool:=(decide (p.2=0)||decide (fT p.1.1=0))&&decide (p.1.2.lang=(p.2:Int))
def vA(s:aN):Bool:=(s.grams.zip s.budgets).zipIdx.all yR
def dQ(s:aN):Bool:=decide ((s.grams.length:Int)=s.langs)&&decide ((s.budgets.length:Int)=s.langs)&&decide (jC s.terms=0)&&decide (fV s.house=0)&&decide (cu s.budgets s.trades=0)&&vA s&&s.terms.all fun t=>decide (t.lang<s.langs)
theorem CZ{s:aN}{j:Nat}{x:(aO×aJ)×Nat}(h:(s.grams.zip s.budgets).zipIdx[j]? =some x):s.grams[j]? =some x.1.1/\s.budgets[j]? =some x.1.2/\x.2=j:=by
 rw[List.getElem?_zipIdx,Option.map_eq_some_iff]at h;obtain⟨p,h,rfl⟩:=h;rw[List.getElem?_zip_eq_some]at h;exact⟨h.1,h.2,by simp⟩
set_option maxHeartbeats 2000000 in
instance(s:aN):Ct Tryz.prog 76 [s.d] (cX s) (.bool (dQ s)):=by
 refine bm (fn:=Tryz.f76) [] [.tmp 2] fun pre=>?_;obtain⟨gr,te,vi,ki,lg,lt,lv,li,lh⟩:=pre;unfold dQ vA;generalize hA:List.all (List.zipIdx _) _=A;generalize hB:List.all s.terms _=B;clear vi ki li lh lv;have lb:Lm (s.grams.zip s.budgets).zipIdx:=by simp[List.length_zipIdx,List.length_zip];omega
 repeat' first|exact zQ|with_reducible refine zJ (fun _=>?_) fun _=>?_|refine zK ?_|fail
 have hn:((s.grams.zip s.budgets).zipIdx.length:Int)=s.langs:=by simp[List.length_zipIdx,List.length_zip];omega
 refine fS _ hA 4 [(2,2),(4,4),(41,66)] [] lb sG (fun j x τ β hx hj hw hi hno=>?_) fun τ β hn' hi ha=>?_
 ·obtain⟨h1,h2,h3⟩:=CZ hx;rw[hn]at hj;have hg:=gr _ (List.mem_of_getElem? h1);unfold yR at hno⊢;obtain⟨⟨g,b⟩,k⟩:=x;simp only at h1 h2 h3 hg hno⊢;subst h3;clear hx gr hn lb hA hB te;rcases k with _|k
  ·have hj:(0:Int)<s.langs:=oM;repeat' first|exact zQ|with_reducible refine zJ (fun _=>?_) fun _=>?_|refine zK ?_|fail
   all_goals first|with_reducible exact .refl _|(refine ab ?_;have hno:=hno.out zz;simp[*];done)|((try refine ab ?_);exact zz)
  ·have hp:(0:Int)<((k+1:Nat):Int):=oM;repeat' first|exact zQ|with_reducible refine zJ (fun _=>?_) fun _=>?_|refine zK ?_|fail
   all_goals first|with_reducible exact .refl _|(refine ab ?_;have hno:=hno.out zz;simp[*];done)|((try refine ab ?_);exact zz)
 ·rw[hn]at hn' hi;repeat' first|exact zQ|with_reducible refine zJ (fun _=>?_) fun _=>?_|refine zK ?_|fail
  refine fS s.terms hB 5 [(2,2),(5,5),(67,81)] [] lt sG (fun j x τ β hx hj hw hi hno=>?_) fun τ β hn' hi ha=>?_
  ·repeat' first|exact zQ|with_reducible refine zJ (fun _=>?_) fun _=>?_|refine zK ?_|fail
   all_goals first|with_reducible exact .refl _|(refine ab ?_;have hno:=hno.out zz;simp[*];done)|((try refine ab ?_);exact zz)
  ·repeat' first|exact zQ|with_reducible refine zJ (fun _=>?_) fun _=>?_|refine zK ?_|fail
def lU(n:Int)(last:Int)(v:bL):Option Int:=if eK v&&decide (v.lang<n)&&decide (last<v.no)then some v.no else none
def Bl(s:aN)(v:aT):Bool:=decide (v.lang<s.langs)&&decide (0<=vj v.who s.viewers)
noncomputable def ed(s:aN):Bool:=(s.viewers.foldlM (lU s.langs) (-1)).isSome&&decide (cF s.visits=0)&&s.visits.all (Bl s)
set_option maxHeartbeats 2000000 in
instance(s:aN):Ct Tryz.prog 77 [s.d] (cX s) (.bool (ed s)):=by
 refine bm (fn:=Tryz.f77) [] [.tmp 2] fun pre=>?_;obtain⟨gr,te,vi,ki,lg,lt,lv,li,lh⟩:=pre;unfold ed;generalize hA:List.foldlM (lU _) _ _=A;generalize hB:List.all s.visits _=B;clear ki lg lt lh gr te;repeat' first|exact zQ|with_reducible refine zJ (fun _=>?_) fun _=>?_|refine zK ?_|fail
 refine kI _ _ _ hA 3 [(2,4),(6,44)] [(4,4)] (fun j s' τ _=>w6 s.viewers bL.no (-1) j s') lv sG (.inl ⟨rfl,rfl⟩) (fun j x s' τ β hx hj hw hi h3 hno=>?_) fun s' τ β hn hi h3 ha=>?_
 ·have nx:w6 s.viewers bL.no (-1) (j+1) x.no:=.inr ⟨j,x,rfl,hx,rfl⟩;have hn0:eK x=true-> -1<x.no:=fun h=>by simp[eK]at h;omega
  unfold lU at hno⊢;have hv:=vi x (List.mem_of_getElem? hx);clear vi hA hB;cases hvb:eK x<;>rw[hvb]at hno hn0
  ·rcases h3 with⟨rfl,rfl⟩|⟨k,y,rfl,hy,rfl⟩
   ·have hj:(0:Int)<s.viewers.length:=oM;repeat' first|exact zQ|with_reducible refine zJ (fun _=>?_) fun _=>?_|refine zK ?_|fail
    all_goals first|with_reducible exact .refl _|(refine ab ?_;have hno:=hno.out zz;simp[*];done)|((try refine ab ?_);exact zz)
   ·repeat' first|exact zQ|with_reducible refine zJ (fun _=>?_) fun _=>?_|refine zK ?_|fail
    all_goals first|with_reducible exact .refl _|(refine ab ?_;have hno:=hno.out zz;simp[*];done)|((try refine ab ?_);exact zz)
  replace hn0:=hn0 rfl;rcases h3 with⟨rfl,rfl⟩|⟨k,y,rfl,hy,rfl⟩
  ·have hj:(0:Int)<s.viewers.length:=oM;repeat' first|exact zQ|with_reducible refine zJ (fun _=>?_) fun _=>?_|refine zK ?_|fail
   rotate_left
   ·exact⟨by simp,x.no,zz,nx⟩
   all_goals first|with_reducible exact .refl _|(refine ab ?_;have hno:=hno.out zz;simp[*];done)|((try refine ab ?_);exact zz)
  ·have hk:IntKind.i64.wrap (((k+1:Nat):Int) - 1)=(k:Int):=by rw[iL _ oM oM];omega
   have hp:(0:Int)<((k+1:Nat):Int):=oM;repeat' first|exact zQ|with_reducible refine zJ (fun _=>?_) fun _=>?_|refine zK ?_|fail
   rotate_left 2
   ·exact⟨x.no,zz,nx⟩
   all_goals first|with_reducible exact .refl _|(refine ab ?_;have hno:=hno.out zz;simp[*];done)|((try refine ab ?_);exact zz)
 ·repeat' first|exact zQ|with_reducible refine zJ (fun _=>?_) fun _=>?_|refine zK ?_|fail
  refine fS s.visits hB 5 [(2,2),(5,5),(49,76)] [] li sG (fun j x τ β hx hj hw hi hno=>?_) fun τ β hn' hi ha=>?_
  ·unfold Bl at hno⊢;repeat' first|exact zQ|with_reducible refine zJ (fun _=>?_) fun _=>?_|refine zK ?_|fail
   all_goals first|with_reducible exact .refl _|(refine ab ?_;have hno:=hno.out zz;simp[*];done)|((try refine ab ?_);exact zz)
  ·repeat' first|exact zQ|with_reducible refine zJ (fun _=>?_) fun _=>?_|refine zK ?_|fail
   all_goals first|with_reducible exact .refl _|(refine ab ?_;have hno:=hno.out zz;simp[*];done)|((try refine ab ?_);exact zz)
end Go.V.St
namespace Go.V.St
open Go.Proofs Go.RowKit Go.V.Lx Go.V.Gr Go.V.Ty
set_option maxHeartbeats 1000000
def mA(src at_:Int)(h:aD):Option Int:=if pk h.at_&&decide (at_<=h.at_)&&decide (0<=h.src)&&decide (h.src<src)&&vo h then some h.at_ else none
def gI(s:aN):Bool:=(s.heard.foldlM (mA s.sources) 0).isSome
noncomputable def oD(s:aN):Bool:=oB s.sources s.langs s.chunk s.quiet s.late s.gap s.most&&dQ s&&ed s&&gI s
noncomputable def bg(s:aN):Int:=if(4096:Int)<s.heard.length\/(4096:Int)<s.viewers.length then 2 else if oD s then 0 else 540
set_option maxHeartbeats 2000000 in
instance(s:aN):Ct Tryz.prog 78 [s.d] (Lm s.heard) (.bool (gI s)):=by
 refine bm (fn:=Tryz.f78) [] [.tmp 2] fun pre=>?_;unfold gI;generalize hA:List.foldlM (mA _) _ _=A;repeat' first|exact zQ|with_reducible refine zJ (fun _=>?_) fun _=>?_|refine zK ?_|fail
 refine kI _ _ _ hA 3 [(2,55)] [(4,4)] (fun j s' τ _=>w6 s.heard aD.at_ 0 j s') pre sG (.inl ⟨rfl,rfl⟩) (fun j x s' τ β hx hj hw hi h3 hno=>?_) fun s' τ β hn hi h3 ha=>?_
 ·have nx:w6 s.heard aD.at_ 0 (j+1) x.at_:=.inr ⟨j,x,rfl,hx,rfl⟩;unfold mA at hno⊢;clear hA;cases hv:vo x<;>rw[hv]at hno
  ·have hno:Hid (True->A=none):=fun _=>hno.out sI;rcases h3 with⟨rfl,rfl⟩|⟨k,y,rfl,hy,rfl⟩
   ·have hj:(0:Int)<s.heard.length:=oM;repeat' first|exact zQ|with_reducible refine zJ (fun _=>?_) fun _=>?_|refine zK ?_|fail
    all_goals first|with_reducible exact .refl _|(refine ab ?_;have hno:=hno.out zz;simp[*];done)|((try refine ab ?_);exact zz)
   ·have hk:IntKind.i64.wrap (((k+1:Nat):Int) - 1)=(k:Int):=by rw[iL _ oM oM];omega
    have hp:(0:Int)<((k+1:Nat):Int):=oM;repeat' first|exact zQ|with_reducible refine zJ (fun _=>?_) fun _=>?_|refine zK ?_|fail
    all_goals first|with_reducible exact .refl _|(refine ab ?_;have hno:=hno.out zz;simp[*];done)|((try refine ab ?_);exact zz)
  rcases h3 with⟨rfl,rfl⟩|⟨k,y,rfl,hy,rfl⟩
  ·have hj:(0:Int)<s.heard.length:=oM;repeat' first|exact zQ|with_reducible refine zJ (fun _=>?_) fun _=>?_|refine zK ?_|fail
   all_goals first|exact⟨by simp,x.at_,zz,nx⟩|exact⟨x.at_,zz,nx⟩|skip
   all_goals first|with_reducible exact .refl _|(refine ab ?_;have hno:=hno.out zz;simp[*];done)|((try refine ab ?_);exact zz)
  ·have hk:IntKind.i64.wrap (((k+1:Nat):Int) - 1)=(k:Int):=by rw[iL _ oM oM];omega
   have hp:(0:Int)<((k+1:Nat):Int):=oM;repeat' first|exact zQ|with_reducible refine zJ (fun _=>?_) fun _=>?_|refine zK ?_|fail
   all_goals first|exact⟨by simp,x.at_,zz,nx⟩|exact⟨x.at_,zz,nx⟩|skip
   all_goals first|with_reducible exact .refl _|(refine ab ?_;have hno:=hno.out zz;simp[*];done)|((try refine ab ?_);exact zz)
 ·repeat' first|exact zQ|with_reducible refine zJ (fun _=>?_) fun _=>?_|refine zK ?_|fail
  all_goals first|with_reducible exact .refl _|(refine ab ?_;have hno:=hno.out zz;simp[*];done)|((try refine ab ?_);exact zz)
instance(s:aN):Ct Tryz.prog 37 [s.d] (cX s) (I (bg s)):=by
 refine bm (fn:=Tryz.f37) [] [.tmp 2] fun pre=>?_;have lh:=pre.lh;repeat' first|exact zQ|with_reducible refine zJ (fun _=>?_) fun _=>?_|refine zK ?_|fail
 all_goals (refine ab (congrArg I ?_);unfold bg oD;first|(rw[if_pos oM];done)|(rw[if_neg oM];simp[*];done))
end Go.V.St
