/- Sittings: plain data. -/
import Derived.Test.YtkgloohlmogakaaGreatDoorB13
set_option linter.unusedSimpArgs false
set_option linter.unusedVariables false
set_option maxRecDepth 100000
namespace Go.V.St
open Go.Proofs Go.RowKit Go.V.Lx Go.V.Gr Go.V.Ty
@[go_sem] theorem JT(len esz size:Nat)(g ag:Bool)(z:List D)(t e i j:Nat)(n:Int)(h:0<=n)(h':n<len)(h1:1<len)(h2:0<esz):dn ⟨.arr len esz g,size,ag,z⟩ (.loc t e i j) n=some (.loc t e i (j+n.toNat * esz)):=by simp[dn,gR,h,h',h1,h2]
@[go_sem] theorem Ul(n:Nat):cT n none none=some (0,n):=by simp[cT]
abbrev I(n:Int):D:=.int .i64 n
@[reducible] def ints(l:List Int):D:=.sl 1 (l.map (D.int .i64))
structure dM where
 f:Int
 t:Int
 w:Int
 deriving DecidableEq
@[reducible] def dM.d(x:dM):D:=.agg [I x.f,I x.t,I x.w]
structure eU where
 a:Int
 b:Int
 y:Int
 deriving DecidableEq
@[reducible] def eU.d(x:eU):D:=.agg [I x.a,I x.b,I x.y]
structure b_ where
 gs:List dM
 o:Int
 ks:List eU
 deriving DecidableEq
@[reducible] def b_.l(x:b_):List D:=[.sl 3 (x.gs.map dM.d),I x.o,.sl 3 (x.ks.map eU.d)]
@[reducible] def b_.d(x:b_):D:=.agg x.l
structure Sign where
 t:ah
 c:List Int
 deriving DecidableEq
@[reducible] def Sign.d(x:Sign):D:=.agg [.str x.t,ints x.c]
structure eB where
 x:Int
 y:Int
 w:Int
 h:Int
 deriving DecidableEq
@[reducible] def eB.d(x:eB):D:=.agg [I x.x,I x.y,I x.w,I x.h]
structure bJ where
 w:Int
 h:Int
 bl:List eB
 deriving DecidableEq
@[reducible] def bJ.l(x:bJ):List D:=[I x.w,I x.h,.sl 4 (x.bl.map eB.d)]
@[reducible] def bJ.d(x:bJ):D:=.agg x.l
structure bL where
 no:Int
 lang:Int
 lines:Int
 room:Int
 cells:Int
 speed:Int
 right:Bool
 font:b_
 fe:List Sign
 screen:bJ
 deriving DecidableEq
@[reducible] def bL.d(x:bL):D:=.agg [I x.no,I x.lang,I x.lines,I x.room,I x.cells,I x.speed,.bool x.right,.sl 3 (x.font.gs.map dM.d),I x.font.o,.sl 3 (x.font.ks.map eU.d),.sl 2 (x.fe.map Sign.d),I x.screen.w,I x.screen.h,.sl 4 (x.screen.bl.map eB.d)]
structure aT where
 at_:Int
 who:Int
 kind:Int
 lang:Int
 deriving DecidableEq
@[reducible] def aT.d(x:aT):D:=.agg [I x.at_,I x.who,I x.kind,I x.lang]
structure aJ where
 lang:Int
 m0:Int
 m1:Int
 m2:Int
 m3:Int
 deriving DecidableEq
@[reducible] def aJ.d(x:aJ):D:=.agg [I x.lang,I x.m0,I x.m1,I x.m2,I x.m3]
structure bo where
 no:Int
 at_:Int
 known:Int
 stage:Int
 from_:Int
 to_:Int
 ms:Int
 deriving DecidableEq
@[reducible] def bo.d(x:bo):D:=.agg [I x.no,I x.at_,I x.known,I x.stage,I x.from_,I x.to_,I x.ms]
structure Term where
 no:Int
 at_:Int
 known:Int
 lang:Int
 src:List ah
 tgt:List ah
 cat:ah
 gone:Bool
 deriving DecidableEq
@[reducible] def Term.d(x:Term):D:=.agg [I x.no,I x.at_,I x.known,I x.lang,strs x.src,strs x.tgt,.str x.cat,.bool x.gone]
structure bE where
 no:Int
 kind:Int
 sp:Int
 first:Int
 last:Int
 lang:Int
 from_:Int
 until_:Int
 known:Int
 ms:Int
 deriving DecidableEq
@[reducible] def bE.d(x:bE):D:=.agg [I x.no,I x.kind,I x.sp,I x.first,I x.last,I x.lang,I x.from_,I x.until_,I x.known,I x.ms]
structure Word where
 t:ah
 f:Int
 u:Int
 s:Int
 alts:List ah
 deriving DecidableEq
@[reducible] def Word.d(x:Word):D:=.agg [.str x.t,I x.f,I x.u,I x.s,strs x.alts]
structure aD where
 at_:Int
 src:Int
 seq:Int
 sent:Int
 kind:Int
 opat:Int
 cut:Int
 words:List Word
 deriving DecidableEq
@[reducible] def aD.d(x:aD):D:=.agg [I x.at_,I x.src,I x.seq,I x.sent,I x.kind,I x.opat,I x.cut,.sl 5 (x.words.map Word.d)]
structure aN where
 sources:Int
 langs:Int
 chunk:Int
 quiet:Int
 late:Int
 gap:Int
 most:Int
 grams:List aO
 terms:List Term
 house:List bE
 budgets:List aJ
 trades:List bo
 viewers:List bL
 visits:List aT
 heard:List aD
 deriving DecidableEq
@[reducible] def aN.d(x:aN):D:=.agg [I x.sources,I x.langs,I x.chunk,I x.quiet,I x.late,I x.gap,I x.most,.sl 6 (x.grams.map aO.d),.sl 8 (x.terms.map Term.d),.sl 10 (x.house.map bE.d),.sl 5 (x.budgets.map aJ.d),.sl 7 (x.trades.map bo.d),.sl 14 (x.viewers.map bL.d),.sl 4 (x.visits.map aT.d),.sl 8 (x.heard.map aD.d)]
theorem AM{α:Type}{f:α->D}(h:∀x,(f x).pure=true):∀l:List α,D.aF (l.map f)=true
 |[]=>rfl
 |x::l=>by simp[D.aF,h x,AM h l]
theorem wr(n:Int)(h1: -9223372036854775808<=n)(h2:n<=9223372036854775807):IntKind.i64.wrap n=n:=wrap_i64 oM oM
def aL(n lo hi:Int):Bool:=decide (lo<=n)&&decide (n<=hi)
def gv{α:Type}(k:α->Int):List α->Bool
 |[]=>true
 |[_]=>true
 |x::y::l=>decide (k x<k y)&&gv k (y::l)
def fD{α:Type}(p:α->Bool)(k:α->Int):Int->List α->Bool
 |_,[]=>true
 |last,x::l=>p x&&decide (last<k x)&&fD p k (k x) l
def jM{α:Type}(k:α->Int):Int->List α->Int
 |a,[]=>a
 |_,x::l=>jM k (k x) l
theorem r_{α:Type}{k:α->Int}{x:α}:∀ {l:List α} {a:Int},jM k a (l++[x])=k x
 |[],_=>rfl
 |_::l,_=>r_ (l:=l)
theorem qW{α:Type}{p:α->Bool}{k:α->Int}:∀ {l:List α} {a:Int} {j:Nat} {x:α},l[j]? =some x->fD p k a l=(fD p k a (l.take j)&&p x&&decide (jM k a (l.take j)<k x)&&fD p k (k x) (l.drop (j+1)))
 |[],_,j,x,h=>by simp at h
 |y::l,a,0,x,h=>by simp at h;subst h;simp[fD,jM]
 |y::l,a,j+1,x,h=>by
  have ih:=qW (p:=p) (k:=k) (a:=k y) (show l[j]? =some x by simpa using h);simp only[fD,List.take_succ_cons,List.drop_succ_cons,jM,ih,Bool.and_assoc]
theorem nh{α:Type}{k:α->Int}{a:Int}{l:List α}{j:Nat}{x:α}(h:l[j]? =some x):jM k a (l.take (j+1))=k x:=by
 rw[List.take_add_one,h];exact r_
theorem qU{α:Type}{p:α->Bool}{k:α->Int}{a:Int}{l:List α}{j:Nat}{x:α}(h:l[j]? =some x)(hn:p x=false\/k x<=jM k a (l.take j)):fD p k a l=false:=by
 rw[qW h];rcases hn with hn|hn
 ·simp[hn]
 ·rw[decide_eq_false oM,Bool.and_false,Bool.false_and]
theorem qV{α:Type}{p:α->Bool}{k:α->Int}{a:Int}{l:List α}{j:Nat}{x:α}(h:l[j]? =some x)(h1:fD p k a (l.take j)=true)(h2:p x=true)(h3:jM k a (l.take j)<k x):fD p k a (l.take (j+1))=true:=by
 have hx:(l.take (j+1))[j]? =some x:=by
  have:=(List.getElem?_eq_some_iff.1 h).1;rw[List.getElem?_take_of_lt oM];exact h
 rw[qW hx,List.take_take,Nat.min_eq_left oM,h1,h2,decide_eq_true h3,List.drop_eq_nil_of_le (by simp;omega)];rfl
theorem tw{α:Type}{k:α->Int}:∀ {l:List α},gv k l=true<->∀i x y,l[i]? =some x->l[i+1]? =some y->k x<k y
 |[]=>⟨fun _ i x y h=>by simp at h,fun _=>rfl⟩
 |[a]=>⟨fun _ i x y _ h=>by simp at h,fun _=>rfl⟩
 |a::b::l=>by
  rw[gv,Bool.and_eq_true,decide_eq_true_eq,tw (l:=b::l)];constructor
  ·rintro⟨h1,h2⟩ i x y hx hy;cases i with
   |zero=>simp at hx hy;subst hx;subst hy;exact h1
   |succ i=>exact h2 i x y (by simpa using hx) (by simpa using hy)
  ·intro h;exact⟨h 0 a b rfl rfl,fun i x y hx hy=>h (i+1) x y (by simpa using hx) (by simpa using hy)⟩
theorem wv{α:Type}{k:α->Int}{l:List α}{j:Nat}{x y:α}(hx:l[j]? =some x)(hy:l[j+1]? =some y)(h:k y<=k x):gv k l=false:=by
 cases hb:gv k l with
 |false=>rfl
 |true=>have:=tw.1 hb j x y hx hy;omega
theorem rk{α:Type}{k:α->Int}{l:List α}{j:Nat}{x y:α}(hx:l[j]? =some x)(hy:l[j+1]? =some y)(h1:gv k (l.take (j+1))=true)(h:k x<k y):gv k (l.take (j+1+1))=true:=by
 refine tw.2 fun i a b ha hb=>?_;have hl:=(List.getElem?_eq_some_iff.1 hb).1;rw[List.length_take]at hl;rw[List.getElem?_take_of_lt oM]at ha hb;by_cases hi:i=j
 ·subst hi;rw[hx]at ha;rw[hy]at hb;injection ha with ha;injection hb with hb;subst ha;subst hb;exact h
 ·exact tw.1 h1 i a b (by rw[List.getElem?_take_of_lt oM];exact ha) (by rw[List.getElem?_take_of_lt oM];exact hb)
theorem nQ{α:Type}{k:α->Int}(l:List α):gv k (l.take 1)=true:=by
 cases l with
 |nil=>rfl
 |cons a l=>rfl
def jR(f u:Int):Bool:=decide (0<=f)&&decide (f<u)&&decide (u<=1099511627776)
def jZ(h:bE):Bool:=aL h.no 0 1048576&&aL h.kind 1 5
def ll(h:bE):Bool:=jR h.first h.last&&jR h.from_ h.until_&&aL h.known 0 1099511627775
def lp(h:bE):Bool:=decide (h.kind=3)&&aL h.ms 1 1073741824|| !decide (h.kind=3)&&decide (h.ms=0)
def eN(h:bE):Bool:=jZ h&&aL h.sp (-1) 63&&aL h.lang (-1) 31&&ll h&&lp h
theorem fP(n a b:Int):aq Tryz.prog 280 [I n,I a,I b] (.bool (aL n a b)):=by
 refine av mixed (fn:=Tryz.f280) (tab:=[]) ?_ rfl aj rfl;refine aw _ [.tmp 6] _ rfl rfl rfl aj ?_;repeat' (first|with_reducible refine ar (fun _=>?_) (fun _=>?_)|with_reducible refine an (fun _=>?_) (fun _=>?_)|simp(disch:=omega) only[go_sem, *])
 all_goals first|exact .refl _|(refine ab (congrArg D.bool ?_);first|(simp(disch:=omega) [*,aL];done)|(simp[aL]at *;omega)|(rw[Bool.eq_iff_iff];simp[aL]at *;omega))
theorem Cr(f u:Int):aq Tryz.prog 284 [I f,I u] (.bool (jR f u)):=by
 refine av mixed (fn:=Tryz.f284) (tab:=[]) ?_ rfl aj rfl;refine aw _ [.tmp 4] _ rfl rfl rfl aj ?_;repeat' (first|with_reducible refine ar (fun _=>?_) (fun _=>?_)|with_reducible refine an (fun _=>?_) (fun _=>?_)|simp(disch:=omega) only[go_sem, *])
 all_goals first|exact .refl _|(refine ab (congrArg D.bool ?_);first|(simp(disch:=omega) [*,jR];done)|(simp[jR]at *;omega)|(rw[Bool.eq_iff_iff];simp[jR]at *;omega))
theorem IW(h:bE):aq Tryz.prog 279 [h.d] (.bool (jZ h)):=by
 refine av mixed (fn:=Tryz.f279) (tab:=[]) ?_ rfl aj rfl;refine aw _ [.tmp 2] _ rfl rfl rfl aj ?_;repeat' (first|with_reducible refine ar (fun _=>?_) (fun _=>?_)|with_reducible refine an (fun _=>?_) (fun _=>?_)|with_reducible refine br (fP _ _ _) sG ?_|with_reducible refine bw (fP _ _ _) sG ?_|simp(disch:=omega) only[go_sem, *,bE.d])
 all_goals first|exact .refl _|(refine ab (congrArg D.bool ?_);first|(simp(disch:=omega) [*,jZ];done)|(simp[jZ]at *;omega)|(rw[Bool.eq_iff_iff];simp[jZ]at *;omega))
theorem IX(h:bE):aq Tryz.prog 281 [h.d] (.bool (aL h.sp (-1) 63)):=by
 refine av mixed (fn:=Tryz.f281) (tab:=[]) ?_ rfl aj rfl;refine aw _ [.tmp 2] _ rfl rfl rfl aj ?_;repeat' (first|with_reducible refine ar (fun _=>?_) (fun _=>?_)|with_reducible refine an (fun _=>?_) (fun _=>?_)|with_reducible refine br (fP _ _ _) sG ?_|with_reducible refine bw (fP _ _ _) sG ?_|simp(disch:=omega) only[go_sem, *,bE.d])
 all_goals first|exact .refl _|(refine ab (congrArg D.bool ?_);first|(simp(disch:=omega) [*,];done)|(simp[]at *;omega)|(rw[Bool.eq_iff_iff];simp[]at *;omega))
theorem IY(h:bE):aq Tryz.prog 282 [h.d] (.bool (aL h.lang (-1) 31)):=by
 refine av mixed (fn:=Tryz.f282) (tab:=[]) ?_ rfl aj rfl;refine aw _ [.tmp 2] _ rfl rfl rfl aj ?_;repeat' (first|with_reducible refine ar (fun _=>?_) (fun _=>?_)|with_reducible refine an (fun _=>?_) (fun _=>?_)|with_reducible refine br (fP _ _ _) sG ?_|with_reducible refine bw (fP _ _ _) sG ?_|simp(disch:=omega) only[go_sem, *,bE.d])
 all_goals first|exact .refl _|(refine ab (congrArg D.bool ?_);first|(simp(disch:=omega) [*,];done)|(simp[]at *;omega)|(rw[Bool.eq_iff_iff];simp[]at *;omega))
theorem IZ(h:bE):aq Tryz.prog 283 [h.d] (.bool (ll h)):=by
 refine av mixed (fn:=Tryz.f283) (tab:=[]) ?_ rfl aj rfl;refine aw _ [.tmp 2] _ rfl rfl rfl aj ?_;repeat' (first|with_reducible refine ar (fun _=>?_) (fun _=>?_)|with_reducible refine an (fun _=>?_) (fun _=>?_)|with_reducible refine br (fP _ _ _) sG ?_|with_reducible refine bw (fP _ _ _) sG ?_|with_reducible refine br (Cr _ _) sG ?_|with_reducible refine bw (Cr _ _) sG ?_|simp(disch:=omega) only[go_sem, *,bE.d])
 all_goals first|exact .refl _|(refine ab (congrArg D.bool ?_);first|(simp(disch:=omega) [*,ll];done)|(simp[ll]at *;omega)|(rw[Bool.eq_iff_iff];simp[ll]at *;omega))
theorem I0(h:bE):aq Tryz.prog 285 [h.d] (.bool (lp h)):=by
 refine av mixed (fn:=Tryz.f285) (tab:=[]) ?_ rfl aj rfl;refine aw _ [.tmp 2] _ rfl rfl rfl aj ?_;repeat' (first|with_reducible refine ar (fun _=>?_) (fun _=>?_)|with_reducible refine an (fun _=>?_) (fun _=>?_)|with_reducible refine br (fP _ _ _) sG ?_|with_reducible refine bw (fP _ _ _) sG ?_|simp(disch:=omega) only[go_sem, *,bE.d])
 all_goals first|exact .refl _|(refine ab (congrArg D.bool ?_);first|(simp(disch:=omega) [*,lp];done)|(simp[lp]at *;omega)|(rw[Bool.eq_iff_iff];simp[lp]at *;omega))
def k_:D:=.agg [.fn (.func 279) [],.fn (.func 281) [],.fn (.func 282) [],.fn (.func 283) [],.fn (.func 285) []]
theorem Jv:aq Tryz.prog 233 [] k_:=by
 refine av mixed (fn:=Tryz.f233) (tab:=[]) ?_ rfl aj rfl;refine aw _ [.cell 0 318] _ rfl rfl rfl aj ?_;simp(disch:=omega) only[go_sem];exact .refl _
def kd(h:bE):List Bool:=[jZ h,aL h.sp (-1) 63,aL h.lang (-1) 31,ll h,lp h]
theorem zZ(h:bE):aq Tryz.prog 179 [h.d] (.bool (eN h)):=by
 refine av mixed (fn:=Tryz.f179) (tab:=[]) ?_ rfl aj rfl;refine aw _ [.tmp 2] _ rfl rfl rfl aj ?_;simp(disch:=omega) only[go_sem,bE.d];refine au Jv sG ?_;simp(disch:=omega) only[go_sem,k_];refine aX 5 (fun k σ bx=>σ 1= .loc 1 1 0 0/\bx 1=⟨1,1,10,196,[h.d]⟩/\σ 5=k_/\σ 6=I k/\((kd h).take k).all id=true) ?_ ?_ ?_
 ·simp[go_sem,aR,ao,Bx.none,k_]
 ·rintro k σ bx hk ⟨h1,b1,h5,h6,hn⟩;obtain rfl|rfl|rfl|rfl|rfl:k=0\/k=1\/k=2\/k=3\/k=4:=oM
  ·have h6:σ 6=I 0:=h6;repeat' (first|with_reducible refine ar (fun _=>?_) (fun _=>?_)|with_reducible refine an (fun _=>?_) (fun _=>?_)|with_reducible refine br (IW h) sG ?_|with_reducible refine bw (IW h) sG ?_|simp(disch:=omega) only[go_sem, *,k_,bE.d,h1,b1,h5,h6])
   ·simp_all[kd,wr]
   ·refine ab (congrArg D.bool ?_);simp_all[eN,kd]
  ·have h6:σ 6=I 1:=h6;repeat' (first|with_reducible refine ar (fun _=>?_) (fun _=>?_)|with_reducible refine an (fun _=>?_) (fun _=>?_)|with_reducible refine br (IX h) sG ?_|with_reducible refine bw (IX h) sG ?_|simp(disch:=omega) only[go_sem, *,k_,bE.d,h1,b1,h5,h6])
   ·simp_all[kd,wr]
   ·refine ab (congrArg D.bool ?_);simp_all[eN,kd]
  ·have h6:σ 6=I 2:=h6;repeat' (first|with_reducible refine ar (fun _=>?_) (fun _=>?_)|with_reducible refine an (fun _=>?_) (fun _=>?_)|with_reducible refine br (IY h) sG ?_|with_reducible refine bw (IY h) sG ?_|simp(disch:=omega) only[go_sem, *,k_,bE.d,h1,b1,h5,h6])
   ·simp_all[kd,wr]
   ·refine ab (congrArg D.bool ?_);simp_all[eN,kd]
  ·have h6:σ 6=I 3:=h6;repeat' (first|with_reducible refine ar (fun _=>?_) (fun _=>?_)|with_reducible refine an (fun _=>?_) (fun _=>?_)|with_reducible refine br (IZ h) sG ?_|with_reducible refine bw (IZ h) sG ?_|simp(disch:=omega) only[go_sem, *,k_,bE.d,h1,b1,h5,h6])
   ·simp_all[kd,wr]
   ·refine ab (congrArg D.bool ?_);simp_all[eN,kd]
  ·have h6:σ 6=I 4:=h6;repeat' (first|with_reducible refine ar (fun _=>?_) (fun _=>?_)|with_reducible refine an (fun _=>?_) (fun _=>?_)|with_reducible refine br (I0 h) sG ?_|with_reducible refine bw (I0 h) sG ?_|simp(disch:=omega) only[go_sem, *,k_,bE.d,h1,b1,h5,h6])
   ·simp_all[kd,wr]
   ·refine ab (congrArg D.bool ?_);simp_all[eN,kd]
 ·rintro σ bx ⟨h1,b1,h5,h6,hn⟩;have h6:σ 6=I 5:=h6;repeat' (first|with_reducible refine ar (fun _=>?_) (fun _=>?_)|with_reducible refine an (fun _=>?_) (fun _=>?_)|simp(disch:=omega) only[go_sem, *,h6])
  refine ab (congrArg D.bool ?_);simp_all[kd,eN]
def fV(l:List bE):Int:=if 1024<l.length then 2 else if fD eN bE.no (-1) l then 0 else 350
theorem HA(l:List bE):aq Tryz.prog 127 [.sl 10 (l.map bE.d)] (I (fV l)):=by
 refine av mixed (fn:=Tryz.f127) (tab:=[]) ?_ rfl aj rfl;refine aw _ [.tmp 2] _ rfl rfl rfl aj ?_;simp(disch:=omega) only[go_sem];refine ar (fun h1=>?_) (fun h1=>?_)
 ·simp(disch:=omega) only[go_sem];exact ab (congrArg I (by unfold fV;rw[if_pos oM]))
 have hle:l.length<=1024:=oM;have e:fV l=if fD eN bE.no (-1) l then 0 else 350:=by unfold fV;rw[if_neg oM]
 rw[e];simp(disch:=omega) only[go_sem];refine aX l.length (fun k σ bx=>σ 9= .sl 10 (l.map bE.d)/\σ 10=I l.length/\σ 11=I k/\σ 3=I (jM bE.no (-1) (l.take k))/\fD eN bE.no (-1) (l.take k)=true) ?_ ?_ ?_
 ·simp[go_sem,aR,ao,jM,fD]
 ·rintro k σ bx hk ⟨q9,q10,q11,q3,hn⟩;obtain⟨x,hx⟩:=aP hk;have hlt:(k:Int)<(l.length:Int):=oM;repeat' (first|with_reducible refine ar (fun _=>?_) (fun _=>?_)|with_reducible refine an (fun _=>?_) (fun _=>?_)|with_reducible refine br (zZ x) sG ?_|with_reducible refine bw (zZ x) sG ?_|simp(disch:=omega) only[go_sem, *,q9,q10,q11,q3,hlt,hx,bE.d])
  all_goals first|exact ab (congrArg I (by rw[qU hx (by first|exact .inl (by assumption)|exact .inr (by assumption))];rfl))|(rw[aK oM];exact⟨rfl,by rw[nh hx],qV hx hn (by assumption) oM⟩)
 ·rintro σ bx ⟨q9,q10,q11,q3,hn⟩;have hlt:¬(l.length:Int)<(l.length:Int):=oM;simp(disch:=omega) only[go_sem,q10,q11,hlt];rw[List.take_length]at hn;exact ab (congrArg I (by rw[hn];rfl))
theorem vV(n:Int):aq Tryz.prog 248 [I n] (.bool (aL n 0 63)):=by
 refine av mixed (fn:=Tryz.f248) (tab:=[]) ?_ rfl aj rfl;refine aw _ [.tmp 2] _ rfl rfl rfl aj ?_;repeat' (first|with_reducible refine ar (fun _=>?_) (fun _=>?_)|with_reducible refine an (fun _=>?_) (fun _=>?_)|simp(disch:=omega) only[go_sem, *])
 all_goals first|exact .refl _|(refine ab (congrArg D.bool ?_);first|(simp(disch:=omega) [*,aL];done)|(simp[aL]at *;omega)|(rw[Bool.eq_iff_iff];simp[aL]at *;omega))
theorem CN(n:Int):aq Tryz.prog 249 [I n] (.bool (aL n 0 31)):=by
 refine av mixed (fn:=Tryz.f249) (tab:=[]) ?_ rfl aj rfl;refine aw _ [.tmp 2] _ rfl rfl rfl aj ?_;repeat' (first|with_reducible refine ar (fun _=>?_) (fun _=>?_)|with_reducible refine an (fun _=>?_) (fun _=>?_)|simp(disch:=omega) only[go_sem, *])
 all_goals first|exact .refl _|(refine ab (congrArg D.bool ?_);first|(simp(disch:=omega) [*,aL];done)|(simp[aL]at *;omega)|(rw[Bool.eq_iff_iff];simp[aL]at *;omega))
theorem CP(n:Int):aq Tryz.prog 251 [I n] (.bool (aL n 0 1099511627775)):=by
 refine av mixed (fn:=Tryz.f251) (tab:=[]) ?_ rfl aj rfl;refine aw _ [.tmp 2] _ rfl rfl rfl aj ?_;repeat' (first|with_reducible refine ar (fun _=>?_) (fun _=>?_)|with_reducible refine an (fun _=>?_) (fun _=>?_)|simp(disch:=omega) only[go_sem, *])
 all_goals first|exact .refl _|(refine ab (congrArg D.bool ?_);first|(simp(disch:=omega) [*,aL];done)|(simp[aL]at *;omega)|(rw[Bool.eq_iff_iff];simp[aL]at *;omega))
theorem CO(f u:Int):aq Tryz.prog 250 [I f,I u] (.bool (jR f u)):=by
 refine av mixed (fn:=Tryz.f250) (tab:=[]) ?_ rfl aj rfl;refine aw _ [.tmp 4] _ rfl rfl rfl aj ?_;repeat' (first|with_reducible refine ar (fun _=>?_) (fun _=>?_)|with_reducible refine an (fun _=>?_) (fun _=>?_)|simp(disch:=omega) only[go_sem, *])
 all_goals first|exact .refl _|(refine ab (congrArg D.bool ?_);first|(simp(disch:=omega) [*,jR];done)|(simp[jR]at *;omega)|(rw[Bool.eq_iff_iff];simp[jR]at *;omega))
set_option maxHeartbeats 4000000 in
theorem o7(h:bE):aq Tryz.prog 201 [h.d] (.bool (eN h)):=by
 refine av mixed (fn:=Tryz.f201) (tab:=[]) ?_ rfl aj rfl;refine aw _ [.tmp 2] _ rfl rfl rfl aj ?_;repeat' (first|with_reducible refine ar (fun _=>?_) (fun _=>?_)|with_reducible refine an (fun _=>?_) (fun _=>?_)|with_reducible refine br (vV _) sG ?_|with_reducible refine bw (vV _) sG ?_|with_reducible refine br (CN _) sG ?_|with_reducible refine bw (CN _) sG ?_|with_reducible refine br (CP _) sG ?_|with_reducible refine bw (CP _) sG ?_|with_reducible refine br (CO _ _) sG ?_|with_reducible refine bw (CO _ _) sG ?_|simp(disch:=omega) only[go_sem, *,bE.d])
 all_goals first|exact .refl _|(refine ab (congrArg D.bool ?_);first|(simp(disch:=omega) [*,eN,jZ,ll,lp,aL,jR];done)|(simp[eN,jZ,ll,lp,aL,jR]at *;omega)|(rw[Bool.eq_iff_iff];simp[eN,jZ,ll,lp,aL,jR]at *;omega))
theorem HC{h:bE}(hb:eN h=true):0<=h.no:=by
 simp[eN,jZ,aL]at hb;omega
theorem F_(l:List bE):aq Tryz.prog 142 [.sl 10 (l.map bE.d)] (I (fV l)):=by
 refine av mixed (fn:=Tryz.f142) (tab:=[]) ?_ rfl aj rfl;refine aw _ [.tmp 2] _ rfl rfl rfl aj ?_;simp(disch:=omega) only[go_sem];refine ar (fun h1=>?_) (fun h1=>?_)
 ·simp(disch:=omega) only[go_sem];exact ab (congrArg I (by unfold fV;rw[if_pos oM]))
 have hle:l.length<=1024:=oM;have e:fV l=if fD eN bE.no (-1) l then 0 else 350:=by unfold fV;rw[if_neg oM]
 rw[e];simp(disch:=omega) only[go_sem];refine aX l.length (fun k σ bx=>σ 0= .sl 10 (l.map bE.d)/\σ 3=I k/\fD eN bE.no (-1) (l.take k)=true) ?_ ?_ ?_
 ·simp[go_sem,aR,ao,fD]
 ·rintro k σ bx hk ⟨q0,q3,hn⟩;obtain⟨x,hx⟩:=aP hk;have hlt:(k:Int)<(l.length:Int):=oM;rcases k with _|k
  ·have q3:σ 3=I 0:=q3;have hlt:(0:Int)<(l.length:Int):=oM;repeat' (first|with_reducible refine ar (fun _=>?_) (fun _=>?_)|with_reducible refine an (fun _=>?_) (fun _=>?_)|with_reducible refine br (o7 x) sG ?_|with_reducible refine bw (o7 x) sG ?_|simp(disch:=omega) only[go_sem, *,q0,q3,hlt,hx,bE.d])
   ·exact⟨congrArg I (wr 1 oM oM),qV hx hn (by assumption) (by have:=HC (by assumption);simp[jM];omega)⟩
   ·exact ab (congrArg I (by rw[qU hx (.inl (by assumption))];rfl))
  ·obtain⟨y,hy⟩:=aP (show k<l.length by omega);have h1:IntKind.i64.wrap (((k+1:Nat):Int) - 1)=(k:Int):=by rw[wr _ oM oM];omega
   have h0:(0:Int)<((k+1:Nat):Int):=oM;repeat' (first|with_reducible refine ar (fun _=>?_) (fun _=>?_)|with_reducible refine an (fun _=>?_) (fun _=>?_)|with_reducible refine br (o7 x) sG ?_|with_reducible refine bw (o7 x) sG ?_|simp(disch:=omega) only[go_sem, *,q0,q3,hlt,hx,hy,h0,h1,bE.d])
   ·exact ab (congrArg I (by rw[qU hx (.inr (by rw[nh hy];assumption))];rfl))
   ·rw[aK oM];exact⟨rfl,qV hx hn (by assumption) (by rw[nh hy];omega)⟩
   ·exact ab (congrArg I (by rw[qU hx (.inl (by assumption))];rfl))
 ·rintro σ bx ⟨q0,q3,hn⟩;have hlt:¬(l.length:Int)<(l.length:Int):=oM;simp(disch:=omega) only[go_sem,q0,q3,hlt];rw[List.take_length]at hn;exact ab (congrArg I (by rw[hn];rfl))
section
variable {f:FuncId} {caps:List D}
theorem L8{p:Int->Bool}(l:List Int)(hl:l.length<=140737488355328)(hf:∀x∈l,aq Tryz.prog f ((D.int .i64) x::caps) (.bool (p x)))(hp:∀x:Int,D.aF ((D.int .i64) x::caps)=true):
 aq Tryz.prog 286 [.sl 1 (l.map (D.int .i64)),.fn (.func f) caps] (I (dw p l)):=by
 refine av mixed (fn:=Tryz.f286) (tab:=[]) ?_ rfl aj rfl;refine aw _ [.tmp 4] _ rfl rfl rfl aj ?_;simp(disch:=omega) only[go_sem];refine aX l.length (fun j σ bx'=>σ 0= .sl 1 (l.map (D.int .i64))/\σ 1= .fn (.func f) caps/\σ 7=I l.length/\σ 8=I j/\(l.take j).any p=false) (by simp[go_sem,aR]) ?_ ?_
 ·rintro j σ bx' hj ⟨h0,h1,h7,h8,hn⟩;obtain⟨x,hx⟩:=aP hj;have hlt:(j:Int)<(l.length:Int):=oM;simp(disch:=omega) only[go_sem,h0,h1,h7,h8,hlt,hx];refine au (hf x (List.mem_of_getElem? hx)) (hp x) ?_;simp(disch:=omega) only[go_sem,h0,h1,h7,h8,hlt,hx];refine an (fun hc=>?_) (fun hc=>?_)
  ·simp(disch:=omega) only[go_sem,h0,h1,h7,h8];exact ab (congrArg I (iP hn hx hc).symm)
  ·simp(disch:=omega) only[go_sem,h0,h1,h7,h8];rw[aK oM];exact⟨rfl,gX hn hx hc⟩
 ·rintro σ bx' ⟨h0,h1,h7,h8,hn⟩;have hlt:¬(l.length:Int)<(l.length:Int):=oM;simp(disch:=omega) only[go_sem,h0,h1,h7,h8,hlt];rw[List.take_length]at hn;exact ab (congrArg I (fW hn).symm)
theorem Fo{p:Int->Bool}(l:List Int)(hl:l.length<=140737488355328)(hf:∀x∈l,aq Tryz.prog f ((D.int .i64) x::caps) (.bool (p x)))(hp:∀x:Int,D.aF ((D.int .i64) x::caps)=true)(hq:D.aF [.sl 1 (l.map (D.int .i64)),.fn (.func f) caps]=true):
 aq Tryz.prog 236 [.sl 1 (l.map (D.int .i64)),.fn (.func f) caps] (.bool (l.any p)):=by
 refine av mixed (fn:=Tryz.f236) (tab:=[]) ?_ rfl aj rfl;refine aw _ [.tmp 4] _ rfl rfl rfl aj ?_;simp(disch:=omega) only[go_sem];refine au (L8 l hl hf hp) hq ?_;simp(disch:=omega) only[go_sem];exact ab (congrArg D.bool (fR p l))
theorem JM{p:aJ->Bool}(l:List aJ)(hl:l.length<=140737488355328)(hf:∀x∈l,aq Tryz.prog f (aJ.d x::caps) (.bool (p x)))(hp:∀x:aJ,D.aF (aJ.d x::caps)=true):
 aq Tryz.prog 234 [.sl 5 (l.map aJ.d),.fn (.func f) caps] (I (dw p l)):=by
 refine av mixed (fn:=Tryz.f234) (tab:=[]) ?_ rfl aj rfl;refine aw _ [.tmp 4] _ rfl rfl rfl aj ?_;simp(disch:=omega) only[go_sem];refine aX l.length (fun j σ bx'=>σ 0= .sl 5 (l.map aJ.d)/\σ 1= .fn (.func f) caps/\σ 7=I l.length/\σ 8=I j/\(l.take j).any p=false) (by simp[go_sem,aR]) ?_ ?_
 ·rintro j σ bx' hj ⟨h0,h1,h7,h8,hn⟩;obtain⟨x,hx⟩:=aP hj;have hlt:(j:Int)<(l.length:Int):=oM;simp(disch:=omega) only[go_sem,h0,h1,h7,h8,hlt,hx,aJ.d];refine au (hf x (List.mem_of_getElem? hx)) (hp x) ?_;simp(disch:=omega) only[go_sem,h0,h1,h7,h8,hlt,hx,aJ.d];refine an (fun hc=>?_) (fun hc=>?_)
  ·simp(disch:=omega) only[go_sem,h0,h1,h7,h8];exact ab (congrArg I (iP hn hx hc).symm)
  ·simp(disch:=omega) only[go_sem,h0,h1,h7,h8];rw[aK oM];exact⟨rfl,gX hn hx hc⟩
 ·rintro σ bx' ⟨h0,h1,h7,h8,hn⟩;have hlt:¬(l.length:Int)<(l.length:Int):=oM;simp(disch:=omega) only[go_sem,h0,h1,h7,h8,hlt];rw[List.take_length]at hn;exact ab (congrArg I (fW hn).symm)
theorem JG{p:aJ->Bool}(l:List aJ)(hl:l.length<=140737488355328)(hf:∀x∈l,aq Tryz.prog f (aJ.d x::caps) (.bool (p x)))(hp:∀x:aJ,D.aF (aJ.d x::caps)=true)(hq:D.aF [.sl 5 (l.map aJ.d),.fn (.func f) caps]=true):
 aq Tryz.prog 181 [.sl 5 (l.map aJ.d),.fn (.func f) caps] (.bool (l.any p)):=by
 refine av mixed (fn:=Tryz.f181) (tab:=[]) ?_ rfl aj rfl;refine aw _ [.tmp 4] _ rfl rfl rfl aj ?_;simp(disch:=omega) only[go_sem];refine au (JM l hl hf hp) hq ?_;simp(disch:=omega) only[go_sem];exact ab (congrArg D.bool (fR p l))
theorem JN{p:eB->Bool}(l:List eB)(hl:l.length<=140737488355328)(hf:∀x∈l,aq Tryz.prog f (eB.d x::caps) (.bool (p x)))(hp:∀x:eB,D.aF (eB.d x::caps)=true):
 aq Tryz.prog 323 [.sl 4 (l.map eB.d),.fn (.func f) caps] (I (dw p l)):=by
 refine av mixed (fn:=Tryz.f323) (tab:=[]) ?_ rfl aj rfl;refine aw _ [.tmp 4] _ rfl rfl rfl aj ?_;simp(disch:=omega) only[go_sem];refine aX l.length (fun j σ bx'=>σ 0= .sl 4 (l.map eB.d)/\σ 1= .fn (.func f) caps/\σ 7=I l.length/\σ 8=I j/\(l.take j).any p=false) (by simp[go_sem,aR]) ?_ ?_
 ·rintro j σ bx' hj ⟨h0,h1,h7,h8,hn⟩;obtain⟨x,hx⟩:=aP hj;have hlt:(j:Int)<(l.length:Int):=oM;simp(disch:=omega) only[go_sem,h0,h1,h7,h8,hlt,hx,eB.d];refine au (hf x (List.mem_of_getElem? hx)) (hp x) ?_;simp(disch:=omega) only[go_sem,h0,h1,h7,h8,hlt,hx,eB.d];refine an (fun hc=>?_) (fun hc=>?_)
  ·simp(disch:=omega) only[go_sem,h0,h1,h7,h8];exact ab (congrArg I (iP hn hx hc).symm)
  ·simp(disch:=omega) only[go_sem,h0,h1,h7,h8];rw[aK oM];exact⟨rfl,gX hn hx hc⟩
 ·rintro σ bx' ⟨h0,h1,h7,h8,hn⟩;have hlt:¬(l.length:Int)<(l.length:Int):=oM;simp(disch:=omega) only[go_sem,h0,h1,h7,h8,hlt];rw[List.take_length]at hn;exact ab (congrArg I (fW hn).symm)
theorem JH{p:eB->Bool}(l:List eB)(hl:l.length<=140737488355328)(hf:∀x∈l,aq Tryz.prog f (eB.d x::caps) (.bool (p x)))(hp:∀x:eB,D.aF (eB.d x::caps)=true)(hq:D.aF [.sl 4 (l.map eB.d),.fn (.func f) caps]=true):
 aq Tryz.prog 293 [.sl 4 (l.map eB.d),.fn (.func f) caps] (.bool (l.any p)):=by
 refine av mixed (fn:=Tryz.f293) (tab:=[]) ?_ rfl aj rfl;refine aw _ [.tmp 4] _ rfl rfl rfl aj ?_;simp(disch:=omega) only[go_sem];refine au (JN l hl hf hp) hq ?_;simp(disch:=omega) only[go_sem];exact ab (congrArg D.bool (fR p l))
end
section
variable {f:FuncId} {caps:List D} {n0 k:Nat} {bx0:ae}
theorem JP{dom:bo->Prop}{p:bo->Bool}(hf:bC f caps n0 k bx0 bo.d dom p)(hn:n0<=k)(l:List bo)(hl:l.length<=140737488355328)(hd:∀x∈l,dom x)(bx:ae)(hb:∀s,s<n0->bx s=bx0 s):
 iI Tryz.prog (bK Tryz.prog) [] Tryz.f238 0 [.sl 7 (l.map bo.d),.fn (.func f) caps] bx (fun d bx'=>d= .int .i64 (dw p l)/\∀s,s<k->bx' s=bx s) (fun _ _=>False):=by
 refine aH _ [.tmp 4] 19 rfl rfl rfl aj ?_;simp(disch:=omega) only[go_sem];refine aX l.length (fun j σ bx'=>σ 0= .sl 7 (l.map bo.d)/\σ 1= .fn (.func f) caps/\σ 7= .int .i64 l.length/\σ 8= .int .i64 j/\(l.take j).any p=false/\∀s,s<k->bx' s=bx s)
  ⟨by simp[go_sem,aR],by simp[go_sem,aR],by simp[go_sem],by simp[go_sem],by simp,fun _ _=>rfl⟩ ?_ ?_
 ·rintro j σ bx' hj ⟨h0,h1,h7,h8,hp,hk⟩;obtain⟨x,hx⟩:=aP hj;have hlt:(j:Int)<(l.length:Int):=oM;simp(disch:=omega) only[go_sem,h0,h1,h7,h8,hlt,hx,bo.d];refine aB (hf bx' x (fun s hs=>(hk s oM).trans (hb s hs)) (hd x (List.mem_of_getElem? hx))) rfl ?_;rintro d bx2 ⟨rfl,hk2⟩;simp(disch:=omega) only[go_sem,h0,h1,h7,h8,hlt,hx,bo.d];refine an (fun hc=>?_) (fun hc=>?_)
  ·simp(disch:=omega) only[go_sem,h0,h1,h7,h8];exact⟨by rw[iP hp hx hc],fun s hs=>(hk2 s hs).trans (hk s hs)⟩
  ·simp(disch:=omega) only[go_sem,h0,h1,h7,h8];rw[aK oM];exact⟨rfl,gX hp hx hc,fun s hs=>(hk2 s hs).trans (hk s hs)⟩
 ·rintro σ bx' ⟨h0,h1,h7,h8,hp,hk⟩;have hlt:¬(l.length:Int)<(l.length:Int):=oM;simp(disch:=omega) only[go_sem,h0,h1,h7,h8,hlt];rw[List.take_length]at hp;exact⟨by rw[fW hp],hk⟩
theorem JO{dom:bo->Prop}{p:bo->Bool}(hf:bC f caps n0 k bx0 bo.d dom p)(hn:n0<=k)(l:List bo)(hl:l.length<=140737488355328)(hd:∀x∈l,dom x)(bx:ae)(hb:∀s,s<n0->bx s=bx0 s):
 aU Tryz.prog 238 0 [.sl 7 (l.map bo.d),.fn (.func f) caps] bx (fun d bx'=>d= .int .i64 (dw p l)/\∀s,s<k->bx' s=bx s) (fun _ _=>False):=aG mixed (JP hf hn l hl hd bx hb) rfl aj rfl
theorem JJ{dom:bo->Prop}{p:bo->Bool}(hf:bC f caps n0 k bx0 bo.d dom p)(hn:n0<=k)(l:List bo)(hl:l.length<=140737488355328)(hd:∀x∈l,dom x)(bx:ae)(hb:∀s,s<n0->bx s=bx0 s):
 iI Tryz.prog (bK Tryz.prog) [] Tryz.f186 0 [.sl 7 (l.map bo.d),.fn (.func f) caps] bx (fun d bx'=>d= .bool (l.any p)/\∀s,s<k->bx' s=bx s) (fun _ _=>False):=by
 refine aH _ [.tmp 4] 9 rfl rfl rfl aj ?_;simp(disch:=omega) only[go_sem];refine aB (JO hf hn l hl hd bx hb) rfl ?_;rintro d bx2 ⟨rfl,hk2⟩;simp(disch:=omega) only[go_sem];exact⟨by rw[fR],hk2⟩
theorem JI{dom:bo->Prop}{p:bo->Bool}(hf:bC f caps n0 k bx0 bo.d dom p)(hn:n0<=k)(l:List bo)(hl:l.length<=140737488355328)(hd:∀x∈l,dom x)(bx:ae)(hb:∀s,s<n0->bx s=bx0 s):
 aU Tryz.prog 186 0 [.sl 7 (l.map bo.d),.fn (.func f) caps] bx (fun d bx'=>d= .bool (l.any p)/\∀s,s<k->bx' s=bx s) (fun _ _=>False):=aG mixed (JJ hf hn l hl hd bx hb) rfl aj rfl
end
def jT(fm:Int->Option D)(es:List D):Prop:=∃l:List (Int×D×Int),es=l.map (fun e=> .tup [.int .i64 e.1,e.2.1,.int .i64 e.2.2])/\∀n,fm n=(l.find? fun e=>e.1==n).map (·.2.1)
theorem jT.nil:jT (fun _=>none) []:=⟨[],rfl,fun _=>rfl⟩
theorem zL(n:Int):∀(l:List (Int×D×Int)) (i:Nat),∃r,dt (.int .i64) (.int .i64 n) (l.map fun e=> .tup [.int .i64 e.1,e.2.1,.int .i64 e.2.2]) i=some r/\r.map (·.2)=(l.find? fun e=>e.1==n).map (·.2.1)/\∀j v,r=some (j,v)->i<=j/\∃e,l[j - i]? =some e/\e.1=n
 |[],i=>⟨none,rfl,rfl,fun _ _ h=>by cases h⟩
 |e::l,i=>by
  by_cases h:n=e.1
  ·refine⟨some (i,e.2.1),by simp[dt,je,h],by simp[h],fun j v hj=>?_⟩;injection hj with hj;injection hj with hj;subst hj;exact⟨Nat.le_refl _,e,by simp,h.symm⟩
  ·have hb:(n==e.1)=false:=by simpa using h
   have hb2:(e.1==n)=false:=by simpa using Ne.symm h
   obtain⟨r,h1,h2,h3⟩:=zL n l (i+1);refine⟨r,by simp only[List.map_cons,dt,je,hb];exact h1,by rw[h2,List.find?_cons,hb2],fun j v hj=>?_⟩;obtain⟨g1,e',g2,g3⟩:=h3 j v hj;refine⟨by omega,e',?_,g3⟩;rw[show j - i=(j - (i+1))+1 by omega];simpa using g2
theorem jT.find{fm:Int->Option D}{es:List D}(h:jT fm es)(n:Int):∃r,dt (.int .i64) (.int .i64 n) es 0=some r/\r.map (·.2)=fm n:=by
 obtain⟨l,rfl,hl⟩:=h;obtain⟨r,h1,h2,_⟩:=zL n l 0;exact⟨r,h1,h2.trans (hl n).symm⟩
theorem zM(n:Int)(v:D):∀(l:List (Int×D×Int)) (j:Nat) (e:Int×D×Int),l[j]? =some e->e.1=n->(∀i e',i<j->l[i]? =some e'->e'.1≠n)->∀m,((l.modify j fun e=>(n,v,e.2.2)).find? fun e=>e.1==m).map (·.2.1)=if m=n then some v else(l.find? fun e=>e.1==m).map (·.2.1)
 |[],j,e,h,_,_,m=>by simp at h
 |x::l,0,e,h,he,_,m=>by
  simp at h;subst h;by_cases hm:m=n
  ·simp[hm]
  ·have:(n==m)=false:=by simpa using Ne.symm hm
   simp[List.find?_cons,this,hm,he]
 |x::l,j+1,e,h,he,hn,m=>by
  have hx:=hn 0 x oM rfl;have ih:=zM n v l j e (by simpa using h) he (fun i e' hi h'=>hn (i+1) e' oM (by simpa using h')) m;by_cases hm:x.1=m
  ·subst hm;simp[List.find?_cons,hx]
  ·have:(x.1==m)=false:=by simpa using hm
   simp only[List.modify_succ_cons,List.find?_cons,this];exact ih
theorem Cf(n:Int)(v:D):∀(l:List (Int×D×Int)) (j:Nat),(l.map fun e=>D.tup [.int .i64 e.1,e.2.1,.int .i64 e.2.2]).modify j (uv (.int .i64 n) v)=(l.modify j fun e=>(n,v,e.2.2)).map fun e=> .tup [.int .i64 e.1,e.2.1,.int .i64 e.2.2]
 |[],j=>by simp
 |e::l,0=>by simp[uv]
 |e::l,j+1=>by simpa using Cf n v l j
theorem jT.ao{fm:Int->Option D}{es:List D}(h:jT fm es)(n:Int)(v:D)(c:Int):∃es' c',jW (.int .i64) (.int .i64 n) v c es=some (.int .i64 c'::es')/\jT (fun k=>if k=n then some v else fm k) es':=by
 obtain⟨l,rfl,hl⟩:=h;obtain⟨r,h1,h2,h3⟩:=zL n l 0;cases r with
 |none=>
  refine⟨l.map (fun e=> .tup [.int .i64 e.1,e.2.1,.int .i64 e.2.2])++[.tup [.int .i64 n,v,.int .i64 c]],c+1,by simp only[jW,h1],l++[(n,v,c)],by simp,fun m=>?_⟩;have hnf:l.find? (fun e=>e.1==n)=none:=by simpa using h2.symm
  by_cases hm:m=n
  ·subst hm;simp[List.find?_append,hnf]
  ·have:(n==m)=false:=by simpa using Ne.symm hm
   simp[List.find?_append,hm,hl m,this]
 |some q=>
  obtain⟨j,v0⟩:=q;obtain⟨_,e,g1,g2⟩:=h3 j v0 rfl;simp only[Nat.sub_zero]at g1;refine⟨_,c,by simp only[jW,h1];rfl,l.modify j fun e=>(n,v,e.2.2),?_,fun m=>?_⟩
  ·exact Cf n v l j
  ·show(if m=n then some v else fm m)=_;rw[hl m];refine(zM n v l j e g1 g2 (fun i e' hi h' hne=>?_) m).symm;have:∀(l:List (Int×D×Int)) (k j i:Nat) (v0:D) (e':Int×D×Int),dt (.int .i64) (.int .i64 n) (l.map fun e=> .tup [.int .i64 e.1,e.2.1,.int .i64 e.2.2]) k=some (some (k+j,v0))->l[i]? =some e'->e'.1=n->j<=i:=by
    intro l;induction l with
    |nil=>intro k j i v0 e' _ h;simp at h
    |cons x l ih=>
     intro k j i v0 e' hf hi he;by_cases hx:n=x.1
     ·simp[dt,je,hx]at hf;omega
     ·have hb:(n==x.1)=false:=by simpa using hx
      simp only[List.map_cons,dt,je,hb]at hf;cases i with
      |zero=>simp at hi;subst hi;exact absurd he.symm hx
      |succ i=>
       cases j with
       |zero=>omega
       |succ j=>
        have:=ih (k+1) j i v0 e' (by rw[show k+1+j=k+(j+1) by omega];exact hf) (by simpa using hi) he;omega
   have:=this l 0 j i v0 e' (by simpa using h1) h' hne;omega
end Go.V.St
