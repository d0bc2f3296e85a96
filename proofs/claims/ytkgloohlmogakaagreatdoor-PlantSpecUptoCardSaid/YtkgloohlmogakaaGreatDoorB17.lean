/- Lemmas on plain data and programs: part B17. -/
import Derived.Test.YtkgloohlmogakaaGreatDoorB12
set_option linter.all false
set_option maxHeartbeats 8000000
set_option maxRecDepth 100000
namespace Go.V.St
open Go.Proofs Go.RowKit Go.V.Lx Go.V.Gr Go.V.Ty
@[go_sem] def Tp(len esz size:Nat)(g ag:Bool)(z:List D)(t e i j:Nat)(n:Int)(h:0<=n)(h':n<len)(h1:1<len)(h2:0<esz):eY ⟨.arr len esz g,size,ag,z⟩ (.loc t e i j) n=some (.loc t e i (j+n.toNat * esz)):=by simp[eY,kS,h,h',h1,h2]
@[go_sem] def agE(n:Nat):eb n none none=some (0,n):=by simp[eb]
abbrev I(n:Int):D:=.int .i64 n
@[reducible] def ints(l:List Int):D:=.sl 1 (l.map (D.int .i64))
structure fK where
 f:Int
 t:Int
 w:Int
 deriving DecidableEq
@[reducible] def fK.d(x:fK):D:=.agg [I x.f,I x.t,I x.w]
structure iI where
 a:Int
 b:Int
 y:Int
 deriving DecidableEq
@[reducible] def iI.d(x:iI):D:=.agg [I x.a,I x.b,I x.y]
structure fS where
 gs:List fK
 o:Int
 ks:List iI
 deriving DecidableEq
@[reducible] def fS.l(x:fS):List D:=[.sl 3 (x.gs.map fK.d),I x.o,.sl 3 (x.ks.map iI.d)]
@[reducible] def fS.d(x:fS):D:=.agg x.l
structure Sign where
 t:ah
 c:List Int
 deriving DecidableEq
@[reducible] def Sign.d(x:Sign):D:=.agg [.str x.t,ints x.c]
structure gO where
 x:Int
 y:Int
 w:Int
 h:Int
 deriving DecidableEq
@[reducible] def gO.d(x:gO):D:=.agg [I x.x,I x.y,I x.w,I x.h]
structure fB where
 w:Int
 h:Int
 bl:List gO
 deriving DecidableEq
@[reducible] def fB.l(x:fB):List D:=[I x.w,I x.h,.sl 4 (x.bl.map gO.d)]
@[reducible] def fB.d(x:fB):D:=.agg x.l
structure cy where
 no:Int
 cw:Int
 lines:Int
 room:Int
 cells:Int
 speed:Int
 right:Bool
 js:fS
 iH:List Sign
 jV:fB
 deriving DecidableEq
@[reducible] def cy.d(x:cy):D:=.agg [I x.no,I x.cw,I x.lines,I x.room,I x.cells,I x.speed,.bool x.right,.sl 3 (x.js.gs.map fK.d),I x.js.o,.sl 3 (x.js.ks.map iI.d),.sl 2 (x.iH.map Sign.d),I x.jV.w,I x.jV.h,.sl 4 (x.jV.bl.map gO.d)]
structure ca where
 at_:Int
 iP:Int
 kind:Int
 cw:Int
 deriving DecidableEq
@[reducible] def ca.d(x:ca):D:=.agg [I x.at_,I x.iP,I x.kind,I x.cw]
structure aO where
 cw:Int
 m0:Int
 m1:Int
 m2:Int
 m3:Int
 deriving DecidableEq
@[reducible] def aO.d(x:aO):D:=.agg [I x.cw,I x.m0,I x.m1,I x.m2,I x.m3]
structure bS where
 no:Int
 at_:Int
 known:Int
 SD:Int
 from_:Int
 SI:Int
 ms:Int
 deriving DecidableEq
@[reducible] def bS.d(x:bS):D:=.agg [I x.no,I x.at_,I x.known,I x.SD,I x.from_,I x.SI,I x.ms]
structure Term where
 no:Int
 at_:Int
 known:Int
 cw:Int
 src:List ah
 Dv:List ah
 cat:ah
 gone:Bool
 deriving DecidableEq
@[reducible] def Term.d(x:Term):D:=.agg [I x.no,I x.at_,I x.known,I x.cw,strs x.src,strs x.Dv,.str x.cat,.bool x.gone]
structure cj where
 no:Int
 kind:Int
 sp:Int
 first:Int
 last:Int
 cw:Int
 from_:Int
 OL:Int
 known:Int
 ms:Int
 deriving DecidableEq
@[reducible] def cj.d(x:cj):D:=.agg [I x.no,I x.kind,I x.sp,I x.first,I x.last,I x.cw,I x.from_,I x.OL,I x.known,I x.ms]
structure Word where
 t:ah
 f:Int
 u:Int
 s:Int
 alts:List ah
 deriving DecidableEq
@[reducible] def Word.d(x:Word):D:=.agg [.str x.t,I x.f,I x.u,I x.s,strs x.alts]
structure bc where
 at_:Int
 src:Int
 seq:Int
 ir:Int
 kind:Int
 jy:Int
 cut:Int
 words:List Word
 deriving DecidableEq
@[reducible] def bc.d(x:bc):D:=.agg [I x.at_,I x.src,I x.seq,I x.ir,I x.kind,I x.jy,I x.cut,.sl 5 (x.words.map Word.d)]
structure aV where
 sources:Int
 er:Int
 chunk:Int
 quiet:Int
 late:Int
 pL:Int
 most:Int
 eD:List aS
 dU:List Term
 mN:List cj
 eh:List aO
 jX:List bS
 cr:List cy
 eL:List ca
 heard:List bc
 deriving DecidableEq
@[reducible] def aV.d(x:aV):D:=.agg [I x.sources,I x.er,I x.chunk,I x.quiet,I x.late,I x.pL,I x.most,.sl 6 (x.eD.map aS.d),.sl 8 (x.dU.map Term.d),.sl 10 (x.mN.map cj.d),.sl 5 (x.eh.map aO.d),.sl 7 (x.jX.map bS.d),.sl 14 (x.cr.map cy.d),.sl 4 (x.eL.map ca.d),.sl 8 (x.heard.map bc.d)]
theorem HU{α:Type}{f:α->D}(h:∀x,(f x).pure=true):∀l:List α,D.aF (l.map f)=true
 |[]=>rfl
 |x::l=>by simp[D.aF,h x,HU h l]
def wr(n:Int)(h1: -9223372036854775808<=n)(h2:n<=9223372036854775807):IntKind.i64.wrap n=n:=wrap_i64 oM oM
def aN(n lo hi:Int):Bool:=decide (lo<=n)&&decide (n<=hi)
def kd{α:Type}(k:α->Int):List α->Bool
 |[]=>true
 |[_]=>true
 |x::y::l=>decide (k x<k y)&&kd k (y::l)
def jj{α:Type}(p:α->Bool)(k:α->Int):Int->List α->Bool
 |_,[]=>true
 |last,x::l=>p x&&decide (last<k x)&&jj p k (k x) l
def nS{α:Type}(k:α->Int):Int->List α->Int
 |a,[]=>a
 |_,x::l=>nS k (k x) l
theorem yV{α:Type}{k:α->Int}{x:α}:∀ {l:List α} {a:Int},nS k a (l++[x])=k x
 |[],_=>rfl
 |_::l,_=>yV (l:=l)
theorem xh{α:Type}{p:α->Bool}{k:α->Int}:∀ {l:List α} {a:Int} {j:Nat} {x:α},l[j]? =some x->jj p k a l=(jj p k a (l.take j)&&p x&&decide (nS k a (l.take j)<k x)&&jj p k (k x) (l.drop (j+1)))
 |[],_,j,x,h=>by simp at h
 |y::l,a,0,x,h=>by simp at h;subst h;simp[jj,nS]
 |y::l,a,j+1,x,h=>by
  have ih:=xh (p:=p) (k:=k) (a:=k y) (show l[j]? =some x by simpa using h);simp only[jj,List.take_succ_cons,List.drop_succ_cons,nS,ih,Bool.and_assoc]
def sD{α:Type}{k:α->Int}{a:Int}{l:List α}{j:Nat}{x:α}(h:l[j]? =some x):nS k a (l.take (j+1))=k x:=by
 rw[List.take_add_one,h];exact yV
def xf{α:Type}{p:α->Bool}{k:α->Int}{a:Int}{l:List α}{j:Nat}{x:α}(h:l[j]? =some x)(hn:p x=false\/k x<=nS k a (l.take j)):jj p k a l=false:=by
 rw[xh h];rcases hn with hn|hn
 ·simp[hn]
 ·rw[decide_eq_false oM,Bool.and_false,Bool.false_and]
def xg{α:Type}{p:α->Bool}{k:α->Int}{a:Int}{l:List α}{j:Nat}{x:α}(h:l[j]? =some x)(h1:jj p k a (l.take j)=true)(h2:p x=true)(h3:nS k a (l.take j)<k x):jj p k a (l.take (j+1))=true:=by
 have hx:(l.take (j+1))[j]? =some x:=by
  have:=(gS.1 h).1;rw[List.getElem?_take_of_lt oM];exact h
 rw[xh hx,List.take_take,Nat.min_eq_left oM,h1,h2,decide_eq_true h3,List.drop_eq_nil_of_le (by simp;omega)];rfl
theorem Al{α:Type}{k:α->Int}:∀ {l:List α},kd k l=true<->∀i x y,l[i]? =some x->l[i+1]? =some y->k x<k y
 |[]=>⟨fun _ i x y h=>by simp at h,fun _=>rfl⟩
 |[a]=>⟨fun _ i x y _ h=>by simp at h,fun _=>rfl⟩
 |a::b::l=>by
  rw[kd,bA,decide_eq_true_eq,Al (l:=b::l)];constructor
  ·rintro⟨h1,h2⟩ i x y hx hy;cases i with
   |zero=>simp at hx hy;subst hx;subst hy;exact h1
   |succ i=>exact h2 i x y (by simpa using hx) (by simpa using hy)
  ·intro h;exact⟨h 0 a b rfl rfl,fun i x y hx hy=>h (i+1) x y (by simpa using hx) (by simpa using hy)⟩
theorem Dw{α:Type}{k:α->Int}{l:List α}{j:Nat}{x y:α}(hx:l[j]? =some x)(hy:l[j+1]? =some y)(h:k y<=k x):kd k l=false:=by
 cases hb:kd k l with
 |false=>rfl
 |true=>have:=Al.1 hb j x y hx hy;omega
def xr{α:Type}{k:α->Int}{l:List α}{j:Nat}{x y:α}(hx:l[j]? =some x)(hy:l[j+1]? =some y)(h1:kd k (l.take (j+1))=true)(h:k x<k y):kd k (l.take (j+1+1))=true:=by
 refine Al.2 fun i a b ha hb=>?_;have hl:=(gS.1 hb).1;rw[List.length_take]at hl;rw[List.getElem?_take_of_lt oM]at ha hb;by_cases hi:i=j
 ·subst hi;rw[hx]at ha;rw[hy]at hb;injection ha with ha;injection hb with hb;subst ha;subst hb;exact h
 ·exact Al.1 h1 i a b (by rw[List.getElem?_take_of_lt oM];exact ha) (by rw[List.getElem?_take_of_lt oM];exact hb)
theorem s6{α:Type}{k:α->Int}(l:List α):kd k (l.take 1)=true:=by
 cases l with
 |nil=>rfl
 |cons a l=>rfl
end Go.V.St
namespace Go.V.St
open Go.Proofs Go.Proofs.Tryz Go.RowKit Go.V.Lx Go.V.Gr Go.V.Ty
def nZ(f u:Int):Bool:=decide (0<=f)&&decide (f<u)&&decide (u<=1099511627776)
def oC(h:cj):Bool:=aN h.no 0 1048576&&aN h.kind 1 5
def pR(h:cj):Bool:=nZ h.first h.last&&nZ h.from_ h.OL&&aN h.known 0 1099511627775
def pS(h:cj):Bool:=decide (h.kind=3)&&aN h.ms 1 1073741824|| !decide (h.kind=3)&&decide (h.ms=0)
def hZ(h:cj):Bool:=oC h&&aN h.sp (-1) 63&&aN h.cw (-1) 31&&pR h&&pS h
def jH(n a b:Int):ao prog 280 [I n,I a,I b] (.bool (aN n a b)):=by
 refine aw mixed (fn:=f280) (tab:=[]) ?_ rfl aj rfl;refine ax _ [.tmp 6] _ rfl rfl rfl aj ?_;repeat' (first|with_reducible apply zJ<;>intro _|simp(disch:=omega) only[go_sem, *])
 all_goals first|exact .refl _|(refine ab (congrArg D.bool ?_);first|(simp(disch:=omega) [*,aN];done)|(simp[aN]at *;omega)|(rw[Bool.eq_iff_iff];simp[aN]at *;omega))
def JS(f u:Int):ao prog 284 [I f,I u] (.bool (nZ f u)):=by
 refine aw mixed (fn:=f284) (tab:=[]) ?_ rfl aj rfl;refine ax _ [.tmp 4] _ rfl rfl rfl aj ?_;repeat' (first|with_reducible apply zJ<;>intro _|simp(disch:=omega) only[go_sem, *])
 all_goals first|exact .refl _|(refine ab (congrArg D.bool ?_);first|(simp(disch:=omega) [*,nZ];done)|(simp[nZ]at *;omega)|(rw[Bool.eq_iff_iff];simp[nZ]at *;omega))
def RJ(h:cj):ao prog 279 [h.d] (.bool (oC h)):=by
 refine aw mixed (fn:=f279) (tab:=[]) ?_ rfl aj rfl;refine ax _ [.tmp 2] _ rfl rfl rfl aj ?_;repeat' (first|with_reducible apply zJ<;>intro _|with_reducible refine cb (jH _ _ _) sG ?_|with_reducible refine cd (jH _ _ _) sG ?_|simp(disch:=omega) only[go_sem, *,cj.d])
 all_goals first|exact .refl _|(refine ab (congrArg D.bool ?_);first|(simp(disch:=omega) [*,oC];done)|(simp[oC]at *;omega)|(rw[Bool.eq_iff_iff];simp[oC]at *;omega))
def RL(h:cj):ao prog 281 [h.d] (.bool (aN h.sp (-1) 63)):=by
 refine aw mixed (fn:=f281) (tab:=[]) ?_ rfl aj rfl;refine ax _ [.tmp 2] _ rfl rfl rfl aj ?_;repeat' (first|with_reducible apply zJ<;>intro _|with_reducible refine cb (jH _ _ _) sG ?_|with_reducible refine cd (jH _ _ _) sG ?_|simp(disch:=omega) only[go_sem, *,cj.d])
 all_goals first|exact .refl _|(refine ab (congrArg D.bool ?_);first|(simp(disch:=omega) [*,];done)|(simp[]at *;omega)|(rw[Bool.eq_iff_iff];simp[]at *;omega))
def RN(h:cj):ao prog 282 [h.d] (.bool (aN h.cw (-1) 31)):=by
 refine aw mixed (fn:=f282) (tab:=[]) ?_ rfl aj rfl;refine ax _ [.tmp 2] _ rfl rfl rfl aj ?_;repeat' (first|with_reducible apply zJ<;>intro _|with_reducible refine cb (jH _ _ _) sG ?_|with_reducible refine cd (jH _ _ _) sG ?_|simp(disch:=omega) only[go_sem, *,cj.d])
 all_goals first|exact .refl _|(refine ab (congrArg D.bool ?_);first|(simp(disch:=omega) [*,];done)|(simp[]at *;omega)|(rw[Bool.eq_iff_iff];simp[]at *;omega))
def RO(h:cj):ao prog 283 [h.d] (.bool (pR h)):=by
 refine aw mixed (fn:=f283) (tab:=[]) ?_ rfl aj rfl;refine ax _ [.tmp 2] _ rfl rfl rfl aj ?_;repeat' (first|with_reducible apply zJ<;>intro _|with_reducible refine cb (jH _ _ _) sG ?_|with_reducible refine cd (jH _ _ _) sG ?_|with_reducible refine cb (JS _ _) sG ?_|with_reducible refine cd (JS _ _) sG ?_|simp(disch:=omega) only[go_sem, *,cj.d])
 all_goals first|exact .refl _|(refine ab (congrArg D.bool ?_);first|(simp(disch:=omega) [*,pR];done)|(simp[pR]at *;omega)|(rw[Bool.eq_iff_iff];simp[pR]at *;omega))
def RP(h:cj):ao prog 285 [h.d] (.bool (pS h)):=by
 refine aw mixed (fn:=f285) (tab:=[]) ?_ rfl aj rfl;refine ax _ [.tmp 2] _ rfl rfl rfl aj ?_;repeat' (first|with_reducible apply zJ<;>intro _|with_reducible refine cb (jH _ _ _) sG ?_|with_reducible refine cd (jH _ _ _) sG ?_|simp(disch:=omega) only[go_sem, *,cj.d])
 all_goals first|exact .refl _|(refine ab (congrArg D.bool ?_);first|(simp(disch:=omega) [*,pS];done)|(simp[pS]at *;omega)|(rw[Bool.eq_iff_iff];simp[pS]at *;omega))
def pI:D:=.agg [.fn (.func 279) [],.fn (.func 281) [],.fn (.func 282) [],.fn (.func 283) [],.fn (.func 285) []]
def SZ:ao prog 233 [] pI:=by
 refine aw mixed (fn:=f233) (tab:=[]) ?_ rfl aj rfl;refine ax _ [.cell 0 318] _ rfl rfl rfl aj ?_;simp(disch:=omega) only[go_sem];exact .refl _
def oQ(h:cj):List Bool:=[oC h,aN h.sp (-1) 63,aN h.cw (-1) 31,pR h,pS h]
def Hd(h:cj):ao prog 179 [h.d] (.bool (hZ h)):=by
 refine aw mixed (fn:=f179) (tab:=[]) ?_ rfl aj rfl;refine ax _ [.tmp 2] _ rfl rfl rfl aj ?_;simp(disch:=omega) only[go_sem,cj.d];refine av SZ sG ?_;simp(disch:=omega) only[go_sem,pI];refine bo 5 (fun k σ bx=>σ 1= .loc 1 1 0 0/\bx 1=⟨1,1,10,196,[h.d]⟩/\σ 5=pI/\σ 6=I k/\((oQ h).take k).all id=true) ?_ ?_ ?_
 ·simp[go_sem,ak,Bx.none,pI]
 ·rintro k σ bx hk ⟨h1,b1,h5,h6,hn⟩;obtain rfl|rfl|rfl|rfl|rfl:k=0\/k=1\/k=2\/k=3\/k=4:=oM
  ·have h6:σ 6=I 0:=h6;repeat' (first|with_reducible apply zJ<;>intro _|with_reducible refine cb (RJ h) sG ?_|with_reducible refine cd (RJ h) sG ?_|simp(disch:=omega) only[go_sem, *,pI,cj.d,h1,b1,h5,h6])
   ·simp_all[oQ,wr]
   ·refine ab (congrArg D.bool ?_);simp_all[hZ,oQ]
  ·have h6:σ 6=I 1:=h6;repeat' (first|with_reducible apply zJ<;>intro _|with_reducible refine cb (RL h) sG ?_|with_reducible refine cd (RL h) sG ?_|simp(disch:=omega) only[go_sem, *,pI,cj.d,h1,b1,h5,h6])
   ·simp_all[oQ,wr]
   ·refine ab (congrArg D.bool ?_);simp_all[hZ,oQ]
  ·have h6:σ 6=I 2:=h6;repeat' (first|with_reducible apply zJ<;>intro _|with_reducible refine cb (RN h) sG ?_|with_reducible refine cd (RN h) sG ?_|simp(disch:=omega) only[go_sem, *,pI,cj.d,h1,b1,h5,h6])
   ·simp_all[oQ,wr]
   ·refine ab (congrArg D.bool ?_);simp_all[hZ,oQ]
  ·have h6:σ 6=I 3:=h6;repeat' (first|with_reducible apply zJ<;>intro _|with_reducible refine cb (RO h) sG ?_|with_reducible refine cd (RO h) sG ?_|simp(disch:=omega) only[go_sem, *,pI,cj.d,h1,b1,h5,h6])
   ·simp_all[oQ,wr]
   ·refine ab (congrArg D.bool ?_);simp_all[hZ,oQ]
  ·have h6:σ 6=I 4:=h6;repeat' (first|with_reducible apply zJ<;>intro _|with_reducible refine cb (RP h) sG ?_|with_reducible refine cd (RP h) sG ?_|simp(disch:=omega) only[go_sem, *,pI,cj.d,h1,b1,h5,h6])
   ·simp_all[oQ,wr]
   ·refine ab (congrArg D.bool ?_);simp_all[hZ,oQ]
 ·rintro σ bx ⟨h1,b1,h5,h6,hn⟩;have h6:σ 6=I 5:=h6;repeat' (first|with_reducible apply zJ<;>intro _|simp(disch:=omega) only[go_sem, *,h6])
  refine ab (congrArg D.bool ?_);simp_all[oQ,hZ]
def jN(l:List cj):Int:=if 1024<l.length then 2 else if jj hZ cj.no (-1) l then 0 else 350
def Qa(l:List cj):ao prog 127 [.sl 10 (l.map cj.d)] (I (jN l)):=by
 refine aw mixed (fn:=f127) (tab:=[]) ?_ rfl aj rfl;refine ax _ [.tmp 2] _ rfl rfl rfl aj ?_;simp(disch:=omega) only[go_sem];refine bg (fun h1=>?_) (fun h1=>?_)
 ·simp(disch:=omega) only[go_sem];exact ab (congrArg I (by unfold jN;rw[if_pos oM]))
 have hle:l.length<=1024:=oM;have e:jN l=if jj hZ cj.no (-1) l then 0 else 350:=by unfold jN;rw[if_neg oM]
 rw[e];simp(disch:=omega) only[go_sem];refine bo l.length (fun k σ bx=>σ 9= .sl 10 (l.map cj.d)/\σ 10=I l.length/\σ 11=I k/\σ 3=I (nS cj.no (-1) (l.take k))/\jj hZ cj.no (-1) (l.take k)=true) ?_ ?_ ?_
 ·simp[go_sem,ak,nS,jj]
 ·rintro k σ bx hk ⟨q9,og,HZ,q3,hn⟩;obtain⟨x,hx⟩:=ba hk;have ar:(k:Int)<(l.length:Int):=oM;repeat' (first|with_reducible apply zJ<;>intro _|with_reducible refine cb (Hd x) sG ?_|with_reducible refine cd (Hd x) sG ?_|simp(disch:=omega) only[go_sem, *,q9,og,HZ,q3,ar,hx,cj.d])
  all_goals first|exact ab (congrArg I (by rw[xf hx (by first|exact .inl (by assumption)|exact .inr (by assumption))];rfl))|(rw[aD oM];exact⟨rfl,by rw[sD hx],xg hx hn (by assumption) oM⟩)
 ·rintro σ bx ⟨q9,og,HZ,q3,hn⟩;have ar:¬(l.length:Int)<(l.length:Int):=oM;simp(disch:=omega) only[go_sem,og,HZ,ar];rw[tL]at hn;exact ab (congrArg I (by rw[hn];rfl))
def De(n:Int):ao prog 248 [I n] (.bool (aN n 0 63)):=by
 refine aw mixed (fn:=f248) (tab:=[]) ?_ rfl aj rfl;refine ax _ [.tmp 2] _ rfl rfl rfl aj ?_;repeat' (first|with_reducible apply zJ<;>intro _|simp(disch:=omega) only[go_sem, *])
 all_goals first|exact .refl _|(refine ab (congrArg D.bool ?_);first|(simp(disch:=omega) [*,aN];done)|(simp[aN]at *;omega)|(rw[Bool.eq_iff_iff];simp[aN]at *;omega))
def Kl(n:Int):ao prog 249 [I n] (.bool (aN n 0 31)):=by
 refine aw mixed (fn:=f249) (tab:=[]) ?_ rfl aj rfl;refine ax _ [.tmp 2] _ rfl rfl rfl aj ?_;repeat' (first|with_reducible apply zJ<;>intro _|simp(disch:=omega) only[go_sem, *])
 all_goals first|exact .refl _|(refine ab (congrArg D.bool ?_);first|(simp(disch:=omega) [*,aN];done)|(simp[aN]at *;omega)|(rw[Bool.eq_iff_iff];simp[aN]at *;omega))
def Kn(n:Int):ao prog 251 [I n] (.bool (aN n 0 1099511627775)):=by
 refine aw mixed (fn:=f251) (tab:=[]) ?_ rfl aj rfl;refine ax _ [.tmp 2] _ rfl rfl rfl aj ?_;repeat' (first|with_reducible apply zJ<;>intro _|simp(disch:=omega) only[go_sem, *])
 all_goals first|exact .refl _|(refine ab (congrArg D.bool ?_);first|(simp(disch:=omega) [*,aN];done)|(simp[aN]at *;omega)|(rw[Bool.eq_iff_iff];simp[aN]at *;omega))
def Km(f u:Int):ao prog 250 [I f,I u] (.bool (nZ f u)):=by
 refine aw mixed (fn:=f250) (tab:=[]) ?_ rfl aj rfl;refine ax _ [.tmp 4] _ rfl rfl rfl aj ?_;repeat' (first|with_reducible apply zJ<;>intro _|simp(disch:=omega) only[go_sem, *])
 all_goals first|exact .refl _|(refine ab (congrArg D.bool ?_);first|(simp(disch:=omega) [*,nZ];done)|(simp[nZ]at *;omega)|(rw[Bool.eq_iff_iff];simp[nZ]at *;omega))
def uK(h:cj):ao prog 201 [h.d] (.bool (hZ h)):=by
 refine aw mixed (fn:=f201) (tab:=[]) ?_ rfl aj rfl;refine ax _ [.tmp 2] _ rfl rfl rfl aj ?_;repeat' (first|with_reducible apply zJ<;>intro _|with_reducible refine cb (De _) sG ?_|with_reducible refine cd (De _) sG ?_|with_reducible refine cb (Kl _) sG ?_|with_reducible refine cd (Kl _) sG ?_|with_reducible refine cb (Kn _) sG ?_|with_reducible refine cd (Kn _) sG ?_|with_reducible refine cb (Km _ _) sG ?_|with_reducible refine cd (Km _ _) sG ?_|simp(disch:=omega) only[go_sem, *,cj.d])
 all_goals first|exact .refl _|(refine ab (congrArg D.bool ?_);first|(simp(disch:=omega) [*,hZ,oC,pR,pS,aN,nZ];done)|(simp[hZ,oC,pR,pS,aN,nZ]at *;omega)|(rw[Bool.eq_iff_iff];simp[hZ,oC,pR,pS,aN,nZ]at *;omega))
def Qj{h:cj}(hb:hZ h=true):0<=h.no:=by
 simp[hZ,oC,aN]at hb;omega
def Oy(l:List cj):ao prog 142 [.sl 10 (l.map cj.d)] (I (jN l)):=by
 refine aw mixed (fn:=f142) (tab:=[]) ?_ rfl aj rfl;refine ax _ [.tmp 2] _ rfl rfl rfl aj ?_;simp(disch:=omega) only[go_sem];refine bg (fun h1=>?_) (fun h1=>?_)
 ·simp(disch:=omega) only[go_sem];exact ab (congrArg I (by unfold jN;rw[if_pos oM]))
 have hle:l.length<=1024:=oM;have e:jN l=if jj hZ cj.no (-1) l then 0 else 350:=by unfold jN;rw[if_neg oM]
 rw[e];simp(disch:=omega) only[go_sem];refine bo l.length (fun k σ bx=>σ 0= .sl 10 (l.map cj.d)/\σ 3=I k/\jj hZ cj.no (-1) (l.take k)=true) ?_ ?_ ?_
 ·simp[go_sem,bB,ak,jj]
 ·rintro k σ bx hk ⟨q0,q3,hn⟩;obtain⟨x,hx⟩:=ba hk;have ar:(k:Int)<(l.length:Int):=oM;rcases k with _|k
  ·have q3:σ 3=I 0:=q3;have ar:(0:Int)<(l.length:Int):=oM;repeat' (first|with_reducible apply zJ<;>intro _|with_reducible refine cb (uK x) sG ?_|with_reducible refine cd (uK x) sG ?_|simp(disch:=omega) only[go_sem, *,q0,q3,ar,hx,cj.d])
   ·exact⟨congrArg I (wr 1 oM oM),xg hx hn (by assumption) (by have:=Qj (by assumption);simp[nS];omega)⟩
   ·exact ab (congrArg I (by rw[xf hx (.inl (by assumption))];rfl))
  ·obtain⟨y,hy⟩:=ba (show k<l.length by omega);have h1:IntKind.i64.wrap (((k+1:Nat):Int) - 1)=(k:Int):=by rw[wr _ oM oM];omega
   have h0:(0:Int)<((k+1:Nat):Int):=oM;repeat' (first|with_reducible apply zJ<;>intro _|with_reducible refine cb (uK x) sG ?_|with_reducible refine cd (uK x) sG ?_|simp(disch:=omega) only[go_sem, *,q0,q3,ar,hx,hy,h0,h1,cj.d])
   ·exact ab (congrArg I (by rw[xf hx (.inr (by rw[sD hy];assumption))];rfl))
   ·rw[aD oM];exact⟨rfl,xg hx hn (by assumption) (by rw[sD hy];omega)⟩
   ·exact ab (congrArg I (by rw[xf hx (.inl (by assumption))];rfl))
 ·rintro σ bx ⟨q0,q3,hn⟩;have ar:¬(l.length:Int)<(l.length:Int):=oM;simp(disch:=omega) only[go_sem,q0,q3,ar];rw[tL]at hn;exact ab (congrArg I (by rw[hn];rfl))
section
variable {f:FuncId} {caps:List D}
def WE{p:Int->Bool}(l:List Int)(hl:l.length<=140737488355328)(hf:∀x∈l,ao prog f ((D.int .i64) x::caps) (.bool (p x)))(hp:∀x:Int,D.aF ((D.int .i64) x::caps)=true):
 ao prog 286 [.sl 1 (l.map (D.int .i64)),.fn (.func f) caps] (I (fh p l)):=by
 refine aw mixed (fn:=f286) (tab:=[]) ?_ rfl aj rfl;refine ax _ [.tmp 4] _ rfl rfl rfl aj ?_;simp(disch:=omega) only[go_sem];refine bo l.length (fun j σ bx'=>σ 0= .sl 1 (l.map (D.int .i64))/\σ 1= .fn (.func f) caps/\σ 7=I l.length/\σ 8=I j/\(l.take j).any p=false) (by simp[go_sem,bB]) ?_ ?_
 ·rintro j σ bx' hj ⟨h0,h1,h7,h8,hn⟩;obtain⟨x,hx⟩:=ba hj;have ar:(j:Int)<(l.length:Int):=oM;simp(disch:=omega) only[go_sem,h0,h1,h7,h8,ar,hx];refine av (hf x (mG hx)) (hp x) ?_;simp(disch:=omega) only[go_sem];refine aY (fun hc=>?_) (fun hc=>?_)
  ·simp(disch:=omega) only[go_sem];exact ab (congrArg I (mu hn hx hc).symm)
  ·simp(disch:=omega) only[go_sem,h0,h1,h7,h8];rw[aD oM];exact⟨rfl,kY hn hx hc⟩
 ·rintro σ bx' ⟨h0,h1,h7,h8,hn⟩;have ar:¬(l.length:Int)<(l.length:Int):=oM;simp(disch:=omega) only[go_sem,h7,h8,ar];rw[tL]at hn;exact ab (congrArg I (jP hn).symm)
def Np{p:Int->Bool}(l:List Int)(hl:l.length<=140737488355328)(hf:∀x∈l,ao prog f ((D.int .i64) x::caps) (.bool (p x)))(hp:∀x:Int,D.aF ((D.int .i64) x::caps)=true)(hq:D.aF [.sl 1 (l.map (D.int .i64)),.fn (.func f) caps]=true):
 ao prog 236 [.sl 1 (l.map (D.int .i64)),.fn (.func f) caps] (.bool (l.any p)):=by
 refine aw mixed (fn:=f236) (tab:=[]) ?_ rfl aj rfl;refine ax _ [.tmp 4] _ rfl rfl rfl aj ?_;simp(disch:=omega) only[go_sem];refine av (WE l hl hf hp) hq ?_;simp(disch:=omega) only[go_sem];exact ab (congrArg D.bool (jJ p l))
def Ti{p:aO->Bool}(l:List aO)(hl:l.length<=140737488355328)(hf:∀x∈l,ao prog f (aO.d x::caps) (.bool (p x)))(hp:∀x:aO,D.aF (aO.d x::caps)=true):
 ao prog 234 [.sl 5 (l.map aO.d),.fn (.func f) caps] (I (fh p l)):=by
 refine aw mixed (fn:=f234) (tab:=[]) ?_ rfl aj rfl;refine ax _ [.tmp 4] _ rfl rfl rfl aj ?_;simp(disch:=omega) only[go_sem];refine bo l.length (fun j σ bx'=>σ 0= .sl 5 (l.map aO.d)/\σ 1= .fn (.func f) caps/\σ 7=I l.length/\σ 8=I j/\(l.take j).any p=false) (by simp[go_sem,bB]) ?_ ?_
 ·rintro j σ bx' hj ⟨h0,h1,h7,h8,hn⟩;obtain⟨x,hx⟩:=ba hj;have ar:(j:Int)<(l.length:Int):=oM;simp(disch:=omega) only[go_sem,h0,h1,h7,h8,ar,hx,aO.d];refine av (hf x (mG hx)) (hp x) ?_;simp(disch:=omega) only[go_sem];refine aY (fun hc=>?_) (fun hc=>?_)
  ·simp(disch:=omega) only[go_sem];exact ab (congrArg I (mu hn hx hc).symm)
  ·simp(disch:=omega) only[go_sem,h0,h1,h7,h8];rw[aD oM];exact⟨rfl,kY hn hx hc⟩
 ·rintro σ bx' ⟨h0,h1,h7,h8,hn⟩;have ar:¬(l.length:Int)<(l.length:Int):=oM;simp(disch:=omega) only[go_sem,h7,h8,ar];rw[tL]at hn;exact ab (congrArg I (jP hn).symm)
def Tc{p:aO->Bool}(l:List aO)(hl:l.length<=140737488355328)(hf:∀x∈l,ao prog f (aO.d x::caps) (.bool (p x)))(hp:∀x:aO,D.aF (aO.d x::caps)=true)(hq:D.aF [.sl 5 (l.map aO.d),.fn (.func f) caps]=true):
 ao prog 181 [.sl 5 (l.map aO.d),.fn (.func f) caps] (.bool (l.any p)):=by
 refine aw mixed (fn:=f181) (tab:=[]) ?_ rfl aj rfl;refine ax _ [.tmp 4] _ rfl rfl rfl aj ?_;simp(disch:=omega) only[go_sem];refine av (Ti l hl hf hp) hq ?_;simp(disch:=omega) only[go_sem];exact ab (congrArg D.bool (jJ p l))
def Tj{p:gO->Bool}(l:List gO)(hl:l.length<=140737488355328)(hf:∀x∈l,ao prog f (gO.d x::caps) (.bool (p x)))(hp:∀x:gO,D.aF (gO.d x::caps)=true):
 ao prog 323 [.sl 4 (l.map gO.d),.fn (.func f) caps] (I (fh p l)):=by
 refine aw mixed (fn:=f323) (tab:=[]) ?_ rfl aj rfl;refine ax _ [.tmp 4] _ rfl rfl rfl aj ?_;simp(disch:=omega) only[go_sem];refine bo l.length (fun j σ bx'=>σ 0= .sl 4 (l.map gO.d)/\σ 1= .fn (.func f) caps/\σ 7=I l.length/\σ 8=I j/\(l.take j).any p=false) (by simp[go_sem,bB]) ?_ ?_
 ·rintro j σ bx' hj ⟨h0,h1,h7,h8,hn⟩;obtain⟨x,hx⟩:=ba hj;have ar:(j:Int)<(l.length:Int):=oM;simp(disch:=omega) only[go_sem,h0,h1,h7,h8,ar,hx,gO.d];refine av (hf x (mG hx)) (hp x) ?_;simp(disch:=omega) only[go_sem];refine aY (fun hc=>?_) (fun hc=>?_)
  ·simp(disch:=omega) only[go_sem];exact ab (congrArg I (mu hn hx hc).symm)
  ·simp(disch:=omega) only[go_sem,h0,h1,h7,h8];rw[aD oM];exact⟨rfl,kY hn hx hc⟩
 ·rintro σ bx' ⟨h0,h1,h7,h8,hn⟩;have ar:¬(l.length:Int)<(l.length:Int):=oM;simp(disch:=omega) only[go_sem,h7,h8,ar];rw[tL]at hn;exact ab (congrArg I (jP hn).symm)
def Td{p:gO->Bool}(l:List gO)(hl:l.length<=140737488355328)(hf:∀x∈l,ao prog f (gO.d x::caps) (.bool (p x)))(hp:∀x:gO,D.aF (gO.d x::caps)=true)(hq:D.aF [.sl 4 (l.map gO.d),.fn (.func f) caps]=true):
 ao prog 293 [.sl 4 (l.map gO.d),.fn (.func f) caps] (.bool (l.any p)):=by
 refine aw mixed (fn:=f293) (tab:=[]) ?_ rfl aj rfl;refine ax _ [.tmp 4] _ rfl rfl rfl aj ?_;simp(disch:=omega) only[go_sem];refine av (Tj l hl hf hp) hq ?_;simp(disch:=omega) only[go_sem];exact ab (congrArg D.bool (jJ p l))
end
section
variable {f:FuncId} {caps:List D} {n0 k:Nat} {bx0:ae}
def Tl{bO:bS->Prop}{p:bS->Bool}(hf:cn f caps n0 k bx0 bS.d bO p)(hn:n0<=k)(l:List bS)(hl:l.length<=140737488355328)(hd:∀x∈l,bO x)(bx:ae)(hb:∀s,s<n0->bx s=bx0 s):
 mf prog (cJ prog) [] f238 0 [.sl 7 (l.map bS.d),.fn (.func f) caps] bx (fun d bx'=>d= .int .i64 (fh p l)/\∀s,s<k->bx' s=bx s) (fun _ _=>False):=by
 refine aJ _ [.tmp 4] 19 rfl rfl rfl aj ?_;simp(disch:=omega) only[go_sem];refine bo l.length (fun j σ bx'=>σ 0= .sl 7 (l.map bS.d)/\σ 1= .fn (.func f) caps/\σ 7= .int .i64 l.length/\σ 8= .int .i64 j/\(l.take j).any p=false/\∀s,s<k->bx' s=bx s)
  ⟨by simp[go_sem,bB],by simp[go_sem,bB],by simp[go_sem],by simp[go_sem],by simp,fun _ _=>rfl⟩ ?_ ?_
 ·rintro j σ bx' hj ⟨h0,h1,h7,h8,hp,hk⟩;obtain⟨x,hx⟩:=ba hj;have ar:(j:Int)<(l.length:Int):=oM;simp(disch:=omega) only[go_sem,h0,h1,h7,h8,ar,hx,bS.d];refine aC (hf bx' x (fun s hs=>(hk s oM).trans (hb s hs)) (hd x (mG hx))) rfl ?_;rintro d bK ⟨rfl,bV⟩;simp(disch:=omega) only[go_sem];refine aY (fun hc=>?_) (fun hc=>?_)
  ·simp(disch:=omega) only[go_sem];exact⟨by rw[mu hp hx hc],fun s hs=>(bV s hs).trans (hk s hs)⟩
  ·simp(disch:=omega) only[go_sem,h0,h1,h7,h8];rw[aD oM];exact⟨rfl,kY hp hx hc,fun s hs=>(bV s hs).trans (hk s hs)⟩
 ·rintro σ bx' ⟨h0,h1,h7,h8,hp,hk⟩;have ar:¬(l.length:Int)<(l.length:Int):=oM;simp(disch:=omega) only[go_sem,h7,h8,ar];rw[tL]at hp;exact⟨by rw[jP hp],hk⟩
def Tk{bO:bS->Prop}{p:bS->Bool}(hf:cn f caps n0 k bx0 bS.d bO p)(hn:n0<=k)(l:List bS)(hl:l.length<=140737488355328)(hd:∀x∈l,bO x)(bx:ae)(hb:∀s,s<n0->bx s=bx0 s):
 bj prog 238 0 [.sl 7 (l.map bS.d),.fn (.func f) caps] bx (fun d bx'=>d= .int .i64 (fh p l)/\∀s,s<k->bx' s=bx s) (fun _ _=>False):=aI mixed (Tl hf hn l hl hd bx hb) rfl aj rfl
def Tf{bO:bS->Prop}{p:bS->Bool}(hf:cn f caps n0 k bx0 bS.d bO p)(hn:n0<=k)(l:List bS)(hl:l.length<=140737488355328)(hd:∀x∈l,bO x)(bx:ae)(hb:∀s,s<n0->bx s=bx0 s):
 mf prog (cJ prog) [] f186 0 [.sl 7 (l.map bS.d),.fn (.func f) caps] bx (fun d bx'=>d= .bool (l.any p)/\∀s,s<k->bx' s=bx s) (fun _ _=>False):=by
 refine aJ _ [.tmp 4] 9 rfl rfl rfl aj ?_;simp(disch:=omega) only[go_sem];refine aC (Tk hf hn l hl hd bx hb) rfl ?_;rintro d bK ⟨rfl,bV⟩;simp(disch:=omega) only[go_sem];exact⟨by rw[jJ],bV⟩
def Te{bO:bS->Prop}{p:bS->Bool}(hf:cn f caps n0 k bx0 bS.d bO p)(hn:n0<=k)(l:List bS)(hl:l.length<=140737488355328)(hd:∀x∈l,bO x)(bx:ae)(hb:∀s,s<n0->bx s=bx0 s):
 bj prog 186 0 [.sl 7 (l.map bS.d),.fn (.func f) caps] bx (fun d bx'=>d= .bool (l.any p)/\∀s,s<k->bx' s=bx s) (fun _ _=>False):=aI mixed (Tf hf hn l hl hd bx hb) rfl aj rfl
end
def om(fm:Int->Option D)(es:List D):Prop:=∃l:List (Int×D×Int),es=l.map (fun e=> .aL [.int .i64 e.1,e.2.1,.int .i64 e.2.2])/\∀n,fm n=(l.find? fun e=>e.1==n).map (·.2.1)
theorem om.nil:om (fun _=>none) []:=⟨[],rfl,fun _=>rfl⟩
theorem GA(n:Int):∀(l:List (Int×D×Int)) (i:Nat),∃r,fb (.int .i64) (.int .i64 n) (l.map fun e=> .aL [.int .i64 e.1,e.2.1,.int .i64 e.2.2]) i=some r/\r.map (·.2)=(l.find? fun e=>e.1==n).map (·.2.1)/\∀j v,r=some (j,v)->i<=j/\∃e,l[j - i]? =some e/\e.1=n
 |[],i=>⟨none,rfl,rfl,fun _ _ h=>by cases h⟩
 |e::l,i=>by
  by_cases h:n=e.1
  ·refine⟨some (i,e.2.1),by simp[fb,mV,h],by simp[h],fun j v hj=>?_⟩;injection hj with hj;injection hj with hj;subst hj;exact⟨Nat.le_refl _,e,by simp,h.symm⟩
  ·have hb:(n==e.1)=false:=by simpa using h
   have oy:(e.1==n)=false:=by simpa using Ne.symm h
   obtain⟨r,h1,h2,h3⟩:=GA n l (i+1);refine⟨r,by simp only[mC,fb,mV,hb];exact h1,by rw[h2,List.find?_cons,oy],fun j v hj=>?_⟩;obtain⟨g1,e',g2,g3⟩:=h3 j v hj;refine⟨by omega,e',?_,g3⟩;rw[show j - i=(j - (i+1))+1 by omega];simpa using g2
theorem om.find{fm:Int->Option D}{es:List D}(h:om fm es)(n:Int):∃r,fb (.int .i64) (.int .i64 n) es 0=some r/\r.map (·.2)=fm n:=by
 obtain⟨l,rfl,hl⟩:=h;obtain⟨r,h1,h2,_⟩:=GA n l 0;exact⟨r,h1,h2.trans (hl n).symm⟩
theorem GB(n:Int)(v:D):∀(l:List (Int×D×Int)) (j:Nat) (e:Int×D×Int),l[j]? =some e->e.1=n->(∀i e',i<j->l[i]? =some e'->e'.1≠n)->∀m,((l.modify j fun e=>(n,v,e.2.2)).find? fun e=>e.1==m).map (·.2.1)=if m=n then some v else(l.find? fun e=>e.1==m).map (·.2.1)
 |[],j,e,h,_,_,m=>by simp at h
 |x::l,0,e,h,he,_,m=>by
  simp at h;subst h;by_cases hm:m=n
  ·simp[hm]
  ·have:(n==m)=false:=by simpa using Ne.symm hm
   simp[this,hm,he]
 |x::l,j+1,e,h,he,hn,m=>by
  have hx:=hn 0 x oM rfl;have ih:=GB n v l j e (by simpa using h) he (fun i e' hi h'=>hn (i+1) e' oM (by simpa using h')) m;by_cases hm:x.1=m
  ·subst hm;simp[hx]
  ·have:(x.1==m)=false:=by simpa using hm
   simp only[List.modify_succ_cons,List.find?_cons,this];exact ih
theorem Jv(n:Int)(v:D):∀(l:List (Int×D×Int)) (j:Nat),(l.map fun e=>D.aL [.int .i64 e.1,e.2.1,.int .i64 e.2.2]).modify j (Bz (.int .i64 n) v)=(l.modify j fun e=>(n,v,e.2.2)).map fun e=> .aL [.int .i64 e.1,e.2.1,.int .i64 e.2.2]
 |[],j=>by simp
 |e::l,0=>by simp[Bz]
 |e::l,j+1=>by simpa using Jv n v l j
theorem om.ak{fm:Int->Option D}{es:List D}(h:om fm es)(n:Int)(v:D)(c:Int):∃es' c',ot (.int .i64) (.int .i64 n) v c es=some (.int .i64 c'::es')/\om (fun k=>if k=n then some v else fm k) es':=by
 obtain⟨l,rfl,hl⟩:=h;obtain⟨r,h1,h2,h3⟩:=GA n l 0;cases r with
 |none=>
  refine⟨l.map (fun e=> .aL [.int .i64 e.1,e.2.1,.int .i64 e.2.2])++[.aL [.int .i64 n,v,.int .i64 c]],c+1,by simp only[ot,h1],l++[(n,v,c)],by simp,fun m=>?_⟩;have hnf:l.find? (fun e=>e.1==n)=none:=by simpa using h2.symm
  by_cases hm:m=n
  ·subst hm;simp[List.find?_append,hnf]
  ·have:(n==m)=false:=by simpa using Ne.symm hm
   simp[List.find?_append,hm,hl m,this]
 |some q=>
  obtain⟨j,v0⟩:=q;obtain⟨_,e,g1,g2⟩:=h3 j v0 rfl;simp only[Nat.sub_zero]at g1;refine⟨_,c,by simp only[ot,h1];rfl,l.modify j fun e=>(n,v,e.2.2),?_,fun m=>?_⟩
  ·exact Jv n v l j
  ·show(if m=n then some v else fm m)=_;rw[hl m];refine(GB n v l j e g1 g2 (fun i e' hi h' bq=>?_) m).symm;have:∀(l:List (Int×D×Int)) (k j i:Nat) (v0:D) (e':Int×D×Int),fb (.int .i64) (.int .i64 n) (l.map fun e=> .aL [.int .i64 e.1,e.2.1,.int .i64 e.2.2]) k=some (some (k+j,v0))->l[i]? =some e'->e'.1=n->j<=i:=by
    intro l;induction l with
    |nil=>intro k j i v0 e' _ h;simp at h
    |cons x l ih=>
     intro k j i v0 e' hf hi he;by_cases hx:n=x.1
     ·simp[fb,mV,hx]at hf;omega
     ·have hb:(n==x.1)=false:=by simpa using hx
      simp only[mC,fb,mV,hb]at hf;cases i with
      |zero=>simp at hi;subst hi;exact absurd he.symm hx
      |succ i=>
       cases j with
       |zero=>omega
       |succ j=>
        have:=ih (k+1) j i v0 e' (by rw[show k+1+j=k+(j+1) by omega];exact hf) (by simpa using hi) he;omega
   have:=this l 0 j i v0 e' (by simpa using h1) h' bq;omega
end Go.V.St
namespace Go.V.St
open Go.Proofs Go.Proofs.Tryz Go.RowKit Go.V.Lx Go.V.Gr Go.V.Ty
def oJ(n:Int):Bool:=aN n 0 1073741824
def ft(b:aO):Bool:=aN b.cw 0 31&&(oJ b.m0&&oJ b.m1&&oJ b.m2&&oJ b.m3)
def kV(ls:List Int)(x:bS):Bool:=aN x.no 0 1048576&&aN x.at_ 0 1099511627775&&aN x.known 0 1099511627775&&aN x.SD 0 3&&ls.contains x.from_&&ls.contains x.SI&& !decide (x.from_=x.SI)&&aN x.ms 1 1073741824
def rh(n a b:Int):ao prog 235 [I n,I a,I b] (.bool (aN n a b)):=by
 refine aw mixed (fn:=f235) (tab:=[]) ?_ rfl aj rfl;refine ax _ [.tmp 6] _ rfl rfl rfl aj ?_;repeat' (first|with_reducible apply zJ<;>intro _|simp(disch:=omega) only[go_sem, *])
 all_goals first|exact .refl _|(refine ab (congrArg D.bool ?_);first|(simp(disch:=omega) [*,aN];done)|(simp[aN]at *;omega)|(rw[Bool.eq_iff_iff];simp[aN]at *;omega))
def ME(n:Int):ao prog 237 [I n] (.bool (!oJ n)):=by
 refine aw mixed (fn:=f237) (tab:=[]) ?_ rfl aj rfl;refine ax _ [.tmp 2] _ rfl rfl rfl aj ?_;repeat' (first|with_reducible apply zJ<;>intro _|with_reducible refine cb (rh _ _ _) sG ?_|with_reducible refine cd (rh _ _ _) sG ?_|simp(disch:=omega) only[go_sem, *])
 all_goals first|exact .refl _|(refine ab (congrArg D.bool ?_);first|(simp(disch:=omega) [*,oJ];done)|(simp[oJ]at *;omega)|(rw[Bool.eq_iff_iff];simp[oJ]at *;omega))
def Gd(b:aO):ao prog 183 [b.d] (.bool (ft b)):=by
 have hc:=Np (f:=237) (caps:=[]) (p:=fun n=> !oJ n) [b.m0,b.m1,b.m2,b.m3] sI (fun x _=>ME x) (fun x=>rfl) rfl;refine aw mixed (fn:=f183) (tab:=[]) ?_ rfl aj rfl;refine ax _ [.tmp 2] _ rfl rfl rfl aj ?_;simp(disch:=omega) only[go_sem,aO.d];refine av (rh _ _ _) rfl ?_;simp(disch:=omega) only[go_sem];refine aY (fun h1=>?_) (fun h1=>?_)
 ·simp(disch:=omega) only[go_sem,h1];refine rj hc (by simp[go_sem,Bo,D.cells,D.aF,D.pure,D.one,lU,ak,dn,lv,I]) rfl ?_;simp(disch:=omega) only[go_sem,h1];exact ab (congrArg D.bool (by simp[ft,h1,Bool.and_assoc]))
 ·simp(disch:=omega) only[go_sem,h1];exact ab (congrArg D.bool (by simp[ft,h1,Bool.and_assoc]))
def Mw(b:aO):ao prog 182 [b.d] (.bool (!ft b)):=by
 refine aw mixed (fn:=f182) (tab:=[]) ?_ rfl aj rfl;refine ax _ [.tmp 2] _ rfl rfl rfl aj ?_;repeat' (first|with_reducible apply zJ<;>intro _|with_reducible refine cb (Gd b) sG ?_|with_reducible refine cd (Gd b) sG ?_|simp(disch:=omega) only[go_sem, *,aO.d])
 all_goals first|exact .refl _|(refine ab (congrArg D.bool ?_);first|(simp(disch:=omega) [*,];done)|(simp[]at *;omega)|(rw[Bool.eq_iff_iff];simp[]at *;omega))
def wJ(b:aO):ao prog 185 [b.d] (I b.cw):=by
 refine aw mixed (fn:=f185) (tab:=[]) ?_ rfl aj rfl;refine ax _ [.tmp 2] _ rfl rfl rfl aj ?_;simp(disch:=omega) only[go_sem,aO.d];exact .refl _
def CZ(x:bS):ao prog 190 [x.d] (I x.no):=by
 refine aw mixed (fn:=f190) (tab:=[]) ?_ rfl aj rfl;refine ax _ [.tmp 2] _ rfl rfl rfl aj ?_;simp(disch:=omega) only[go_sem,bS.d];exact .refl _
def I0(l:List aO)(hl:l.length<=140737488355328):ao prog 184 [.sl 5 (l.map aO.d),.fn (.func 185) []] (.bool (kd aO.cw l)):=by
 refine aw mixed (fn:=f184) (tab:=[(4,[(8,3)])]) ?_ rfl aj rfl;refine ax _ [.tmp 4] _ rfl rfl rfl aj ?_;simp(disch:=omega) only[go_sem];refine bo l.length (fun j σ bx=>σ 0= .sl 5 (l.map aO.d)/\σ 1= .fn (.func 185) []/\σ 7=I l.length/\σ 8=I j/\kd aO.cw (l.take j)=true) ?_ ?_ ?_
 ·simp[go_sem,bB,ak,kd]
 ·rintro j σ bx hj ⟨h0,h1,h7,h8,hn⟩;obtain⟨x,hx⟩:=ba hj;have ar:(j:Int)<(l.length:Int):=oM;rcases j with _|j
  ·have h8:σ 8=I 0:=h8;have ar:(0:Int)<(l.length:Int):=oM;simp(disch:=omega) only[go_sem,h0,h1,h7,h8,ar];exact⟨congrArg I (wr 1 oM oM),s6 l⟩
  ·obtain⟨y,hy⟩:=ba (show j<l.length by omega);have hw:IntKind.i64.wrap (((j+1:Nat):Int) - 1)=(j:Int):=by rw[wr _ oM oM];omega
   have hp:(0:Int)<((j+1:Nat):Int):=oM;repeat' (first|with_reducible apply zJ<;>intro _|with_reducible refine cb (wJ y) sG ?_|with_reducible refine cd (wJ y) sG ?_|with_reducible refine cb (wJ x) sG ?_|with_reducible refine cd (wJ x) sG ?_|simp(disch:=omega) only[go_sem, *,h0,h1,h7,h8,ar,hx,hy,hw,hp,aO.d])
   all_goals first|exact ab (congrArg D.bool (Dw hy hx (by assumption)).symm)|(rw[aD oM];exact⟨rfl,xr hy hx hn oM⟩)
 ·rintro σ bx ⟨h0,h1,h7,h8,hn⟩;have ar:¬(l.length:Int)<(l.length:Int):=oM;simp(disch:=omega) only[go_sem,h7,h8,ar];rw[tL]at hn;exact ab (congrArg D.bool hn.symm)
def Lg(l:List bS)(hl:l.length<=140737488355328):ao prog 189 [.sl 7 (l.map bS.d),.fn (.func 190) []] (.bool (kd bS.no l)):=by
 refine aw mixed (fn:=f189) (tab:=[(4,[(8,3)])]) ?_ rfl aj rfl;refine ax _ [.tmp 4] _ rfl rfl rfl aj ?_;simp(disch:=omega) only[go_sem];refine bo l.length (fun j σ bx=>σ 0= .sl 7 (l.map bS.d)/\σ 1= .fn (.func 190) []/\σ 7=I l.length/\σ 8=I j/\kd bS.no (l.take j)=true) ?_ ?_ ?_
 ·simp[go_sem,bB,ak,kd]
 ·rintro j σ bx hj ⟨h0,h1,h7,h8,hn⟩;obtain⟨x,hx⟩:=ba hj;have ar:(j:Int)<(l.length:Int):=oM;rcases j with _|j
  ·have h8:σ 8=I 0:=h8;have ar:(0:Int)<(l.length:Int):=oM;simp(disch:=omega) only[go_sem,h0,h1,h7,h8,ar];exact⟨congrArg I (wr 1 oM oM),s6 l⟩
  ·obtain⟨y,hy⟩:=ba (show j<l.length by omega);have hw:IntKind.i64.wrap (((j+1:Nat):Int) - 1)=(j:Int):=by rw[wr _ oM oM];omega
   have hp:(0:Int)<((j+1:Nat):Int):=oM;repeat' (first|with_reducible apply zJ<;>intro _|with_reducible refine cb (CZ y) sG ?_|with_reducible refine cd (CZ y) sG ?_|with_reducible refine cb (CZ x) sG ?_|with_reducible refine cd (CZ x) sG ?_|simp(disch:=omega) only[go_sem, *,h0,h1,h7,h8,ar,hx,hy,hw,hp,bS.d])
   all_goals first|exact ab (congrArg D.bool (Dw hy hx (by assumption)).symm)|(rw[aD oM];exact⟨rfl,xr hy hx hn oM⟩)
 ·rintro σ bx ⟨h0,h1,h7,h8,hn⟩;have ar:¬(l.length:Int)<(l.length:Int):=oM;simp(disch:=omega) only[go_sem,h7,h8,ar];rw[tL]at hn;exact ab (congrArg D.bool hn.symm)
def BT(fm:Int->Option D):Prop:=∀n v,fm n=some v->∃a b c d:Int,v= .agg [I a,I b,I c,I d]
def afl(l:List aO)(hl:l.length<=32)(bx0:ae):bj prog 180 200 [.sl 5 (l.map aO.d)] bx0 (fun d bx'=>∃e c es fm,d= .omap 206 e/\bx' 206=⟨e,3,0,266,I c::es⟩/\om fm es/\(∀n,(fm n).isSome=(l.map aO.cw).contains n)/\BT fm/\∀s,s<200->bx' s=bx0 s) (fun _ _=>False):=by
 refine aI (fn:=f180) (tab:=[]) (base:=200) mixed ?_ rfl aj rfl;refine aJ _ [.tmp 2] 20 rfl rfl rfl aj ?_;simp(disch:=omega) only[go_sem];refine bo l.length (fun j σ bx=>σ 3= .omap 206 ((bx0 206).ep+1)/\σ 7= .sl 5 (l.map aO.d)/\σ 8=I l.length/\σ 9=I j/\(∃c es fm,bx 206=⟨(bx0 206).ep+1,3,0,266,I c::es⟩/\om fm es/\(∀n,(fm n).isSome=((l.take j).map aO.cw).contains n)/\BT fm)/\∀s,s<200->bx s=bx0 s) ?_ ?_ ?_
 ·simp[go_sem,ak];exact⟨⟨0,[],⟨rfl,rfl⟩,_,om.nil,(fun n=>rfl),fun n v h=>by cases h⟩,fun s hs h=>absurd h oM⟩
 ·rintro j σ bx hj ⟨h3,h7,h8,h9,⟨c,es,fm,hb,hm,hf,hv⟩,hs⟩;obtain⟨x,hx⟩:=ba hj;have ar:(j:Int)<(l.length:Int):=oM;obtain⟨es',c',hu,tB⟩:=hm.ak x.cw (.agg [I x.m0,I x.m1,I x.m2,I x.m3]) c;simp(disch:=omega) only[go_sem,h3,h7,h8,h9,ar,hx,hb,hu,aO.d,fM];rw[aD oM];refine⟨rfl,⟨_,_,_,rfl,tB,(fun n=>?_),fun n v h=>?_⟩,fun s dW=>?_⟩
  ·rw[List.take_add_one,hx];simp only[Option.toList_some,List.map_append,mC,List.map_nil,List.contains_append];by_cases hn:n=x.cw
   ·simp[hn]
   ·rw[if_neg hn,hf n];simp[hn]
  ·by_cases hn:n=x.cw
   ·simp only[if_pos hn]at h;injection h with h;exact⟨_,_,_,_,h.symm⟩
   ·simp only[if_neg hn]at h;exact hv n v h
  ·rw[if_neg oM,if_neg oM,if_neg oM];exact hs s dW
 ·rintro σ bx ⟨h3,h7,h8,h9,⟨c,es,fm,hb,hm,hf,hv⟩,hs⟩;have ar:¬(l.length:Int)<(l.length:Int):=oM;simp(disch:=omega) only[go_sem,h3,h8,h9,ar];exact⟨_,_,_,_,rfl,hb,hm,(by rw[tL]at hf;exact hf),hv,hs⟩
theorem E6{r:Option (Nat×D)}{fm:Int->Option D}{n:Int}(h:r.map (·.2)=fm n)(hv:BT fm):∃a b c d,r8 (some (.agg [I 0,I 0,I 0,I 0])) true (some r)=some (.aL [.agg [I a,I b,I c,I d],.bool (fm n).isSome]):=by
 cases r with
 |none=>exact⟨0,0,0,0,by rw[<-h];rfl⟩
 |some q=>
  obtain⟨j,v⟩:=q;obtain⟨a,b,c,d,rfl⟩:=hv n v h.symm;exact⟨a,b,c,d,by rw[<-h];rfl⟩
def Q7{bx:ae}{e:Nat}{c:Int}{es:List D}{fm:Int->Option D}{ls:List Int}(hb:bx 206=⟨e,3,0,266,I c::es⟩)(hm:om fm es)(hf:∀n,(fm n).isSome=ls.contains n)(hv:BT fm)(x:bS):
 bj prog 188 300 [.omap 206 e,x.d] bx (fun d bx'=>d= .bool (kV ls x)/\∀s,s<300->bx' s=bx s) (fun _ _=>False):=by
 refine aI (fn:=f188) (tab:=[]) (base:=300) mixed ?_ rfl aj rfl;refine aJ _ [.tmp 4] 59 rfl rfl rfl aj ?_;obtain⟨r1,g1,g2⟩:=hm.find x.from_;obtain⟨r2,k1,k2⟩:=hm.find x.SI;obtain⟨a1,b1,c1,d1,v1⟩:=E6 g2 hv;obtain⟨a2,b2,c2,d2,v2⟩:=E6 k2 hv;rw[hf]at v1 v2;repeat' (first|with_reducible apply zJ<;>intro _|with_reducible refine cb (rh _ _ _) sG ?_|with_reducible refine cd (rh _ _ _) sG ?_|simp(disch:=omega) only[go_sem, *,hb,g1,k1,v1,v2,bS.d])
 all_goals exact⟨congrArg D.bool (by simp_all[kV]),fun s hs=>by repeat rw[if_neg oM]⟩
def Mx{bx0:ae}{e e5:Nat}{c:Int}{es:List D}{fm:Int->Option D}{ls:List Int}(h5:bx0 5=⟨e5,1,1,266,[.omap 206 e]⟩)(hb:bx0 206=⟨e,3,0,266,I c::es⟩)(hm:om fm es)(hf:∀n,(fm n).isSome=ls.contains n)(hv:BT fm):
 cn 187 [.loc 5 e5 0 0] 207 250 bx0 bS.d (fun _=>True) (fun x=> !kV ls x):=by
 intro bx x hs _;refine aI (fn:=f187) (tab:=[]) (base:=250) mixed ?_ rfl aj rfl;refine aJ _ [.tmp 3] 8 rfl rfl rfl aj ?_;have g5:=(hs 5 oM).trans h5;have gb:=(hs 206 oM).trans hb;simp(disch:=omega) only[go_sem,g5,bS.d];refine aC (Q7 (c:=c) (ls:=ls) (by simp[ak,gb]) hm hf hv x) rfl ?_;rintro d bK ⟨rfl,hk⟩;simp(disch:=omega) only[go_sem];exact fun s hs=>by rw[hk s oM];simp only[ak];rw[if_neg oM]
def dM(bs:List aO)(ts:List bS):Int:=if 32<bs.length\/4096<ts.length then 2 else if bs.all ft&&kd aO.cw bs&&ts.all (kV (bs.map aO.cw))&&kd bS.no ts then 0 else 400
def qp{α:Type}(p:α->Bool)(l:List α):(l.any fun x=> !p x)= !l.all p:=by simp[List.any_eq_not_all_not]
def MG(bs:List aO)(ts:List bS):bj prog 128 0 [.sl 5 (bs.map aO.d),.sl 7 (ts.map bS.d)] (fun _=> .none) (fun d bx=>d=I (dM bs ts)) (fun _ _=>False):=by
 refine aI (fn:=f128) (tab:=[]) (base:=0) mixed ?_ rfl aj rfl;refine aJ _ [.tmp 4] 33 rfl rfl rfl aj ?_;simp(disch:=omega) only[go_sem];have big:(32<bs.length\/4096<ts.length)->I 2=I (dM bs ts):=fun h=>congrArg I (by unfold dM;rw[if_pos h]);refine bg (fun h1=>?_) (fun h1=>?_)
 ·simp(disch:=omega) only[go_sem,h1,decide_true];exact big (.inl oM)
 simp(disch:=omega) only[go_sem,h1,decide_false];refine bg (fun h2=>?_) (fun h2=>?_)
 ·simp(disch:=omega) only[go_sem,h2,decide_true];exact big (.inr oM)
 simp(disch:=omega) only[go_sem,h2,decide_false];have e:dM bs ts=if bs.all ft&&kd aO.cw bs&&ts.all (kV (bs.map aO.cw))&&kd bS.no ts then 0 else 400:=by unfold dM;rw[if_neg oM]
 have no:(bs.all ft&&kd aO.cw bs&&ts.all (kV (bs.map aO.cw))&&kd bS.no ts)=false->I 400=I (dM bs ts):=fun h=>congrArg I (by rw[e,h];rfl);refine aC (afl bs oM _) rfl ?_;rintro d bx1 ⟨e1,c,es,fm,rfl,b1,hm,hf,hv,qm⟩;simp(disch:=omega) only[go_sem];refine av (Tc (f:=182) (caps:=[]) (p:=fun b=> !ft b) bs oM (fun b _=>Mw b) (fun b=>rfl) sG) sG ?_;simp(disch:=omega) only[go_sem,qp];refine aY (fun h3=>?_) (fun h3=>?_)
 rotate_left
 ·simp(disch:=omega) only[go_sem,h3];exact no (by simp only[h3,Bool.false_and])
 simp(disch:=omega) only[go_sem,h3];refine av (I0 bs oM) sG ?_;simp(disch:=omega) only[go_sem,h3];refine aY (fun h4=>?_) (fun h4=>?_)
 rotate_left
 ·simp(disch:=omega) only[go_sem,h3,h4];exact no (by simp only[h4,Bool.and_false,Bool.false_and])
 simp(disch:=omega) only[go_sem,h3,h4];refine aC (Te (n0:=207) (k:=250) (Mx (e:=e1) (e5:=(bx1 5).ep+1) (c:=c) (bx0:=ak (ak bx1 5 ⟨(bx1 5).ep+1,1,1,266,[.raw (.map none)]⟩) 5 ⟨(bx1 5).ep+1,1,1,266,[.omap 206 e1]⟩) (by simp[ak]) (by simp[ak,b1]) hm hf hv) oM ts oM (fun _ _=>trivial) _ (fun _ _=>rfl)) rfl ?_;rintro d bK ⟨rfl,hk⟩;simp(disch:=omega) only[go_sem,qp,h3,h4];refine aY (fun h5=>?_) (fun h5=>?_)
 rotate_left
 ·simp(disch:=omega) only[go_sem,h3,h4,h5];exact no (by simp only[h5,Bool.and_false,Bool.false_and])
 simp(disch:=omega) only[go_sem,h3,h4,h5];refine av (Lg ts oM) sG ?_;simp(disch:=omega) only[go_sem,h3,h4,h5];refine aY (fun h6=>?_) (fun h6=>?_)
 rotate_left
 ·simp(disch:=omega) only[go_sem,h3,h4,h5,h6];exact no (by simp only[h6,Bool.and_false])
 simp(disch:=omega) only[go_sem,h3,h4,h5,h6];exact congrArg I (by rw[e,h3,h4,h5,h6];rfl)
def MF(bs:List aO)(ts:List bS):ao prog 128 [.sl 5 (bs.map aO.d),.sl 7 (ts.map bS.d)] (I (dM bs ts)):=
 (MG bs ts).to (fun _ _ h=>h) (fun d' bx' h=>⟨I (dM bs ts),by rw[h];rfl,.refl _⟩)
def fG(n m:Int):ao prog 252 [I n,I m] (.bool (aN n 0 m)):=by
 refine aw mixed (fn:=f252) (tab:=[]) ?_ rfl aj rfl;refine ax _ [.tmp 4] _ rfl rfl rfl aj ?_;repeat' (first|with_reducible apply zJ<;>intro _|simp(disch:=omega) only[go_sem, *])
 all_goals first|exact .refl _|(refine ab (congrArg D.bool ?_);first|(simp(disch:=omega) [*,aN];done)|(simp[aN]at *;omega)|(rw[Bool.eq_iff_iff];simp[aN]at *;omega))
def Kb(b:aO):List Bool:=[oJ b.m0,oJ b.m1,oJ b.m2,oJ b.m3]
def sL(b:aO):ao prog 202 [b.d] (.bool (ft b)):=by
 refine aw mixed (fn:=f202) (tab:=[]) ?_ rfl aj rfl;refine ax _ [.tmp 2] _ rfl rfl rfl aj ?_;simp(disch:=omega) only[go_sem,aO.d];refine bo 4 (fun k σ bx=>σ 1= .loc 1 1 0 0/\bx 1=⟨1,1,5,119,[b.d]⟩/\σ 3=I k/\((Kb b).take k).all id=true) ?_ ?_ ?_
 ·simp[go_sem,ak,Bx.none]
 ·rintro k σ bx hk ⟨h1,b1,h3,hn⟩;obtain rfl|rfl|rfl|rfl:k=0\/k=1\/k=2\/k=3:=oM
  ·have h3:σ 3=I 0:=h3;repeat' (first|with_reducible apply zJ<;>intro _|with_reducible refine cb (fG _ _) sG ?_|with_reducible refine cd (fG _ _) sG ?_|simp(disch:=omega) only[go_sem, *,h1,b1,h3,aO.d])
   ·simp_all[Kb,oJ,wr]
   ·exact ab (congrArg D.bool (by simp_all[ft,oJ]))
  ·have h3:σ 3=I 1:=h3;repeat' (first|with_reducible apply zJ<;>intro _|with_reducible refine cb (fG _ _) sG ?_|with_reducible refine cd (fG _ _) sG ?_|simp(disch:=omega) only[go_sem, *,h1,b1,h3,aO.d])
   ·simp_all[Kb,oJ,wr]
   ·exact ab (congrArg D.bool (by simp_all[ft,oJ]))
  ·have h3:σ 3=I 2:=h3;repeat' (first|with_reducible apply zJ<;>intro _|with_reducible refine cb (fG _ _) sG ?_|with_reducible refine cd (fG _ _) sG ?_|simp(disch:=omega) only[go_sem, *,h1,b1,h3,aO.d])
   ·simp_all[Kb,oJ,wr]
   ·exact ab (congrArg D.bool (by simp_all[ft,oJ]))
  ·have h3:σ 3=I 3:=h3;repeat' (first|with_reducible apply zJ<;>intro _|with_reducible refine cb (fG _ _) sG ?_|with_reducible refine cd (fG _ _) sG ?_|simp(disch:=omega) only[go_sem, *,h1,b1,h3,aO.d])
   ·simp_all[Kb,oJ,wr]
   ·exact ab (congrArg D.bool (by simp_all[ft,oJ]))
 ·rintro σ bx ⟨h1,b1,h3,hn⟩;have h3:σ 3=I 4:=h3;repeat' (first|with_reducible apply zJ<;>intro _|with_reducible refine cb (fG _ _) sG ?_|with_reducible refine cd (fG _ _) sG ?_|simp(disch:=omega) only[go_sem, *,h1,b1,h3,aO.d])
  all_goals exact ab (congrArg D.bool (by simp_all[ft,Kb]))
def C_(l:List aO)(hl:l.length<=140737488355328)(n:Int):ao prog 253 [.sl 5 (l.map aO.d),I n] (I (fh (fun b:aO=>decide (b.cw=n)) l)):=by
 refine aw mixed (fn:=f253) (tab:=[]) ?_ rfl aj rfl;refine ax _ [.tmp 4] _ rfl rfl rfl aj ?_;simp(disch:=omega) only[go_sem];refine bo l.length (fun j σ bx=>σ 0= .sl 5 (l.map aO.d)/\σ 1=I n/\σ 5=I j/\(l.take j).any (fun b:aO=>decide (b.cw=n))=false) ?_ ?_ ?_
 ·simp[go_sem,bB]
 ·rintro j σ bx hj ⟨h0,h1,h5,hn⟩;obtain⟨x,hx⟩:=ba hj;have ar:(j:Int)<(l.length:Int):=oM;repeat' (first|with_reducible apply zJ<;>intro _|simp(disch:=omega) only[go_sem, *,h0,h1,h5,ar,hx,aO.d])
  ·exact ab (congrArg I (mu hn hx (by simpa using(by assumption))).symm)
  ·rw[aD oM];exact⟨rfl,kY hn hx (by simpa using(by assumption))⟩
 ·rintro σ bx ⟨h0,h1,h5,hn⟩;have ar:¬(l.length:Int)<(l.length:Int):=oM;simp(disch:=omega) only[go_sem,h0,h5,ar];rw[tL]at hn;exact ab (congrArg I (jP hn).symm)
theorem Tm(l:List aO)(n:Int):decide (0<=fh (fun b:aO=>decide (b.cw=n)) l)=(l.map aO.cw).contains n:=by
 rw[show(l.map aO.cw).contains n=l.any (fun b:aO=>decide (b.cw=n)) by
  induction l with
  |nil=>rfl
  |cons b l ih=>rw[mC,List.contains_cons,List.any_cons,ih];congr 1;exact decide_eq_decide.2 ⟨Eq.symm,Eq.symm⟩]
 unfold fh;cases h:l.findIdx? (fun b:aO=>decide (b.cw=n))with
 |none=>rw[List.findIdx?_eq_none_iff]at h;simp;simpa using h
 |some i=>
  rw[List.findIdx?_eq_some_iff_getElem]at h;obtain⟨h1,h2,_⟩:=h;simp only[Int.natCast_nonneg,decide_true];exact(List.any_eq_true.2 ⟨l[i],List.getElem_mem _,h2⟩).symm
def Tn(l:List aO)(n:Int):0<=fh (fun b:aO=>decide (b.cw=n)) l<->(l.map aO.cw).contains n=true:=by rw[<-Tm,decide_eq_true_eq]
def sM(l:List aO)(hl:l.length<=140737488355328)(x:bS):ao prog 203 [.sl 5 (l.map aO.d),x.d] (.bool (kV (l.map aO.cw) x)):=by
 refine aw mixed (fn:=f203) (tab:=[]) ?_ rfl aj rfl;refine ax _ [.tmp 4] _ rfl rfl rfl aj ?_;repeat' (first|with_reducible apply zJ<;>intro _|with_reducible refine cb (fG _ _) sG ?_|with_reducible refine cd (fG _ _) sG ?_|with_reducible refine cb (C_ _ hl _) sG ?_|with_reducible refine cd (C_ _ hl _) sG ?_|simp(disch:=omega) only[go_sem, *,bS.d])
 all_goals (refine ab (congrArg D.bool ?_);(try simp only[Tn,Bool.not_eq_true]at *);unfold kV;simp only[*,Bool.true_and,Bool.and_true,Bool.false_and,Bool.and_false,decide_true,decide_false,nT,nF];try (unfold aN;simp[*]))
def mW{α:Type}{p:α->Bool}{l:List α}{j:Nat}{x:α}(hx:l[j]? =some x)(h:(l.take j).all p=true)(h1:p x=true):(l.take (j+1)).all p=true:=by rw[List.take_add_one,hx];simp only[Option.toList_some,List.all_append,h,List.all_cons,h1,List.all_nil,Bool.and_self]
def qZ{α:Type}{p:α->Bool}{l:List α}{j:Nat}{x:α}(hx:l[j]? =some x)(h1:p x=false):l.all p=false:=
 List.all_eq_false.2 ⟨x,mG hx,by simp[h1]⟩
def LQ(bs:List aO)(ts:List bS):ao prog 143 [.sl 5 (bs.map aO.d),.sl 7 (ts.map bS.d)] (I (dM bs ts)):=by
 refine aw mixed (fn:=f143) (tab:=[]) ?_ rfl aj rfl;refine ax _ [.tmp 4] _ rfl rfl rfl aj ?_;simp(disch:=omega) only[go_sem];have big:(32<bs.length\/4096<ts.length)->bN (I 2) (I (dM bs ts)):=fun h=>ab (congrArg I (by unfold dM;rw[if_pos h]));refine bg (fun h1=>?_) (fun h1=>?_)
 ·simp(disch:=omega) only[go_sem,h1,decide_true];exact big (.inl oM)
 simp(disch:=omega) only[go_sem,h1,decide_false];refine bg (fun h2=>?_) (fun h2=>?_)
 ·simp(disch:=omega) only[go_sem,h2,decide_true];exact big (.inr oM)
 simp(disch:=omega) only[go_sem];have e:dM bs ts=if bs.all ft&&kd aO.cw bs&&ts.all (kV (bs.map aO.cw))&&kd bS.no ts then 0 else 400:=by unfold dM;rw[if_neg oM]
 have no:(bs.all ft&&kd aO.cw bs&&ts.all (kV (bs.map aO.cw))&&kd bS.no ts)=false->bN (I 400) (I (dM bs ts)):=fun h=>ab (congrArg I (by rw[e,h];rfl));have yes:(bs.all ft&&kd aO.cw bs&&ts.all (kV (bs.map aO.cw))&&kd bS.no ts)=true->bN (I 0) (I (dM bs ts)):=fun h=>ab (congrArg I (by rw[e,h];rfl));clear e big;generalize dM bs ts=r at *;refine bo bs.length (fun j σ bx=>σ 0= .sl 5 (bs.map aO.d)/\σ 1= .sl 7 (ts.map bS.d)/\σ 5=I j/\(bs.take j).all ft=true/\kd aO.cw (bs.take j)=true) ?_ ?_ ?_
 ·simp[go_sem,bB,ak,kd]
 ·rintro j σ bx hj ⟨h0,lf,h5,hn,hu⟩;obtain⟨x,hx⟩:=ba hj;have ar:(j:Int)<(bs.length:Int):=oM;rcases j with _|j
  ·have h5:σ 5=I 0:=h5;have ar:(0:Int)<(bs.length:Int):=oM;have fin:ft x=true->(bs.take 1).all ft=true:=fun h=>mW hx hn h;repeat' (first|with_reducible apply zJ<;>intro _|with_reducible refine cb (sL x) sG ?_|with_reducible refine cd (sL x) sG ?_|simp(disch:=omega) only[go_sem, *,h0,lf,h5,ar,hx])
   all_goals first|exact no (by rw[qZ hx (by assumption)];rfl)|exact⟨congrArg I (wr 1 oM oM),by first|exact⟨fin (by assumption),s6 bs⟩|exact fin (by assumption)|exact s6 bs⟩
  ·obtain⟨y,hy⟩:=ba (show j<bs.length by omega);have hw:IntKind.i64.wrap (((j+1:Nat):Int) - 1)=(j:Int):=by rw[wr _ oM oM];omega
   have hp:(0:Int)<((j+1:Nat):Int):=oM;repeat' (first|with_reducible apply zJ<;>intro _|with_reducible refine cb (sL x) sG ?_|with_reducible refine cd (sL x) sG ?_|simp(disch:=omega) only[go_sem, *,h0,lf,h5,ar,hx,hy,hw,hp])
   all_goals first|exact no (by rw[qZ hx (by assumption)];rfl)|exact no (by rw[Dw hy hx (by assumption),Bool.and_false];rfl)|(rw[aD oM];exact⟨rfl,mW hx hn (by assumption),xr hy hx hu oM⟩)
 rintro σ bx ⟨h0,lf,h5,hn,hu⟩;have ar:¬(bs.length:Int)<(bs.length:Int):=oM;rw[tL]at hn hu;simp(disch:=omega) only[go_sem,h0,h5,ar];refine bo ts.length (fun j σ bx=>σ 0= .sl 5 (bs.map aO.d)/\σ 1= .sl 7 (ts.map bS.d)/\σ 6=I j/\(ts.take j).all (kV (bs.map aO.cw))=true/\kd bS.no (ts.take j)=true) ?_ ?_ ?_
 ·simp[go_sem,ak,kd,h0,lf]
 ·rintro j σ bx hj ⟨h0,lf,h6,sc,lF⟩;obtain⟨x,hx⟩:=ba hj;have ar:(j:Int)<(ts.length:Int):=oM;rcases j with _|j
  ·have h6:σ 6=I 0:=h6;have ar:(0:Int)<(ts.length:Int):=oM;have fin:kV (bs.map aO.cw) x=true->(ts.take 1).all (kV (bs.map aO.cw))=true:=fun h=>mW hx sc h;repeat' (first|with_reducible apply zJ<;>intro _|with_reducible refine cb (sM bs oM x) sG ?_|with_reducible refine cd (sM bs oM x) sG ?_|simp(disch:=omega) only[go_sem, *,h0,lf,h6,ar,hx])
   all_goals first|exact no (by rw[qZ hx (by assumption),Bool.and_false];rfl)|exact⟨congrArg I (wr 1 oM oM),by first|exact⟨fin (by assumption),s6 ts⟩|exact fin (by assumption)|exact s6 ts⟩
  ·obtain⟨y,hy⟩:=ba (show j<ts.length by omega);have hw:IntKind.i64.wrap (((j+1:Nat):Int) - 1)=(j:Int):=by rw[wr _ oM oM];omega
   have hp:(0:Int)<((j+1:Nat):Int):=oM;repeat' (first|with_reducible apply zJ<;>intro _|with_reducible refine cb (sM bs oM x) sG ?_|with_reducible refine cd (sM bs oM x) sG ?_|simp(disch:=omega) only[go_sem, *,h0,lf,h6,ar,hx,hy,hw,hp])
   all_goals first|exact no (by rw[qZ hx (by assumption),Bool.and_false];rfl)|exact no (by rw[Dw hy hx (by assumption),Bool.and_false])|(rw[aD oM];exact⟨rfl,mW hx sc (by assumption),xr hy hx lF oM⟩)
 rintro σ bx ⟨h0,lf,h6,sc,lF⟩;have ar:¬(ts.length:Int)<(ts.length:Int):=oM;rw[tL]at sc lF;simp(disch:=omega) only[go_sem,lf,h6,ar];exact yes (by rw[hn,hu,sc,lF];rfl)
end Go.V.St
