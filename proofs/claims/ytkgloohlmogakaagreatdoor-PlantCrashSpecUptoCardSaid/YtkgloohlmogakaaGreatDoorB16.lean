/- Plain laws: B16. -/
import Derived.Test.YtkgloohlmogakaaGreatDoorB11
set_option linter.all false
set_option maxHeartbeats 8000000
set_option maxRecDepth 100000
namespace Go.V.St
open Go.Proofs Go.RowKit Go.V.Lx Go.V.Gr Go.V.Ty
@[go_sem] def TT(len esz size:Nat)(g ag:Bool)(z:List D)(t e i j:Nat)(n:Int)(h:0<=n)(h':n<len)(h1:1<len)(h2:0<esz):fa ⟨.arr len esz g,size,ag,z⟩ (.loc t e i j) n=some (.loc t e i (j+n.toNat * esz)):=by simp[fa,k_,h,h',h1,h2]
@[go_sem] def ahi(n:Nat):dV n none none=some (0,n):=by simp[dV]
abbrev I(n:Int):D:=.int .i64 n
@[reducible] def ints(l:List Int):D:=.sl 1 (l.map (D.int .i64))
structure fM where
 f:Int
 t:Int
 w:Int
 deriving DecidableEq
@[reducible] def fM.d(x:fM):D:=.agg [I x.f,I x.t,I x.w]
structure iK where
 a:Int
 b:Int
 y:Int
 deriving DecidableEq
@[reducible] def iK.d(x:iK):D:=.agg [I x.a,I x.b,I x.y]
structure fX where
 gs:List fM
 o:Int
 ks:List iK
 deriving DecidableEq
@[reducible] def fX.l(x:fX):List D:=[.sl 3 (x.gs.map fM.d),I x.o,.sl 3 (x.ks.map iK.d)]
@[reducible] def fX.d(x:fX):D:=.agg x.l
structure Sign where
 t:ah
 c:List Int
 deriving DecidableEq
@[reducible] def Sign.d(x:Sign):D:=.agg [.str x.t,ints x.c]
structure gP where
 x:Int
 y:Int
 w:Int
 h:Int
 deriving DecidableEq
@[reducible] def gP.d(x:gP):D:=.agg [I x.x,I x.y,I x.w,I x.h]
structure fF where
 w:Int
 h:Int
 bl:List gP
 deriving DecidableEq
@[reducible] def fF.l(x:fF):List D:=[I x.w,I x.h,.sl 4 (x.bl.map gP.d)]
@[reducible] def fF.d(x:fF):D:=.agg x.l
structure cM where
 no:Int
 cy:Int
 lines:Int
 room:Int
 cells:Int
 speed:Int
 right:Bool
 jw:fX
 iJ:List Sign
 jW:fF
 deriving DecidableEq
@[reducible] def cM.d(x:cM):D:=.agg [I x.no,I x.cy,I x.lines,I x.room,I x.cells,I x.speed,.bool x.right,.sl 3 (x.jw.gs.map fM.d),I x.jw.o,.sl 3 (x.jw.ks.map iK.d),.sl 2 (x.iJ.map Sign.d),I x.jW.w,I x.jW.h,.sl 4 (x.jW.bl.map gP.d)]
structure cj where
 at_:Int
 iQ:Int
 kind:Int
 cy:Int
 deriving DecidableEq
@[reducible] def cj.d(x:cj):D:=.agg [I x.at_,I x.iQ,I x.kind,I x.cy]
structure aP where
 cy:Int
 m0:Int
 m1:Int
 m2:Int
 m3:Int
 deriving DecidableEq
@[reducible] def aP.d(x:aP):D:=.agg [I x.cy,I x.m0,I x.m1,I x.m2,I x.m3]
structure bS where
 no:Int
 at_:Int
 known:Int
 S_:Int
 from_:Int
 Te:Int
 ms:Int
 deriving DecidableEq
@[reducible] def bS.d(x:bS):D:=.agg [I x.no,I x.at_,I x.known,I x.S_,I x.from_,I x.Te,I x.ms]
structure Term where
 no:Int
 at_:Int
 known:Int
 cy:Int
 src:List ah
 DL:List ah
 cat:ah
 gone:Bool
 deriving DecidableEq
@[reducible] def Term.d(x:Term):D:=.agg [I x.no,I x.at_,I x.known,I x.cy,strs x.src,strs x.DL,.str x.cat,.bool x.gone]
structure cu where
 no:Int
 kind:Int
 sp:Int
 first:Int
 last:Int
 cy:Int
 from_:Int
 O9:Int
 known:Int
 ms:Int
 deriving DecidableEq
@[reducible] def cu.d(x:cu):D:=.agg [I x.no,I x.kind,I x.sp,I x.first,I x.last,I x.cy,I x.from_,I x.O9,I x.known,I x.ms]
structure Word where
 t:ah
 f:Int
 u:Int
 s:Int
 alts:List ah
 deriving DecidableEq
@[reducible] def Word.d(x:Word):D:=.agg [.str x.t,I x.f,I x.u,I x.s,strs x.alts]
structure bn where
 at_:Int
 src:Int
 seq:Int
 jX:Int
 kind:Int
 lQ:Int
 cut:Int
 words:List Word
 deriving DecidableEq
@[reducible] def bn.d(x:bn):D:=.agg [I x.at_,I x.src,I x.seq,I x.jX,I x.kind,I x.lQ,I x.cut,.sl 5 (x.words.map Word.d)]
structure bg where
 sources:Int
 eG:Int
 chunk:Int
 quiet:Int
 late:Int
 qA:Int
 most:Int
 eK:List aW
 eh:List Term
 nZ:List cu
 eF:List aP
 lj:List bS
 cx:List cM
 eZ:List cj
 heard:List bn
 deriving DecidableEq
@[reducible] def bg.d(x:bg):D:=.agg [I x.sources,I x.eG,I x.chunk,I x.quiet,I x.late,I x.qA,I x.most,.sl 6 (x.eK.map aW.d),.sl 8 (x.eh.map Term.d),.sl 10 (x.nZ.map cu.d),.sl 5 (x.eF.map aP.d),.sl 7 (x.lj.map bS.d),.sl 14 (x.cx.map cM.d),.sl 4 (x.eZ.map cj.d),.sl 8 (x.heard.map bn.d)]
theorem Ik{α:Type}{f:α->D}(h:∀x,(f x).pure=true):∀l:List α,D.aF (l.map f)=true
 |[]=>rfl
 |x::l=>by simp[D.aF,h x,Ik h l]
def wr(n:Int)(h1: -9223372036854775808<=n)(h2:n<=9223372036854775807):IntKind.i64.wrap n=n:=wrap_i64 oM oM
def aO(n lo hi:Int):Bool:=decide (lo<=n)&&decide (n<=hi)
def kh{α:Type}(k:α->Int):List α->Bool
 |[]=>true
 |[_]=>true
 |x::y::l=>decide (k x<k y)&&kh k (y::l)
def jo{α:Type}(p:α->Bool)(k:α->Int):Int->List α->Bool
 |_,[]=>true
 |last,x::l=>p x&&decide (last<k x)&&jo p k (k x) l
def n8{α:Type}(k:α->Int):Int->List α->Int
 |a,[]=>a
 |_,x::l=>n8 k (k x) l
theorem zb{α:Type}{k:α->Int}{x:α}:∀ {l:List α} {a:Int},n8 k a (l++[x])=k x
 |[],_=>rfl
 |_::l,_=>zb (l:=l)
theorem xC{α:Type}{p:α->Bool}{k:α->Int}:∀ {l:List α} {a:Int} {j:Nat} {x:α},l[j]? =some x->jo p k a l=(jo p k a (l.take j)&&p x&&decide (n8 k a (l.take j)<k x)&&jo p k (k x) (l.drop (j+1)))
 |[],_,j,x,h=>by simp at h
 |y::l,a,0,x,h=>by simp at h;subst h;simp[jo,n8]
 |y::l,a,j+1,x,h=>by
  have ih:=xC (p:=p) (k:=k) (a:=k y) (show l[j]? =some x by simpa using h);simp only[jo,List.take_succ_cons,List.drop_succ_cons,n8,ih,Bool.and_assoc]
def sU{α:Type}{k:α->Int}{a:Int}{l:List α}{j:Nat}{x:α}(h:l[j]? =some x):n8 k a (l.take (j+1))=k x:=by
 rw[List.take_add_one,h];exact zb
def xA{α:Type}{p:α->Bool}{k:α->Int}{a:Int}{l:List α}{j:Nat}{x:α}(h:l[j]? =some x)(hn:p x=false\/k x<=n8 k a (l.take j)):jo p k a l=false:=by
 rw[xC h];rcases hn with hn|hn
 ·simp[hn]
 ·rw[decide_eq_false oM,Bool.and_false,Bool.false_and]
def xB{α:Type}{p:α->Bool}{k:α->Int}{a:Int}{l:List α}{j:Nat}{x:α}(h:l[j]? =some x)(h1:jo p k a (l.take j)=true)(h2:p x=true)(h3:n8 k a (l.take j)<k x):jo p k a (l.take (j+1))=true:=by
 have hx:(l.take (j+1))[j]? =some x:=by
  have:=(gS.1 h).1;rw[List.getElem?_take_of_lt oM];exact h
 rw[xC hx,List.take_take,Nat.min_eq_left oM,h1,h2,decide_eq_true h3,List.drop_eq_nil_of_le (by simp;omega)];rfl
theorem AA{α:Type}{k:α->Int}:∀ {l:List α},kh k l=true<->∀i x y,l[i]? =some x->l[i+1]? =some y->k x<k y
 |[]=>⟨fun _ i x y h=>by simp at h,fun _=>rfl⟩
 |[a]=>⟨fun _ i x y _ h=>by simp at h,fun _=>rfl⟩
 |a::b::l=>by
  rw[kh,bA,decide_eq_true_eq,AA (l:=b::l)];constructor
  ·rintro⟨h1,h2⟩ i x y hx hy;cases i with
   |zero=>simp at hx hy;subst hx;subst hy;exact h1
   |succ i=>exact h2 i x y (by simpa using hx) (by simpa using hy)
  ·intro h;exact⟨h 0 a b rfl rfl,fun i x y hx hy=>h (i+1) x y (by simpa using hx) (by simpa using hy)⟩
theorem DM{α:Type}{k:α->Int}{l:List α}{j:Nat}{x y:α}(hx:l[j]? =some x)(hy:l[j+1]? =some y)(h:k y<=k x):kh k l=false:=by
 cases hb:kh k l with
 |false=>rfl
 |true=>have:=AA.1 hb j x y hx hy;omega
def xI{α:Type}{k:α->Int}{l:List α}{j:Nat}{x y:α}(hx:l[j]? =some x)(hy:l[j+1]? =some y)(h1:kh k (l.take (j+1))=true)(h:k x<k y):kh k (l.take (j+1+1))=true:=by
 refine AA.2 fun i a b ha hb=>?_;have hl:=(gS.1 hb).1;rw[List.length_take]at hl;rw[List.getElem?_take_of_lt oM]at ha hb;by_cases hi:i=j
 ·subst hi;rw[hx]at ha;rw[hy]at hb;injection ha with ha;injection hb with hb;subst ha;subst hb;exact h
 ·exact AA.1 h1 i a b (by rw[List.getElem?_take_of_lt oM];exact ha) (by rw[List.getElem?_take_of_lt oM];exact hb)
theorem tC{α:Type}{k:α->Int}(l:List α):kh k (l.take 1)=true:=by
 cases l with
 |nil=>rfl
 |cons a l=>rfl
end Go.V.St
namespace Go.V.St
open Go.Proofs Go.Proofs.Tryz Go.RowKit Go.V.Lx Go.V.Gr Go.V.Ty
def og(f u:Int):Bool:=decide (0<=f)&&decide (f<u)&&decide (u<=1099511627776)
def oP(h:cu):Bool:=aO h.no 0 1048576&&aO h.kind 1 5
def qc(h:cu):Bool:=og h.first h.last&&og h.from_ h.O9&&aO h.known 0 1099511627775
def qd(h:cu):Bool:=decide (h.kind=3)&&aO h.ms 1 1073741824|| !decide (h.kind=3)&&decide (h.ms=0)
def il(h:cu):Bool:=oP h&&aO h.sp (-1) 63&&aO h.cy (-1) 31&&qc h&&qd h
def jI(n a b:Int):ao prog 280 [I n,I a,I b] (.bool (aO n a b)):=by
 refine aw mixed (fn:=f280) (tab:=[]) ?_ rfl ak rfl;refine ax _ [.tmp 6] _ rfl rfl rfl ak ?_;repeat' (first|with_reducible apply zJ<;>intro _|simp(disch:=omega) only[go_sem, *])
 all_goals first|exact .refl _|(refine ab (congrArg D.bool ?_);first|(simp(disch:=omega) [*,aO];done)|(simp[aO]at *;omega)|(rw[Bool.eq_iff_iff];simp[aO]at *;omega))
def Kd(f u:Int):ao prog 284 [I f,I u] (.bool (og f u)):=by
 refine aw mixed (fn:=f284) (tab:=[]) ?_ rfl ak rfl;refine ax _ [.tmp 4] _ rfl rfl rfl ak ?_;repeat' (first|with_reducible apply zJ<;>intro _|simp(disch:=omega) only[go_sem, *])
 all_goals first|exact .refl _|(refine ab (congrArg D.bool ?_);first|(simp(disch:=omega) [*,og];done)|(simp[og]at *;omega)|(rw[Bool.eq_iff_iff];simp[og]at *;omega))
def Sb(h:cu):ao prog 279 [h.d] (.bool (oP h)):=by
 refine aw mixed (fn:=f279) (tab:=[]) ?_ rfl ak rfl;refine ax _ [.tmp 2] _ rfl rfl rfl ak ?_;repeat' (first|with_reducible apply zJ<;>intro _|with_reducible refine bY (jI _ _ _) sG ?_|with_reducible refine bZ (jI _ _ _) sG ?_|simp(disch:=omega) only[go_sem, *,cu.d])
 all_goals first|exact .refl _|(refine ab (congrArg D.bool ?_);first|(simp(disch:=omega) [*,oP];done)|(simp[oP]at *;omega)|(rw[Bool.eq_iff_iff];simp[oP]at *;omega))
def Sc(h:cu):ao prog 281 [h.d] (.bool (aO h.sp (-1) 63)):=by
 refine aw mixed (fn:=f281) (tab:=[]) ?_ rfl ak rfl;refine ax _ [.tmp 2] _ rfl rfl rfl ak ?_;repeat' (first|with_reducible apply zJ<;>intro _|with_reducible refine bY (jI _ _ _) sG ?_|with_reducible refine bZ (jI _ _ _) sG ?_|simp(disch:=omega) only[go_sem, *,cu.d])
 all_goals first|exact .refl _|(refine ab (congrArg D.bool ?_);first|(simp(disch:=omega) [*,];done)|(simp[]at *;omega)|(rw[Bool.eq_iff_iff];simp[]at *;omega))
def Sd(h:cu):ao prog 282 [h.d] (.bool (aO h.cy (-1) 31)):=by
 refine aw mixed (fn:=f282) (tab:=[]) ?_ rfl ak rfl;refine ax _ [.tmp 2] _ rfl rfl rfl ak ?_;repeat' (first|with_reducible apply zJ<;>intro _|with_reducible refine bY (jI _ _ _) sG ?_|with_reducible refine bZ (jI _ _ _) sG ?_|simp(disch:=omega) only[go_sem, *,cu.d])
 all_goals first|exact .refl _|(refine ab (congrArg D.bool ?_);first|(simp(disch:=omega) [*,];done)|(simp[]at *;omega)|(rw[Bool.eq_iff_iff];simp[]at *;omega))
def Se(h:cu):ao prog 283 [h.d] (.bool (qc h)):=by
 refine aw mixed (fn:=f283) (tab:=[]) ?_ rfl ak rfl;refine ax _ [.tmp 2] _ rfl rfl rfl ak ?_;repeat' (first|with_reducible apply zJ<;>intro _|with_reducible refine bY (jI _ _ _) sG ?_|with_reducible refine bZ (jI _ _ _) sG ?_|with_reducible refine bY (Kd _ _) sG ?_|with_reducible refine bZ (Kd _ _) sG ?_|simp(disch:=omega) only[go_sem, *,cu.d])
 all_goals first|exact .refl _|(refine ab (congrArg D.bool ?_);first|(simp(disch:=omega) [*,qc];done)|(simp[qc]at *;omega)|(rw[Bool.eq_iff_iff];simp[qc]at *;omega))
def Sg(h:cu):ao prog 285 [h.d] (.bool (qd h)):=by
 refine aw mixed (fn:=f285) (tab:=[]) ?_ rfl ak rfl;refine ax _ [.tmp 2] _ rfl rfl rfl ak ?_;repeat' (first|with_reducible apply zJ<;>intro _|with_reducible refine bY (jI _ _ _) sG ?_|with_reducible refine bZ (jI _ _ _) sG ?_|simp(disch:=omega) only[go_sem, *,cu.d])
 all_goals first|exact .refl _|(refine ab (congrArg D.bool ?_);first|(simp(disch:=omega) [*,qd];done)|(simp[qd]at *;omega)|(rw[Bool.eq_iff_iff];simp[qd]at *;omega))
def pT:D:=.agg [.fn (.func 279) [],.fn (.func 281) [],.fn (.func 282) [],.fn (.func 283) [],.fn (.func 285) []]
def Tu:ao prog 233 [] pT:=by
 refine aw mixed (fn:=f233) (tab:=[]) ?_ rfl ak rfl;refine ax _ [.cell 0 318] _ rfl rfl rfl ak ?_;simp(disch:=omega) only[go_sem];exact .refl _
def oZ(h:cu):List Bool:=[oP h,aO h.sp (-1) 63,aO h.cy (-1) 31,qc h,qd h]
def Hw(h:cu):ao prog 179 [h.d] (.bool (il h)):=by
 refine aw mixed (fn:=f179) (tab:=[]) ?_ rfl ak rfl;refine ax _ [.tmp 2] _ rfl rfl rfl ak ?_;simp(disch:=omega) only[go_sem,cu.d];refine av Tu sG ?_;simp(disch:=omega) only[go_sem,pT];refine bo 5 (fun k σ bx=>σ 1= .loc 1 1 0 0/\bx 1=⟨1,1,10,196,[h.d]⟩/\σ 5=pT/\σ 6=I k/\((oZ h).take k).all id=true) ?_ ?_ ?_
 ·simp[go_sem,aj,Bx.none,pT]
 ·rintro k σ bx hk ⟨h1,b1,h5,h6,hn⟩;obtain rfl|rfl|rfl|rfl|rfl:k=0\/k=1\/k=2\/k=3\/k=4:=oM
  ·have h6:σ 6=I 0:=h6;repeat' (first|with_reducible apply zJ<;>intro _|with_reducible refine bY (Sb h) sG ?_|with_reducible refine bZ (Sb h) sG ?_|simp(disch:=omega) only[go_sem, *,pT,cu.d,h1,b1,h5,h6])
   ·simp_all[oZ,wr]
   ·refine ab (congrArg D.bool ?_);simp_all[il,oZ]
  ·have h6:σ 6=I 1:=h6;repeat' (first|with_reducible apply zJ<;>intro _|with_reducible refine bY (Sc h) sG ?_|with_reducible refine bZ (Sc h) sG ?_|simp(disch:=omega) only[go_sem, *,pT,cu.d,h1,b1,h5,h6])
   ·simp_all[oZ,wr]
   ·refine ab (congrArg D.bool ?_);simp_all[il,oZ]
  ·have h6:σ 6=I 2:=h6;repeat' (first|with_reducible apply zJ<;>intro _|with_reducible refine bY (Sd h) sG ?_|with_reducible refine bZ (Sd h) sG ?_|simp(disch:=omega) only[go_sem, *,pT,cu.d,h1,b1,h5,h6])
   ·simp_all[oZ,wr]
   ·refine ab (congrArg D.bool ?_);simp_all[il,oZ]
  ·have h6:σ 6=I 3:=h6;repeat' (first|with_reducible apply zJ<;>intro _|with_reducible refine bY (Se h) sG ?_|with_reducible refine bZ (Se h) sG ?_|simp(disch:=omega) only[go_sem, *,pT,cu.d,h1,b1,h5,h6])
   ·simp_all[oZ,wr]
   ·refine ab (congrArg D.bool ?_);simp_all[il,oZ]
  ·have h6:σ 6=I 4:=h6;repeat' (first|with_reducible apply zJ<;>intro _|with_reducible refine bY (Sg h) sG ?_|with_reducible refine bZ (Sg h) sG ?_|simp(disch:=omega) only[go_sem, *,pT,cu.d,h1,b1,h5,h6])
   ·simp_all[oZ,wr]
   ·refine ab (congrArg D.bool ?_);simp_all[il,oZ]
 ·rintro σ bx ⟨h1,b1,h5,h6,hn⟩;have h6:σ 6=I 5:=h6;repeat' (first|with_reducible apply zJ<;>intro _|simp(disch:=omega) only[go_sem, *,h6])
  refine ab (congrArg D.bool ?_);simp_all[oZ,il]
def jO(l:List cu):Int:=if 1024<l.length then 2 else if jo il cu.no (-1) l then 0 else 350
def QF(l:List cu):ao prog 127 [.sl 10 (l.map cu.d)] (I (jO l)):=by
 refine aw mixed (fn:=f127) (tab:=[]) ?_ rfl ak rfl;refine ax _ [.tmp 2] _ rfl rfl rfl ak ?_;simp(disch:=omega) only[go_sem];refine bh (fun h1=>?_) (fun h1=>?_)
 ·simp(disch:=omega) only[go_sem];exact ab (congrArg I (by unfold jO;rw[if_pos oM]))
 have hle:l.length<=1024:=oM;have e:jO l=if jo il cu.no (-1) l then 0 else 350:=by unfold jO;rw[if_neg oM]
 rw[e];simp(disch:=omega) only[go_sem];refine bo l.length (fun k σ bx=>σ 9= .sl 10 (l.map cu.d)/\σ 10=I l.length/\σ 11=I k/\σ 3=I (n8 cu.no (-1) (l.take k))/\jo il cu.no (-1) (l.take k)=true) ?_ ?_ ?_
 ·simp[go_sem,aj,n8,jo]
 ·rintro k σ bx hk ⟨q9,oC,Iq,q3,hn⟩;obtain⟨x,hx⟩:=ba hk;have ar:(k:Int)<(l.length:Int):=oM;repeat' (first|with_reducible apply zJ<;>intro _|with_reducible refine bY (Hw x) sG ?_|with_reducible refine bZ (Hw x) sG ?_|simp(disch:=omega) only[go_sem, *,q9,oC,Iq,q3,ar,hx,cu.d])
  all_goals first|exact ab (congrArg I (by rw[xA hx (by first|exact .inl (by assumption)|exact .inr (by assumption))];rfl))|(rw[aE oM];exact⟨rfl,by rw[sU hx],xB hx hn (by assumption) oM⟩)
 ·rintro σ bx ⟨q9,oC,Iq,q3,hn⟩;have ar:¬(l.length:Int)<(l.length:Int):=oM;simp(disch:=omega) only[go_sem,oC,Iq,ar];rw[tL]at hn;exact ab (congrArg I (by rw[hn];rfl))
def Dt(n:Int):ao prog 248 [I n] (.bool (aO n 0 63)):=by
 refine aw mixed (fn:=f248) (tab:=[]) ?_ rfl ak rfl;refine ax _ [.tmp 2] _ rfl rfl rfl ak ?_;repeat' (first|with_reducible apply zJ<;>intro _|simp(disch:=omega) only[go_sem, *])
 all_goals first|exact .refl _|(refine ab (congrArg D.bool ?_);first|(simp(disch:=omega) [*,aO];done)|(simp[aO]at *;omega)|(rw[Bool.eq_iff_iff];simp[aO]at *;omega))
def KK(n:Int):ao prog 249 [I n] (.bool (aO n 0 31)):=by
 refine aw mixed (fn:=f249) (tab:=[]) ?_ rfl ak rfl;refine ax _ [.tmp 2] _ rfl rfl rfl ak ?_;repeat' (first|with_reducible apply zJ<;>intro _|simp(disch:=omega) only[go_sem, *])
 all_goals first|exact .refl _|(refine ab (congrArg D.bool ?_);first|(simp(disch:=omega) [*,aO];done)|(simp[aO]at *;omega)|(rw[Bool.eq_iff_iff];simp[aO]at *;omega))
def KN(n:Int):ao prog 251 [I n] (.bool (aO n 0 1099511627775)):=by
 refine aw mixed (fn:=f251) (tab:=[]) ?_ rfl ak rfl;refine ax _ [.tmp 2] _ rfl rfl rfl ak ?_;repeat' (first|with_reducible apply zJ<;>intro _|simp(disch:=omega) only[go_sem, *])
 all_goals first|exact .refl _|(refine ab (congrArg D.bool ?_);first|(simp(disch:=omega) [*,aO];done)|(simp[aO]at *;omega)|(rw[Bool.eq_iff_iff];simp[aO]at *;omega))
def KL(f u:Int):ao prog 250 [I f,I u] (.bool (og f u)):=by
 refine aw mixed (fn:=f250) (tab:=[]) ?_ rfl ak rfl;refine ax _ [.tmp 4] _ rfl rfl rfl ak ?_;repeat' (first|with_reducible apply zJ<;>intro _|simp(disch:=omega) only[go_sem, *])
 all_goals first|exact .refl _|(refine ab (congrArg D.bool ?_);first|(simp(disch:=omega) [*,og];done)|(simp[og]at *;omega)|(rw[Bool.eq_iff_iff];simp[og]at *;omega))
def u_(h:cu):ao prog 201 [h.d] (.bool (il h)):=by
 refine aw mixed (fn:=f201) (tab:=[]) ?_ rfl ak rfl;refine ax _ [.tmp 2] _ rfl rfl rfl ak ?_;repeat' (first|with_reducible apply zJ<;>intro _|with_reducible refine bY (Dt _) sG ?_|with_reducible refine bZ (Dt _) sG ?_|with_reducible refine bY (KK _) sG ?_|with_reducible refine bZ (KK _) sG ?_|with_reducible refine bY (KN _) sG ?_|with_reducible refine bZ (KN _) sG ?_|with_reducible refine bY (KL _ _) sG ?_|with_reducible refine bZ (KL _ _) sG ?_|simp(disch:=omega) only[go_sem, *,cu.d])
 all_goals first|exact .refl _|(refine ab (congrArg D.bool ?_);first|(simp(disch:=omega) [*,il,oP,qc,qd,aO,og];done)|(simp[il,oP,qc,qd,aO,og]at *;omega)|(rw[Bool.eq_iff_iff];simp[il,oP,qc,qd,aO,og]at *;omega))
def QM{h:cu}(hb:il h=true):0<=h.no:=by
 simp[il,oP,aO]at hb;omega
def OX(l:List cu):ao prog 142 [.sl 10 (l.map cu.d)] (I (jO l)):=by
 refine aw mixed (fn:=f142) (tab:=[]) ?_ rfl ak rfl;refine ax _ [.tmp 2] _ rfl rfl rfl ak ?_;simp(disch:=omega) only[go_sem];refine bh (fun h1=>?_) (fun h1=>?_)
 ·simp(disch:=omega) only[go_sem];exact ab (congrArg I (by unfold jO;rw[if_pos oM]))
 have hle:l.length<=1024:=oM;have e:jO l=if jo il cu.no (-1) l then 0 else 350:=by unfold jO;rw[if_neg oM]
 rw[e];simp(disch:=omega) only[go_sem];refine bo l.length (fun k σ bx=>σ 0= .sl 10 (l.map cu.d)/\σ 3=I k/\jo il cu.no (-1) (l.take k)=true) ?_ ?_ ?_
 ·simp[go_sem,bF,aj,jo]
 ·rintro k σ bx hk ⟨q0,q3,hn⟩;obtain⟨x,hx⟩:=ba hk;have ar:(k:Int)<(l.length:Int):=oM;rcases k with _|k
  ·have q3:σ 3=I 0:=q3;have ar:(0:Int)<(l.length:Int):=oM;repeat' (first|with_reducible apply zJ<;>intro _|with_reducible refine bY (u_ x) sG ?_|with_reducible refine bZ (u_ x) sG ?_|simp(disch:=omega) only[go_sem, *,q0,q3,ar,hx,cu.d])
   ·exact⟨congrArg I (wr 1 oM oM),xB hx hn (by assumption) (by have:=QM (by assumption);simp[n8];omega)⟩
   ·exact ab (congrArg I (by rw[xA hx (.inl (by assumption))];rfl))
  ·obtain⟨y,hy⟩:=ba (show k<l.length by omega);have h1:IntKind.i64.wrap (((k+1:Nat):Int) - 1)=(k:Int):=by rw[wr _ oM oM];omega
   have h0:(0:Int)<((k+1:Nat):Int):=oM;repeat' (first|with_reducible apply zJ<;>intro _|with_reducible refine bY (u_ x) sG ?_|with_reducible refine bZ (u_ x) sG ?_|simp(disch:=omega) only[go_sem, *,q0,q3,ar,hx,hy,h0,h1,cu.d])
   ·exact ab (congrArg I (by rw[xA hx (.inr (by rw[sU hy];assumption))];rfl))
   ·rw[aE oM];exact⟨rfl,xB hx hn (by assumption) (by rw[sU hy];omega)⟩
   ·exact ab (congrArg I (by rw[xA hx (.inl (by assumption))];rfl))
 ·rintro σ bx ⟨q0,q3,hn⟩;have ar:¬(l.length:Int)<(l.length:Int):=oM;simp(disch:=omega) only[go_sem,q0,q3,ar];rw[tL]at hn;exact ab (congrArg I (by rw[hn];rfl))
section
variable {f:FuncId} {caps:List D}
def Xd{p:Int->Bool}(l:List Int)(hl:l.length<=140737488355328)(hf:∀x∈l,ao prog f ((D.int .i64) x::caps) (.bool (p x)))(hp:∀x:Int,D.aF ((D.int .i64) x::caps)=true):
 ao prog 286 [.sl 1 (l.map (D.int .i64)),.fn (.func f) caps] (I (fk p l)):=by
 refine aw mixed (fn:=f286) (tab:=[]) ?_ rfl ak rfl;refine ax _ [.tmp 4] _ rfl rfl rfl ak ?_;simp(disch:=omega) only[go_sem];refine bo l.length (fun j σ bx'=>σ 0= .sl 1 (l.map (D.int .i64))/\σ 1= .fn (.func f) caps/\σ 7=I l.length/\σ 8=I j/\(l.take j).any p=false) (by simp[go_sem,bF]) ?_ ?_
 ·rintro j σ bx' hj ⟨h0,h1,h7,h8,hn⟩;obtain⟨x,hx⟩:=ba hj;have ar:(j:Int)<(l.length:Int):=oM;simp(disch:=omega) only[go_sem,h0,h1,h7,h8,ar,hx];refine av (hf x (mG hx)) (hp x) ?_;simp(disch:=omega) only[go_sem];refine aZ (fun hc=>?_) (fun hc=>?_)
  ·simp(disch:=omega) only[go_sem];exact ab (congrArg I (mD hn hx hc).symm)
  ·simp(disch:=omega) only[go_sem,h0,h1,h7,h8];rw[aE oM];exact⟨rfl,lp hn hx hc⟩
 ·rintro σ bx' ⟨h0,h1,h7,h8,hn⟩;have ar:¬(l.length:Int)<(l.length:Int):=oM;simp(disch:=omega) only[go_sem,h7,h8,ar];rw[tL]at hn;exact ab (congrArg I (jQ hn).symm)
def NR{p:Int->Bool}(l:List Int)(hl:l.length<=140737488355328)(hf:∀x∈l,ao prog f ((D.int .i64) x::caps) (.bool (p x)))(hp:∀x:Int,D.aF ((D.int .i64) x::caps)=true)(hq:D.aF [.sl 1 (l.map (D.int .i64)),.fn (.func f) caps]=true):
 ao prog 236 [.sl 1 (l.map (D.int .i64)),.fn (.func f) caps] (.bool (l.any p)):=by
 refine aw mixed (fn:=f236) (tab:=[]) ?_ rfl ak rfl;refine ax _ [.tmp 4] _ rfl rfl rfl ak ?_;simp(disch:=omega) only[go_sem];refine av (Xd l hl hf hp) hq ?_;simp(disch:=omega) only[go_sem];exact ab (congrArg D.bool (jK p l))
def TN{p:aP->Bool}(l:List aP)(hl:l.length<=140737488355328)(hf:∀x∈l,ao prog f (aP.d x::caps) (.bool (p x)))(hp:∀x:aP,D.aF (aP.d x::caps)=true):
 ao prog 234 [.sl 5 (l.map aP.d),.fn (.func f) caps] (I (fk p l)):=by
 refine aw mixed (fn:=f234) (tab:=[]) ?_ rfl ak rfl;refine ax _ [.tmp 4] _ rfl rfl rfl ak ?_;simp(disch:=omega) only[go_sem];refine bo l.length (fun j σ bx'=>σ 0= .sl 5 (l.map aP.d)/\σ 1= .fn (.func f) caps/\σ 7=I l.length/\σ 8=I j/\(l.take j).any p=false) (by simp[go_sem,bF]) ?_ ?_
 ·rintro j σ bx' hj ⟨h0,h1,h7,h8,hn⟩;obtain⟨x,hx⟩:=ba hj;have ar:(j:Int)<(l.length:Int):=oM;simp(disch:=omega) only[go_sem,h0,h1,h7,h8,ar,hx,aP.d];refine av (hf x (mG hx)) (hp x) ?_;simp(disch:=omega) only[go_sem];refine aZ (fun hc=>?_) (fun hc=>?_)
  ·simp(disch:=omega) only[go_sem];exact ab (congrArg I (mD hn hx hc).symm)
  ·simp(disch:=omega) only[go_sem,h0,h1,h7,h8];rw[aE oM];exact⟨rfl,lp hn hx hc⟩
 ·rintro σ bx' ⟨h0,h1,h7,h8,hn⟩;have ar:¬(l.length:Int)<(l.length:Int):=oM;simp(disch:=omega) only[go_sem,h7,h8,ar];rw[tL]at hn;exact ab (congrArg I (jQ hn).symm)
def TG{p:aP->Bool}(l:List aP)(hl:l.length<=140737488355328)(hf:∀x∈l,ao prog f (aP.d x::caps) (.bool (p x)))(hp:∀x:aP,D.aF (aP.d x::caps)=true)(hq:D.aF [.sl 5 (l.map aP.d),.fn (.func f) caps]=true):
 ao prog 181 [.sl 5 (l.map aP.d),.fn (.func f) caps] (.bool (l.any p)):=by
 refine aw mixed (fn:=f181) (tab:=[]) ?_ rfl ak rfl;refine ax _ [.tmp 4] _ rfl rfl rfl ak ?_;simp(disch:=omega) only[go_sem];refine av (TN l hl hf hp) hq ?_;simp(disch:=omega) only[go_sem];exact ab (congrArg D.bool (jK p l))
def TO{p:gP->Bool}(l:List gP)(hl:l.length<=140737488355328)(hf:∀x∈l,ao prog f (gP.d x::caps) (.bool (p x)))(hp:∀x:gP,D.aF (gP.d x::caps)=true):
 ao prog 323 [.sl 4 (l.map gP.d),.fn (.func f) caps] (I (fk p l)):=by
 refine aw mixed (fn:=f323) (tab:=[]) ?_ rfl ak rfl;refine ax _ [.tmp 4] _ rfl rfl rfl ak ?_;simp(disch:=omega) only[go_sem];refine bo l.length (fun j σ bx'=>σ 0= .sl 4 (l.map gP.d)/\σ 1= .fn (.func f) caps/\σ 7=I l.length/\σ 8=I j/\(l.take j).any p=false) (by simp[go_sem,bF]) ?_ ?_
 ·rintro j σ bx' hj ⟨h0,h1,h7,h8,hn⟩;obtain⟨x,hx⟩:=ba hj;have ar:(j:Int)<(l.length:Int):=oM;simp(disch:=omega) only[go_sem,h0,h1,h7,h8,ar,hx,gP.d];refine av (hf x (mG hx)) (hp x) ?_;simp(disch:=omega) only[go_sem];refine aZ (fun hc=>?_) (fun hc=>?_)
  ·simp(disch:=omega) only[go_sem];exact ab (congrArg I (mD hn hx hc).symm)
  ·simp(disch:=omega) only[go_sem,h0,h1,h7,h8];rw[aE oM];exact⟨rfl,lp hn hx hc⟩
 ·rintro σ bx' ⟨h0,h1,h7,h8,hn⟩;have ar:¬(l.length:Int)<(l.length:Int):=oM;simp(disch:=omega) only[go_sem,h7,h8,ar];rw[tL]at hn;exact ab (congrArg I (jQ hn).symm)
def TH{p:gP->Bool}(l:List gP)(hl:l.length<=140737488355328)(hf:∀x∈l,ao prog f (gP.d x::caps) (.bool (p x)))(hp:∀x:gP,D.aF (gP.d x::caps)=true)(hq:D.aF [.sl 4 (l.map gP.d),.fn (.func f) caps]=true):
 ao prog 293 [.sl 4 (l.map gP.d),.fn (.func f) caps] (.bool (l.any p)):=by
 refine aw mixed (fn:=f293) (tab:=[]) ?_ rfl ak rfl;refine ax _ [.tmp 4] _ rfl rfl rfl ak ?_;simp(disch:=omega) only[go_sem];refine av (TO l hl hf hp) hq ?_;simp(disch:=omega) only[go_sem];exact ab (congrArg D.bool (jK p l))
end
section
variable {f:FuncId} {caps:List D} {n0 k:Nat} {bx0:ae}
def TQ{bO:bS->Prop}{p:bS->Bool}(hf:cp f caps n0 k bx0 bS.d bO p)(hn:n0<=k)(l:List bS)(hl:l.length<=140737488355328)(hd:∀x∈l,bO x)(bx:ae)(hb:∀s,s<n0->bx s=bx0 s):
 mn prog (cJ prog) [] f238 0 [.sl 7 (l.map bS.d),.fn (.func f) caps] bx (fun d bx'=>d= .int .i64 (fk p l)/\∀s,s<k->bx' s=bx s) (fun _ _=>False):=by
 refine aL _ [.tmp 4] 19 rfl rfl rfl ak ?_;simp(disch:=omega) only[go_sem];refine bo l.length (fun j σ bx'=>σ 0= .sl 7 (l.map bS.d)/\σ 1= .fn (.func f) caps/\σ 7= .int .i64 l.length/\σ 8= .int .i64 j/\(l.take j).any p=false/\∀s,s<k->bx' s=bx s)
  ⟨by simp[go_sem,bF],by simp[go_sem,bF],by simp[go_sem],by simp[go_sem],by simp,fun _ _=>rfl⟩ ?_ ?_
 ·rintro j σ bx' hj ⟨h0,h1,h7,h8,hp,hk⟩;obtain⟨x,hx⟩:=ba hj;have ar:(j:Int)<(l.length:Int):=oM;simp(disch:=omega) only[go_sem,h0,h1,h7,h8,ar,hx,bS.d];refine aC (hf bx' x (fun s hs=>(hk s oM).trans (hb s hs)) (hd x (mG hx))) rfl ?_;rintro d bK ⟨rfl,bR⟩;simp(disch:=omega) only[go_sem];refine aZ (fun hc=>?_) (fun hc=>?_)
  ·simp(disch:=omega) only[go_sem];exact⟨by rw[mD hp hx hc],fun s hs=>(bR s hs).trans (hk s hs)⟩
  ·simp(disch:=omega) only[go_sem,h0,h1,h7,h8];rw[aE oM];exact⟨rfl,lp hp hx hc,fun s hs=>(bR s hs).trans (hk s hs)⟩
 ·rintro σ bx' ⟨h0,h1,h7,h8,hp,hk⟩;have ar:¬(l.length:Int)<(l.length:Int):=oM;simp(disch:=omega) only[go_sem,h7,h8,ar];rw[tL]at hp;exact⟨by rw[jQ hp],hk⟩
def TP{bO:bS->Prop}{p:bS->Bool}(hf:cp f caps n0 k bx0 bS.d bO p)(hn:n0<=k)(l:List bS)(hl:l.length<=140737488355328)(hd:∀x∈l,bO x)(bx:ae)(hb:∀s,s<n0->bx s=bx0 s):
 bj prog 238 0 [.sl 7 (l.map bS.d),.fn (.func f) caps] bx (fun d bx'=>d= .int .i64 (fk p l)/\∀s,s<k->bx' s=bx s) (fun _ _=>False):=aK mixed (TQ hf hn l hl hd bx hb) rfl ak rfl
def TL{bO:bS->Prop}{p:bS->Bool}(hf:cp f caps n0 k bx0 bS.d bO p)(hn:n0<=k)(l:List bS)(hl:l.length<=140737488355328)(hd:∀x∈l,bO x)(bx:ae)(hb:∀s,s<n0->bx s=bx0 s):
 mn prog (cJ prog) [] f186 0 [.sl 7 (l.map bS.d),.fn (.func f) caps] bx (fun d bx'=>d= .bool (l.any p)/\∀s,s<k->bx' s=bx s) (fun _ _=>False):=by
 refine aL _ [.tmp 4] 9 rfl rfl rfl ak ?_;simp(disch:=omega) only[go_sem];refine aC (TP hf hn l hl hd bx hb) rfl ?_;rintro d bK ⟨rfl,bR⟩;simp(disch:=omega) only[go_sem];exact⟨by rw[jK],bR⟩
def TJ{bO:bS->Prop}{p:bS->Bool}(hf:cp f caps n0 k bx0 bS.d bO p)(hn:n0<=k)(l:List bS)(hl:l.length<=140737488355328)(hd:∀x∈l,bO x)(bx:ae)(hb:∀s,s<n0->bx s=bx0 s):
 bj prog 186 0 [.sl 7 (l.map bS.d),.fn (.func f) caps] bx (fun d bx'=>d= .bool (l.any p)/\∀s,s<k->bx' s=bx s) (fun _ _=>False):=aK mixed (TL hf hn l hl hd bx hb) rfl ak rfl
end
def oE(fm:Int->Option D)(es:List D):Prop:=∃l:List (Int×D×Int),es=l.map (fun e=> .aI [.int .i64 e.1,e.2.1,.int .i64 e.2.2])/\∀n,fm n=(l.find? fun e=>e.1==n).map (·.2.1)
theorem oE.nil:oE (fun _=>none) []:=⟨[],rfl,fun _=>rfl⟩
theorem GQ(n:Int):∀(l:List (Int×D×Int)) (i:Nat),∃r,ff (.int .i64) (.int .i64 n) (l.map fun e=> .aI [.int .i64 e.1,e.2.1,.int .i64 e.2.2]) i=some r/\r.map (·.2)=(l.find? fun e=>e.1==n).map (·.2.1)/\∀j v,r=some (j,v)->i<=j/\∃e,l[j - i]? =some e/\e.1=n
 |[],i=>⟨none,rfl,rfl,fun _ _ h=>by cases h⟩
 |e::l,i=>by
  by_cases h:n=e.1
  ·refine⟨some (i,e.2.1),by simp[ff,mY,h],by simp[h],fun j v hj=>?_⟩;injection hj with hj;injection hj with hj;subst hj;exact⟨Nat.le_refl _,e,by simp,h.symm⟩
  ·have hb:(n==e.1)=false:=by simpa using h
   have qC:(e.1==n)=false:=by simpa using Ne.symm h
   obtain⟨r,h1,h2,h3⟩:=GQ n l (i+1);refine⟨r,by simp only[mC,ff,mY,hb];exact h1,by rw[h2,List.find?_cons,qC],fun j v hj=>?_⟩;obtain⟨g1,e',g2,g3⟩:=h3 j v hj;refine⟨by omega,e',?_,g3⟩;rw[show j - i=(j - (i+1))+1 by omega];simpa using g2
theorem oE.find{fm:Int->Option D}{es:List D}(h:oE fm es)(n:Int):∃r,ff (.int .i64) (.int .i64 n) es 0=some r/\r.map (·.2)=fm n:=by
 obtain⟨l,rfl,hl⟩:=h;obtain⟨r,h1,h2,_⟩:=GQ n l 0;exact⟨r,h1,h2.trans (hl n).symm⟩
theorem GR(n:Int)(v:D):∀(l:List (Int×D×Int)) (j:Nat) (e:Int×D×Int),l[j]? =some e->e.1=n->(∀i e',i<j->l[i]? =some e'->e'.1≠n)->∀m,((l.modify j fun e=>(n,v,e.2.2)).find? fun e=>e.1==m).map (·.2.1)=if m=n then some v else(l.find? fun e=>e.1==m).map (·.2.1)
 |[],j,e,h,_,_,m=>by simp at h
 |x::l,0,e,h,he,_,m=>by
  simp at h;subst h;by_cases hm:m=n
  ·simp[hm]
  ·have:(n==m)=false:=by simpa using Ne.symm hm
   simp[this,hm,he]
 |x::l,j+1,e,h,he,hn,m=>by
  have hx:=hn 0 x oM rfl;have ih:=GR n v l j e (by simpa using h) he (fun i e' hi h'=>hn (i+1) e' oM (by simpa using h')) m;by_cases hm:x.1=m
  ·subst hm;simp[hx]
  ·have:(x.1==m)=false:=by simpa using hm
   simp only[List.modify_succ_cons,List.find?_cons,this];exact ih
theorem JS(n:Int)(v:D):∀(l:List (Int×D×Int)) (j:Nat),(l.map fun e=>D.aI [.int .i64 e.1,e.2.1,.int .i64 e.2.2]).modify j (BN (.int .i64 n) v)=(l.modify j fun e=>(n,v,e.2.2)).map fun e=> .aI [.int .i64 e.1,e.2.1,.int .i64 e.2.2]
 |[],j=>by simp
 |e::l,0=>by simp[BN]
 |e::l,j+1=>by simpa using JS n v l j
theorem oE.aj{fm:Int->Option D}{es:List D}(h:oE fm es)(n:Int)(v:D)(c:Int):∃es' c',oI (.int .i64) (.int .i64 n) v c es=some (.int .i64 c'::es')/\oE (fun k=>if k=n then some v else fm k) es':=by
 obtain⟨l,rfl,hl⟩:=h;obtain⟨r,h1,h2,h3⟩:=GQ n l 0;cases r with
 |none=>
  refine⟨l.map (fun e=> .aI [.int .i64 e.1,e.2.1,.int .i64 e.2.2])++[.aI [.int .i64 n,v,.int .i64 c]],c+1,by simp only[oI,h1],l++[(n,v,c)],by simp,fun m=>?_⟩;have hnf:l.find? (fun e=>e.1==n)=none:=by simpa using h2.symm
  by_cases hm:m=n
  ·subst hm;simp[List.find?_append,hnf]
  ·have:(n==m)=false:=by simpa using Ne.symm hm
   simp[List.find?_append,hm,hl m,this]
 |some q=>
  obtain⟨j,v0⟩:=q;obtain⟨_,e,g1,g2⟩:=h3 j v0 rfl;simp only[Nat.sub_zero]at g1;refine⟨_,c,by simp only[oI,h1];rfl,l.modify j fun e=>(n,v,e.2.2),?_,fun m=>?_⟩
  ·exact JS n v l j
  ·show(if m=n then some v else fm m)=_;rw[hl m];refine(GR n v l j e g1 g2 (fun i e' hi h' bw=>?_) m).symm;have:∀(l:List (Int×D×Int)) (k j i:Nat) (v0:D) (e':Int×D×Int),ff (.int .i64) (.int .i64 n) (l.map fun e=> .aI [.int .i64 e.1,e.2.1,.int .i64 e.2.2]) k=some (some (k+j,v0))->l[i]? =some e'->e'.1=n->j<=i:=by
    intro l;induction l with
    |nil=>intro k j i v0 e' _ h;simp at h
    |cons x l ih=>
     intro k j i v0 e' hf hi he;by_cases hx:n=x.1
     ·simp[ff,mY,hx]at hf;omega
     ·have hb:(n==x.1)=false:=by simpa using hx
      simp only[mC,ff,mY,hb]at hf;cases i with
      |zero=>simp at hi;subst hi;exact absurd he.symm hx
      |succ i=>
       cases j with
       |zero=>omega
       |succ j=>
        have:=ih (k+1) j i v0 e' (by rw[show k+1+j=k+(j+1) by omega];exact hf) (by simpa using hi) he;omega
   have:=this l 0 j i v0 e' (by simpa using h1) h' bw;omega
end Go.V.St
namespace Go.V.St
open Go.Proofs Go.Proofs.Tryz Go.RowKit Go.V.Lx Go.V.Gr Go.V.Ty
def oU(n:Int):Bool:=aO n 0 1073741824
def fx(b:aP):Bool:=aO b.cy 0 31&&(oU b.m0&&oU b.m1&&oU b.m2&&oU b.m3)
def lf(ls:List Int)(x:bS):Bool:=aO x.no 0 1048576&&aO x.at_ 0 1099511627775&&aO x.known 0 1099511627775&&aO x.S_ 0 3&&ls.contains x.from_&&ls.contains x.Te&& !decide (x.from_=x.Te)&&aO x.ms 1 1073741824
def rD(n a b:Int):ao prog 235 [I n,I a,I b] (.bool (aO n a b)):=by
 refine aw mixed (fn:=f235) (tab:=[]) ?_ rfl ak rfl;refine ax _ [.tmp 6] _ rfl rfl rfl ak ?_;repeat' (first|with_reducible apply zJ<;>intro _|simp(disch:=omega) only[go_sem, *])
 all_goals first|exact .refl _|(refine ab (congrArg D.bool ?_);first|(simp(disch:=omega) [*,aO];done)|(simp[aO]at *;omega)|(rw[Bool.eq_iff_iff];simp[aO]at *;omega))
def M6(n:Int):ao prog 237 [I n] (.bool (!oU n)):=by
 refine aw mixed (fn:=f237) (tab:=[]) ?_ rfl ak rfl;refine ax _ [.tmp 2] _ rfl rfl rfl ak ?_;repeat' (first|with_reducible apply zJ<;>intro _|with_reducible refine bY (rD _ _ _) sG ?_|with_reducible refine bZ (rD _ _ _) sG ?_|simp(disch:=omega) only[go_sem, *])
 all_goals first|exact .refl _|(refine ab (congrArg D.bool ?_);first|(simp(disch:=omega) [*,oU];done)|(simp[oU]at *;omega)|(rw[Bool.eq_iff_iff];simp[oU]at *;omega))
def Gv(b:aP):ao prog 183 [b.d] (.bool (fx b)):=by
 have hc:=NR (f:=237) (caps:=[]) (p:=fun n=> !oU n) [b.m0,b.m1,b.m2,b.m3] sI (fun x _=>M6 x) (fun x=>rfl) rfl;refine aw mixed (fn:=f183) (tab:=[]) ?_ rfl ak rfl;refine ax _ [.tmp 2] _ rfl rfl rfl ak ?_;simp(disch:=omega) only[go_sem,aP.d];refine av (rD _ _ _) rfl ?_;simp(disch:=omega) only[go_sem];refine aZ (fun h1=>?_) (fun h1=>?_)
 ·simp(disch:=omega) only[go_sem,h1];refine pA hc (by simp[go_sem,BG,D.cells,D.aF,D.pure,D.one,lD,aj,cY,lv,I]) rfl ?_;simp(disch:=omega) only[go_sem,h1];exact ab (congrArg D.bool (by simp[fx,h1,Bool.and_assoc]))
 ·simp(disch:=omega) only[go_sem,h1];exact ab (congrArg D.bool (by simp[fx,h1,Bool.and_assoc]))
def MY(b:aP):ao prog 182 [b.d] (.bool (!fx b)):=by
 refine aw mixed (fn:=f182) (tab:=[]) ?_ rfl ak rfl;refine ax _ [.tmp 2] _ rfl rfl rfl ak ?_;repeat' (first|with_reducible apply zJ<;>intro _|with_reducible refine bY (Gv b) sG ?_|with_reducible refine bZ (Gv b) sG ?_|simp(disch:=omega) only[go_sem, *,aP.d])
 all_goals first|exact .refl _|(refine ab (congrArg D.bool ?_);first|(simp(disch:=omega) [*,];done)|(simp[]at *;omega)|(rw[Bool.eq_iff_iff];simp[]at *;omega))
def w_(b:aP):ao prog 185 [b.d] (I b.cy):=by
 refine aw mixed (fn:=f185) (tab:=[]) ?_ rfl ak rfl;refine ax _ [.tmp 2] _ rfl rfl rfl ak ?_;simp(disch:=omega) only[go_sem,aP.d];exact .refl _
def Dc(x:bS):ao prog 190 [x.d] (I x.no):=by
 refine aw mixed (fn:=f190) (tab:=[]) ?_ rfl ak rfl;refine ax _ [.tmp 2] _ rfl rfl rfl ak ?_;simp(disch:=omega) only[go_sem,bS.d];exact .refl _
def Jj(l:List aP)(hl:l.length<=140737488355328):ao prog 184 [.sl 5 (l.map aP.d),.fn (.func 185) []] (.bool (kh aP.cy l)):=by
 refine aw mixed (fn:=f184) (tab:=[(4,[(8,3)])]) ?_ rfl ak rfl;refine ax _ [.tmp 4] _ rfl rfl rfl ak ?_;simp(disch:=omega) only[go_sem];refine bo l.length (fun j σ bx=>σ 0= .sl 5 (l.map aP.d)/\σ 1= .fn (.func 185) []/\σ 7=I l.length/\σ 8=I j/\kh aP.cy (l.take j)=true) ?_ ?_ ?_
 ·simp[go_sem,bF,aj,kh]
 ·rintro j σ bx hj ⟨h0,h1,h7,h8,hn⟩;obtain⟨x,hx⟩:=ba hj;have ar:(j:Int)<(l.length:Int):=oM;rcases j with _|j
  ·have h8:σ 8=I 0:=h8;have ar:(0:Int)<(l.length:Int):=oM;simp(disch:=omega) only[go_sem,h0,h1,h7,h8,ar];exact⟨congrArg I (wr 1 oM oM),tC l⟩
  ·obtain⟨y,hy⟩:=ba (show j<l.length by omega);have hw:IntKind.i64.wrap (((j+1:Nat):Int) - 1)=(j:Int):=by rw[wr _ oM oM];omega
   have hp:(0:Int)<((j+1:Nat):Int):=oM;repeat' (first|with_reducible apply zJ<;>intro _|with_reducible refine bY (w_ y) sG ?_|with_reducible refine bZ (w_ y) sG ?_|with_reducible refine bY (w_ x) sG ?_|with_reducible refine bZ (w_ x) sG ?_|simp(disch:=omega) only[go_sem, *,h0,h1,h7,h8,ar,hx,hy,hw,hp,aP.d])
   all_goals first|exact ab (congrArg D.bool (DM hy hx (by assumption)).symm)|(rw[aE oM];exact⟨rfl,xI hy hx hn oM⟩)
 ·rintro σ bx ⟨h0,h1,h7,h8,hn⟩;have ar:¬(l.length:Int)<(l.length:Int):=oM;simp(disch:=omega) only[go_sem,h7,h8,ar];rw[tL]at hn;exact ab (congrArg D.bool hn.symm)
def LK(l:List bS)(hl:l.length<=140737488355328):ao prog 189 [.sl 7 (l.map bS.d),.fn (.func 190) []] (.bool (kh bS.no l)):=by
 refine aw mixed (fn:=f189) (tab:=[(4,[(8,3)])]) ?_ rfl ak rfl;refine ax _ [.tmp 4] _ rfl rfl rfl ak ?_;simp(disch:=omega) only[go_sem];refine bo l.length (fun j σ bx=>σ 0= .sl 7 (l.map bS.d)/\σ 1= .fn (.func 190) []/\σ 7=I l.length/\σ 8=I j/\kh bS.no (l.take j)=true) ?_ ?_ ?_
 ·simp[go_sem,bF,aj,kh]
 ·rintro j σ bx hj ⟨h0,h1,h7,h8,hn⟩;obtain⟨x,hx⟩:=ba hj;have ar:(j:Int)<(l.length:Int):=oM;rcases j with _|j
  ·have h8:σ 8=I 0:=h8;have ar:(0:Int)<(l.length:Int):=oM;simp(disch:=omega) only[go_sem,h0,h1,h7,h8,ar];exact⟨congrArg I (wr 1 oM oM),tC l⟩
  ·obtain⟨y,hy⟩:=ba (show j<l.length by omega);have hw:IntKind.i64.wrap (((j+1:Nat):Int) - 1)=(j:Int):=by rw[wr _ oM oM];omega
   have hp:(0:Int)<((j+1:Nat):Int):=oM;repeat' (first|with_reducible apply zJ<;>intro _|with_reducible refine bY (Dc y) sG ?_|with_reducible refine bZ (Dc y) sG ?_|with_reducible refine bY (Dc x) sG ?_|with_reducible refine bZ (Dc x) sG ?_|simp(disch:=omega) only[go_sem, *,h0,h1,h7,h8,ar,hx,hy,hw,hp,bS.d])
   all_goals first|exact ab (congrArg D.bool (DM hy hx (by assumption)).symm)|(rw[aE oM];exact⟨rfl,xI hy hx hn oM⟩)
 ·rintro σ bx ⟨h0,h1,h7,h8,hn⟩;have ar:¬(l.length:Int)<(l.length:Int):=oM;simp(disch:=omega) only[go_sem,h7,h8,ar];rw[tL]at hn;exact ab (congrArg D.bool hn.symm)
def Cd(fm:Int->Option D):Prop:=∀n v,fm n=some v->∃a b c d:Int,v= .agg [I a,I b,I c,I d]
def afW(l:List aP)(hl:l.length<=32)(bx0:ae):bj prog 180 200 [.sl 5 (l.map aP.d)] bx0 (fun d bx'=>∃e c es fm,d= .omap 206 e/\bx' 206=⟨e,3,0,266,I c::es⟩/\oE fm es/\(∀n,(fm n).isSome=(l.map aP.cy).contains n)/\Cd fm/\∀s,s<200->bx' s=bx0 s) (fun _ _=>False):=by
 refine aK (fn:=f180) (tab:=[]) (base:=200) mixed ?_ rfl ak rfl;refine aL _ [.tmp 2] 20 rfl rfl rfl ak ?_;simp(disch:=omega) only[go_sem];refine bo l.length (fun j σ bx=>σ 3= .omap 206 ((bx0 206).ep+1)/\σ 7= .sl 5 (l.map aP.d)/\σ 8=I l.length/\σ 9=I j/\(∃c es fm,bx 206=⟨(bx0 206).ep+1,3,0,266,I c::es⟩/\oE fm es/\(∀n,(fm n).isSome=((l.take j).map aP.cy).contains n)/\Cd fm)/\∀s,s<200->bx s=bx0 s) ?_ ?_ ?_
 ·simp[go_sem,aj];exact⟨⟨0,[],⟨rfl,rfl⟩,_,oE.nil,(fun n=>rfl),fun n v h=>by cases h⟩,fun s hs h=>absurd h oM⟩
 ·rintro j σ bx hj ⟨h3,h7,h8,h9,⟨c,es,fm,hb,hm,hf,hv⟩,hs⟩;obtain⟨x,hx⟩:=ba hj;have ar:(j:Int)<(l.length:Int):=oM;obtain⟨es',c',hu,tT⟩:=hm.aj x.cy (.agg [I x.m0,I x.m1,I x.m2,I x.m3]) c;simp(disch:=omega) only[go_sem,h3,h7,h8,h9,ar,hx,hb,hu,aP.d,fR];rw[aE oM];refine⟨rfl,⟨_,_,_,rfl,tT,(fun n=>?_),fun n v h=>?_⟩,fun s eb=>?_⟩
  ·rw[List.take_add_one,hx];simp only[Option.toList_some,List.map_append,mC,List.map_nil,List.contains_append];by_cases hn:n=x.cy
   ·simp[hn]
   ·rw[if_neg hn,hf n];simp[hn]
  ·by_cases hn:n=x.cy
   ·simp only[if_pos hn]at h;injection h with h;exact⟨_,_,_,_,h.symm⟩
   ·simp only[if_neg hn]at h;exact hv n v h
  ·rw[if_neg oM,if_neg oM,if_neg oM];exact hs s eb
 ·rintro σ bx ⟨h3,h7,h8,h9,⟨c,es,fm,hb,hm,hf,hv⟩,hs⟩;have ar:¬(l.length:Int)<(l.length:Int):=oM;simp(disch:=omega) only[go_sem,h3,h8,h9,ar];exact⟨_,_,_,_,rfl,hb,hm,(by rw[tL]at hf;exact hf),hv,hs⟩
theorem Fo{r:Option (Nat×D)}{fm:Int->Option D}{n:Int}(h:r.map (·.2)=fm n)(hv:Cd fm):∃a b c d,sk (some (.agg [I 0,I 0,I 0,I 0])) true (some r)=some (.aI [.agg [I a,I b,I c,I d],.bool (fm n).isSome]):=by
 cases r with
 |none=>exact⟨0,0,0,0,by rw[<-h];rfl⟩
 |some q=>
  obtain⟨j,v⟩:=q;obtain⟨a,b,c,d,rfl⟩:=hv n v h.symm;exact⟨a,b,c,d,by rw[<-h];rfl⟩
def Rx{bx:ae}{e:Nat}{c:Int}{es:List D}{fm:Int->Option D}{ls:List Int}(hb:bx 206=⟨e,3,0,266,I c::es⟩)(hm:oE fm es)(hf:∀n,(fm n).isSome=ls.contains n)(hv:Cd fm)(x:bS):
 bj prog 188 300 [.omap 206 e,x.d] bx (fun d bx'=>d= .bool (lf ls x)/\∀s,s<300->bx' s=bx s) (fun _ _=>False):=by
 refine aK (fn:=f188) (tab:=[]) (base:=300) mixed ?_ rfl ak rfl;refine aL _ [.tmp 4] 59 rfl rfl rfl ak ?_;obtain⟨r1,g1,g2⟩:=hm.find x.from_;obtain⟨r2,k1,k2⟩:=hm.find x.Te;obtain⟨a1,b1,c1,d1,v1⟩:=Fo g2 hv;obtain⟨a2,b2,c2,d2,v2⟩:=Fo k2 hv;rw[hf]at v1 v2;repeat' (first|with_reducible apply zJ<;>intro _|with_reducible refine bY (rD _ _ _) sG ?_|with_reducible refine bZ (rD _ _ _) sG ?_|simp(disch:=omega) only[go_sem, *,hb,g1,k1,v1,v2,bS.d])
 all_goals exact⟨congrArg D.bool (by simp_all[lf]),fun s hs=>by repeat rw[if_neg oM]⟩
def MZ{bx0:ae}{e e5:Nat}{c:Int}{es:List D}{fm:Int->Option D}{ls:List Int}(h5:bx0 5=⟨e5,1,1,266,[.omap 206 e]⟩)(hb:bx0 206=⟨e,3,0,266,I c::es⟩)(hm:oE fm es)(hf:∀n,(fm n).isSome=ls.contains n)(hv:Cd fm):
 cp 187 [.loc 5 e5 0 0] 207 250 bx0 bS.d (fun _=>True) (fun x=> !lf ls x):=by
 intro bx x hs _;refine aK (fn:=f187) (tab:=[]) (base:=250) mixed ?_ rfl ak rfl;refine aL _ [.tmp 3] 8 rfl rfl rfl ak ?_;have g5:=(hs 5 oM).trans h5;have gb:=(hs 206 oM).trans hb;simp(disch:=omega) only[go_sem,g5,bS.d];refine aC (Rx (c:=c) (ls:=ls) (by simp[aj,gb]) hm hf hv x) rfl ?_;rintro d bK ⟨rfl,hk⟩;simp(disch:=omega) only[go_sem];exact fun s hs=>by rw[hk s oM];simp only[aj];rw[if_neg oM]
def dU(bs:List aP)(ts:List bS):Int:=if 32<bs.length\/4096<ts.length then 2 else if bs.all fx&&kh aP.cy bs&&ts.all (lf (bs.map aP.cy))&&kh bS.no ts then 0 else 400
def qI{α:Type}(p:α->Bool)(l:List α):(l.any fun x=> !p x)= !l.all p:=by simp[List.any_eq_not_all_not]
def M8(bs:List aP)(ts:List bS):bj prog 128 0 [.sl 5 (bs.map aP.d),.sl 7 (ts.map bS.d)] (fun _=> .none) (fun d bx=>d=I (dU bs ts)) (fun _ _=>False):=by
 refine aK (fn:=f128) (tab:=[]) (base:=0) mixed ?_ rfl ak rfl;refine aL _ [.tmp 4] 33 rfl rfl rfl ak ?_;simp(disch:=omega) only[go_sem];have big:(32<bs.length\/4096<ts.length)->I 2=I (dU bs ts):=fun h=>congrArg I (by unfold dU;rw[if_pos h]);refine bh (fun h1=>?_) (fun h1=>?_)
 ·simp(disch:=omega) only[go_sem,h1,decide_true];exact big (.inl oM)
 simp(disch:=omega) only[go_sem,h1,decide_false];refine bh (fun h2=>?_) (fun h2=>?_)
 ·simp(disch:=omega) only[go_sem,h2,decide_true];exact big (.inr oM)
 simp(disch:=omega) only[go_sem,h2,decide_false];have e:dU bs ts=if bs.all fx&&kh aP.cy bs&&ts.all (lf (bs.map aP.cy))&&kh bS.no ts then 0 else 400:=by unfold dU;rw[if_neg oM]
 have no:(bs.all fx&&kh aP.cy bs&&ts.all (lf (bs.map aP.cy))&&kh bS.no ts)=false->I 400=I (dU bs ts):=fun h=>congrArg I (by rw[e,h];rfl);refine aC (afW bs oM _) rfl ?_;rintro d bx1 ⟨e1,c,es,fm,rfl,b1,hm,hf,hv,qE⟩;simp(disch:=omega) only[go_sem];refine av (TG (f:=182) (caps:=[]) (p:=fun b=> !fx b) bs oM (fun b _=>MY b) (fun b=>rfl) sG) sG ?_;simp(disch:=omega) only[go_sem,qI];refine aZ (fun h3=>?_) (fun h3=>?_)
 rotate_left
 ·simp(disch:=omega) only[go_sem,h3];exact no (by simp only[h3,Bool.false_and])
 simp(disch:=omega) only[go_sem,h3];refine av (Jj bs oM) sG ?_;simp(disch:=omega) only[go_sem,h3];refine aZ (fun h4=>?_) (fun h4=>?_)
 rotate_left
 ·simp(disch:=omega) only[go_sem,h3,h4];exact no (by simp only[h4,Bool.and_false,Bool.false_and])
 simp(disch:=omega) only[go_sem,h3,h4];refine aC (TJ (n0:=207) (k:=250) (MZ (e:=e1) (e5:=(bx1 5).ep+1) (c:=c) (bx0:=aj (aj bx1 5 ⟨(bx1 5).ep+1,1,1,266,[.raw (.map none)]⟩) 5 ⟨(bx1 5).ep+1,1,1,266,[.omap 206 e1]⟩) (by simp[aj]) (by simp[aj,b1]) hm hf hv) oM ts oM (fun _ _=>trivial) _ (fun _ _=>rfl)) rfl ?_;rintro d bK ⟨rfl,hk⟩;simp(disch:=omega) only[go_sem,qI,h3,h4];refine aZ (fun h5=>?_) (fun h5=>?_)
 rotate_left
 ·simp(disch:=omega) only[go_sem,h3,h4,h5];exact no (by simp only[h5,Bool.and_false,Bool.false_and])
 simp(disch:=omega) only[go_sem,h3,h4,h5];refine av (LK ts oM) sG ?_;simp(disch:=omega) only[go_sem,h3,h4,h5];refine aZ (fun h6=>?_) (fun h6=>?_)
 rotate_left
 ·simp(disch:=omega) only[go_sem,h3,h4,h5,h6];exact no (by simp only[h6,Bool.and_false])
 simp(disch:=omega) only[go_sem,h3,h4,h5,h6];exact congrArg I (by rw[e,h3,h4,h5,h6];rfl)
def M7(bs:List aP)(ts:List bS):ao prog 128 [.sl 5 (bs.map aP.d),.sl 7 (ts.map bS.d)] (I (dU bs ts)):=
 (M8 bs ts).to (fun _ _ h=>h) (fun d' bx' h=>⟨I (dU bs ts),by rw[h];rfl,.refl _⟩)
def fI(n m:Int):ao prog 252 [I n,I m] (.bool (aO n 0 m)):=by
 refine aw mixed (fn:=f252) (tab:=[]) ?_ rfl ak rfl;refine ax _ [.tmp 4] _ rfl rfl rfl ak ?_;repeat' (first|with_reducible apply zJ<;>intro _|simp(disch:=omega) only[go_sem, *])
 all_goals first|exact .refl _|(refine ab (congrArg D.bool ?_);first|(simp(disch:=omega) [*,aO];done)|(simp[aO]at *;omega)|(rw[Bool.eq_iff_iff];simp[aO]at *;omega))
def Kz(b:aP):List Bool:=[oU b.m0,oU b.m1,oU b.m2,oU b.m3]
def sZ(b:aP):ao prog 202 [b.d] (.bool (fx b)):=by
 refine aw mixed (fn:=f202) (tab:=[]) ?_ rfl ak rfl;refine ax _ [.tmp 2] _ rfl rfl rfl ak ?_;simp(disch:=omega) only[go_sem,aP.d];refine bo 4 (fun k σ bx=>σ 1= .loc 1 1 0 0/\bx 1=⟨1,1,5,119,[b.d]⟩/\σ 3=I k/\((Kz b).take k).all id=true) ?_ ?_ ?_
 ·simp[go_sem,aj,Bx.none]
 ·rintro k σ bx hk ⟨h1,b1,h3,hn⟩;obtain rfl|rfl|rfl|rfl:k=0\/k=1\/k=2\/k=3:=oM
  ·have h3:σ 3=I 0:=h3;repeat' (first|with_reducible apply zJ<;>intro _|with_reducible refine bY (fI _ _) sG ?_|with_reducible refine bZ (fI _ _) sG ?_|simp(disch:=omega) only[go_sem, *,h1,b1,h3,aP.d])
   ·simp_all[Kz,oU,wr]
   ·exact ab (congrArg D.bool (by simp_all[fx,oU]))
  ·have h3:σ 3=I 1:=h3;repeat' (first|with_reducible apply zJ<;>intro _|with_reducible refine bY (fI _ _) sG ?_|with_reducible refine bZ (fI _ _) sG ?_|simp(disch:=omega) only[go_sem, *,h1,b1,h3,aP.d])
   ·simp_all[Kz,oU,wr]
   ·exact ab (congrArg D.bool (by simp_all[fx,oU]))
  ·have h3:σ 3=I 2:=h3;repeat' (first|with_reducible apply zJ<;>intro _|with_reducible refine bY (fI _ _) sG ?_|with_reducible refine bZ (fI _ _) sG ?_|simp(disch:=omega) only[go_sem, *,h1,b1,h3,aP.d])
   ·simp_all[Kz,oU,wr]
   ·exact ab (congrArg D.bool (by simp_all[fx,oU]))
  ·have h3:σ 3=I 3:=h3;repeat' (first|with_reducible apply zJ<;>intro _|with_reducible refine bY (fI _ _) sG ?_|with_reducible refine bZ (fI _ _) sG ?_|simp(disch:=omega) only[go_sem, *,h1,b1,h3,aP.d])
   ·simp_all[Kz,oU,wr]
   ·exact ab (congrArg D.bool (by simp_all[fx,oU]))
 ·rintro σ bx ⟨h1,b1,h3,hn⟩;have h3:σ 3=I 4:=h3;repeat' (first|with_reducible apply zJ<;>intro _|with_reducible refine bY (fI _ _) sG ?_|with_reducible refine bZ (fI _ _) sG ?_|simp(disch:=omega) only[go_sem, *,h1,b1,h3,aP.d])
  all_goals exact ab (congrArg D.bool (by simp_all[fx,Kz]))
def Dn(l:List aP)(hl:l.length<=140737488355328)(n:Int):ao prog 253 [.sl 5 (l.map aP.d),I n] (I (fk (fun b:aP=>decide (b.cy=n)) l)):=by
 refine aw mixed (fn:=f253) (tab:=[]) ?_ rfl ak rfl;refine ax _ [.tmp 4] _ rfl rfl rfl ak ?_;simp(disch:=omega) only[go_sem];refine bo l.length (fun j σ bx=>σ 0= .sl 5 (l.map aP.d)/\σ 1=I n/\σ 5=I j/\(l.take j).any (fun b:aP=>decide (b.cy=n))=false) ?_ ?_ ?_
 ·simp[go_sem,bF]
 ·rintro j σ bx hj ⟨h0,h1,h5,hn⟩;obtain⟨x,hx⟩:=ba hj;have ar:(j:Int)<(l.length:Int):=oM;repeat' (first|with_reducible apply zJ<;>intro _|simp(disch:=omega) only[go_sem, *,h0,h1,h5,ar,hx,aP.d])
  ·exact ab (congrArg I (mD hn hx (by simpa using(by assumption))).symm)
  ·rw[aE oM];exact⟨rfl,lp hn hx (by simpa using(by assumption))⟩
 ·rintro σ bx ⟨h0,h1,h5,hn⟩;have ar:¬(l.length:Int)<(l.length:Int):=oM;simp(disch:=omega) only[go_sem,h0,h5,ar];rw[tL]at hn;exact ab (congrArg I (jQ hn).symm)
theorem TR(l:List aP)(n:Int):decide (0<=fk (fun b:aP=>decide (b.cy=n)) l)=(l.map aP.cy).contains n:=by
 rw[show(l.map aP.cy).contains n=l.any (fun b:aP=>decide (b.cy=n)) by
  induction l with
  |nil=>rfl
  |cons b l ih=>rw[mC,List.contains_cons,List.any_cons,ih];congr 1;exact decide_eq_decide.2 ⟨Eq.symm,Eq.symm⟩]
 unfold fk;cases h:l.findIdx? (fun b:aP=>decide (b.cy=n))with
 |none=>rw[List.findIdx?_eq_none_iff]at h;simp;simpa using h
 |some i=>
  rw[List.findIdx?_eq_some_iff_getElem]at h;obtain⟨h1,h2,_⟩:=h;simp only[Int.natCast_nonneg,decide_true];exact(List.any_eq_true.2 ⟨l[i],List.getElem_mem _,h2⟩).symm
def TS(l:List aP)(n:Int):0<=fk (fun b:aP=>decide (b.cy=n)) l<->(l.map aP.cy).contains n=true:=by rw[<-TR,decide_eq_true_eq]
def s7(l:List aP)(hl:l.length<=140737488355328)(x:bS):ao prog 203 [.sl 5 (l.map aP.d),x.d] (.bool (lf (l.map aP.cy) x)):=by
 refine aw mixed (fn:=f203) (tab:=[]) ?_ rfl ak rfl;refine ax _ [.tmp 4] _ rfl rfl rfl ak ?_;repeat' (first|with_reducible apply zJ<;>intro _|with_reducible refine bY (fI _ _) sG ?_|with_reducible refine bZ (fI _ _) sG ?_|with_reducible refine bY (Dn _ hl _) sG ?_|with_reducible refine bZ (Dn _ hl _) sG ?_|simp(disch:=omega) only[go_sem, *,bS.d])
 all_goals (refine ab (congrArg D.bool ?_);(try simp only[TS,Bool.not_eq_true]at *);unfold lf;simp only[*,Bool.true_and,Bool.and_true,Bool.false_and,Bool.and_false,decide_true,decide_false,nT,nF];try (unfold aO;simp[*]))
def m_{α:Type}{p:α->Bool}{l:List α}{j:Nat}{x:α}(hx:l[j]? =some x)(h:(l.take j).all p=true)(h1:p x=true):(l.take (j+1)).all p=true:=by rw[List.take_add_one,hx];simp only[Option.toList_some,List.all_append,h,List.all_cons,h1,List.all_nil,Bool.and_self]
def ry{α:Type}{p:α->Bool}{l:List α}{j:Nat}{x:α}(hx:l[j]? =some x)(h1:p x=false):l.all p=false:=
 List.all_eq_false.2 ⟨x,mG hx,by simp[h1]⟩
def Mh(bs:List aP)(ts:List bS):ao prog 143 [.sl 5 (bs.map aP.d),.sl 7 (ts.map bS.d)] (I (dU bs ts)):=by
 refine aw mixed (fn:=f143) (tab:=[]) ?_ rfl ak rfl;refine ax _ [.tmp 4] _ rfl rfl rfl ak ?_;simp(disch:=omega) only[go_sem];have big:(32<bs.length\/4096<ts.length)->bN (I 2) (I (dU bs ts)):=fun h=>ab (congrArg I (by unfold dU;rw[if_pos h]));refine bh (fun h1=>?_) (fun h1=>?_)
 ·simp(disch:=omega) only[go_sem,h1,decide_true];exact big (.inl oM)
 simp(disch:=omega) only[go_sem,h1,decide_false];refine bh (fun h2=>?_) (fun h2=>?_)
 ·simp(disch:=omega) only[go_sem,h2,decide_true];exact big (.inr oM)
 simp(disch:=omega) only[go_sem];have e:dU bs ts=if bs.all fx&&kh aP.cy bs&&ts.all (lf (bs.map aP.cy))&&kh bS.no ts then 0 else 400:=by unfold dU;rw[if_neg oM]
 have no:(bs.all fx&&kh aP.cy bs&&ts.all (lf (bs.map aP.cy))&&kh bS.no ts)=false->bN (I 400) (I (dU bs ts)):=fun h=>ab (congrArg I (by rw[e,h];rfl));have yes:(bs.all fx&&kh aP.cy bs&&ts.all (lf (bs.map aP.cy))&&kh bS.no ts)=true->bN (I 0) (I (dU bs ts)):=fun h=>ab (congrArg I (by rw[e,h];rfl));clear e big;generalize dU bs ts=r at *;refine bo bs.length (fun j σ bx=>σ 0= .sl 5 (bs.map aP.d)/\σ 1= .sl 7 (ts.map bS.d)/\σ 5=I j/\(bs.take j).all fx=true/\kh aP.cy (bs.take j)=true) ?_ ?_ ?_
 ·simp[go_sem,bF,aj,kh]
 ·rintro j σ bx hj ⟨h0,ly,h5,hn,hu⟩;obtain⟨x,hx⟩:=ba hj;have ar:(j:Int)<(bs.length:Int):=oM;rcases j with _|j
  ·have h5:σ 5=I 0:=h5;have ar:(0:Int)<(bs.length:Int):=oM;have fin:fx x=true->(bs.take 1).all fx=true:=fun h=>m_ hx hn h;repeat' (first|with_reducible apply zJ<;>intro _|with_reducible refine bY (sZ x) sG ?_|with_reducible refine bZ (sZ x) sG ?_|simp(disch:=omega) only[go_sem, *,h0,ly,h5,ar,hx])
   all_goals first|exact no (by rw[ry hx (by assumption)];rfl)|exact⟨congrArg I (wr 1 oM oM),by first|exact⟨fin (by assumption),tC bs⟩|exact fin (by assumption)|exact tC bs⟩
  ·obtain⟨y,hy⟩:=ba (show j<bs.length by omega);have hw:IntKind.i64.wrap (((j+1:Nat):Int) - 1)=(j:Int):=by rw[wr _ oM oM];omega
   have hp:(0:Int)<((j+1:Nat):Int):=oM;repeat' (first|with_reducible apply zJ<;>intro _|with_reducible refine bY (sZ x) sG ?_|with_reducible refine bZ (sZ x) sG ?_|simp(disch:=omega) only[go_sem, *,h0,ly,h5,ar,hx,hy,hw,hp])
   all_goals first|exact no (by rw[ry hx (by assumption)];rfl)|exact no (by rw[DM hy hx (by assumption),Bool.and_false];rfl)|(rw[aE oM];exact⟨rfl,m_ hx hn (by assumption),xI hy hx hu oM⟩)
 rintro σ bx ⟨h0,ly,h5,hn,hu⟩;have ar:¬(bs.length:Int)<(bs.length:Int):=oM;rw[tL]at hn hu;simp(disch:=omega) only[go_sem,h0,h5,ar];refine bo ts.length (fun j σ bx=>σ 0= .sl 5 (bs.map aP.d)/\σ 1= .sl 7 (ts.map bS.d)/\σ 6=I j/\(ts.take j).all (lf (bs.map aP.cy))=true/\kh bS.no (ts.take j)=true) ?_ ?_ ?_
 ·simp[go_sem,aj,kh,h0,ly]
 ·rintro j σ bx hj ⟨h0,ly,h6,sB,lM⟩;obtain⟨x,hx⟩:=ba hj;have ar:(j:Int)<(ts.length:Int):=oM;rcases j with _|j
  ·have h6:σ 6=I 0:=h6;have ar:(0:Int)<(ts.length:Int):=oM;have fin:lf (bs.map aP.cy) x=true->(ts.take 1).all (lf (bs.map aP.cy))=true:=fun h=>m_ hx sB h;repeat' (first|with_reducible apply zJ<;>intro _|with_reducible refine bY (s7 bs oM x) sG ?_|with_reducible refine bZ (s7 bs oM x) sG ?_|simp(disch:=omega) only[go_sem, *,h0,ly,h6,ar,hx])
   all_goals first|exact no (by rw[ry hx (by assumption),Bool.and_false];rfl)|exact⟨congrArg I (wr 1 oM oM),by first|exact⟨fin (by assumption),tC ts⟩|exact fin (by assumption)|exact tC ts⟩
  ·obtain⟨y,hy⟩:=ba (show j<ts.length by omega);have hw:IntKind.i64.wrap (((j+1:Nat):Int) - 1)=(j:Int):=by rw[wr _ oM oM];omega
   have hp:(0:Int)<((j+1:Nat):Int):=oM;repeat' (first|with_reducible apply zJ<;>intro _|with_reducible refine bY (s7 bs oM x) sG ?_|with_reducible refine bZ (s7 bs oM x) sG ?_|simp(disch:=omega) only[go_sem, *,h0,ly,h6,ar,hx,hy,hw,hp])
   all_goals first|exact no (by rw[ry hx (by assumption),Bool.and_false];rfl)|exact no (by rw[DM hy hx (by assumption),Bool.and_false])|(rw[aE oM];exact⟨rfl,m_ hx sB (by assumption),xI hy hx lM oM⟩)
 rintro σ bx ⟨h0,ly,h6,sB,lM⟩;have ar:¬(ts.length:Int)<(ts.length:Int):=oM;rw[tL]at sB lM;simp(disch:=omega) only[go_sem,ly,h6,ar];exact yes (by rw[hn,hu,sB,lM];rfl)
abbrev VS:Type:=Bool×Bool×Int
def j_(iQ:Int)(s:VS)(v:cj):VS:=if v.iQ=iQ then(if v.kind=1 then(true,true,v.cy)else if v.kind=2 then(s.1,s.2.1,v.cy)else if v.kind=3 then(s.1,false,s.2.2)else if v.kind=4 then(s.1,true,s.2.2)else s)else s
def js(l:List cj)(iQ:Int):VS:=l.foldl (j_ iQ) (false,false,0)
def gZ(v:cj):Bool:=aO v.at_ 0 1099511627775&&aO v.iQ 0 99999&&aO v.kind 1 4&&aO v.cy 0 31&&(decide (v.kind=1)||decide (v.kind=2)||decide (v.cy=0))
def tY(l:List cj):Int:=n8 cj.at_ 0 l
def kk(s:VS)(v:cj):Bool:=if v.kind=1 then !s.1 else if v.kind=2 then s.1 else if v.kind=3 then s.2.1 else s.1&& !s.2.1
def lE(l:List cj)(v:cj):Bool:=gZ v&&decide (tY l<=v.at_)&&kk (js l v.iQ) v
def Ak(l:List cj):Prop:=∀j v,l[j]? =some v->lE (l.take j) v=true
noncomputable instance(l:List cj):Decidable (Ak l):=Classical.propDecidable _
noncomputable def eu(l:List cj):Int:=if 4096<l.length then 2 else if Ak l then 0 else 520
def Be{l:List cj}{j:Nat}{v:cj}(h:l[j]? =some v)(n:Int):js (l.take (j+1)) n=j_ n (js (l.take j) n) v:=by unfold js;rw[List.take_add_one,h];simp[List.foldl_append]
def FO(n m:Int):ao prog 239 [I n,I m] (.bool (aO n 0 (m - 1))):=by
 refine aw mixed (fn:=f239) (tab:=[]) ?_ rfl ak rfl;refine ax _ [.tmp 4] _ rfl rfl rfl ak ?_;repeat' (first|with_reducible apply zJ<;>intro _|simp(disch:=omega) only[go_sem, *])
 all_goals first|exact .refl _|(refine ab (congrArg D.bool ?_);first|(simp(disch:=omega) [*,aO];done)|(simp[aO]at *;omega)|(rw[Bool.eq_iff_iff];simp[aO]at *;omega))
def A8(n m:Int):ao prog 307 [I n,I m] (.bool (aO n 0 (m - 1))):=by
 refine aw mixed (fn:=f307) (tab:=[]) ?_ rfl ak rfl;refine ax _ [.tmp 4] _ rfl rfl rfl ak ?_;repeat' (first|with_reducible apply zJ<;>intro _|simp(disch:=omega) only[go_sem, *])
 all_goals first|exact .refl _|(refine ab (congrArg D.bool ?_);first|(simp(disch:=omega) [*,aO];done)|(simp[aO]at *;omega)|(rw[Bool.eq_iff_iff];simp[aO]at *;omega))
def Qf(v:cj):ao prog 261 [v.d] (.bool (gZ v)):=by
 refine aw mixed (fn:=f261) (tab:=[]) ?_ rfl ak rfl;refine ax _ [.tmp 2] _ rfl rfl rfl ak ?_;repeat' (first|with_reducible apply zJ<;>intro _|with_reducible refine bY (A8 _ _) sG ?_|with_reducible refine bZ (A8 _ _) sG ?_|simp(disch:=omega) only[go_sem, *,cj.d])
 all_goals first|exact .refl _|(refine ab (congrArg D.bool ?_);first|(simp(disch:=omega) [*,gZ,aO];done)|(simp[gZ,aO]at *;omega)|(rw[Bool.eq_iff_iff];simp[gZ,aO]at *;omega))
def Aw(l:List cj)(hl:l.length<=4096)(n:Int):ao prog 262 [.sl 4 (l.map cj.d),I n] (.aI [.bool (js l n).1,.bool (js l n).2.1,I (js l n).2.2]):=by
 refine aw mixed (fn:=f262) (tab:=[]) ?_ rfl ak rfl;refine ax _ [.tmp 4,.tmp 5,.tmp 6] _ rfl rfl rfl ak ?_;simp(disch:=omega) only[go_sem];refine bo l.length (fun j σ bx=>σ 0= .sl 4 (l.map cj.d)/\σ 1=I n/\σ 10=I j/\σ 7= .bool (js (l.take j) n).1/\σ 8= .bool (js (l.take j) n).2.1/\σ 9=I (js (l.take j) n).2.2) ?_ ?_ ?_
 ·simp[go_sem,bF,js]
 ·rintro j σ bx hj ⟨h0,h1,iU,h7,h8,h9⟩;obtain⟨x,hx⟩:=ba hj;have ar:(j:Int)<(l.length:Int):=oM;have hw:IntKind.i64.wrap ((j:Int)+1)=((j+1:Nat):Int):=aE oM;have hs:=Be hx n;repeat' (first|with_reducible apply zJ<;>intro _|simp(disch:=omega) only[go_sem, *,h0,h1,iU,h7,h8,h9,ar,hx,hw,cj.d])
  all_goals simp_all[j_]
 ·rintro σ bx ⟨h0,h1,iU,h7,h8,h9⟩;have ar:¬(l.length:Int)<(l.length:Int):=oM;rw[tL]at h7 h8 h9;simp(disch:=omega) only[go_sem,h0,iU,h7,h8,h9,ar];exact .refl _
def LR{l:List cj}{x:cj}(h:l[l.length - 1]? =some x):tY l=x.at_:=by
 have:l=l.take (l.length - 1)++[x]:=by
  have hl:=(gS.1 h).1
  conv=>lhs;rw[<-List.take_append_drop (l.length - 1) l]
  rw[List.drop_eq_getElem_cons hl,List.drop_eq_nil_of_le oM];rw[(gS.1 h).2]
 unfold tY;rw[this];exact zb
def NI{v:cj}(h:gZ v=true):0<=v.at_:=by simp[gZ,aO]at h;omega
def VH(l:List cj)(hl:l.length<=4096)(v:cj):ao prog 206 [.sl 4 (l.map cj.d),v.d] (.bool (lE l v)):=by
 refine aw mixed (fn:=f206) (tab:=[]) ?_ rfl ak rfl;refine ax _ [.tmp 4] _ rfl rfl rfl ak ?_;simp(disch:=omega) only[go_sem,cj.d];refine av (Qf v) sG ?_;simp(disch:=omega) only[go_sem];refine aZ (fun c1=>?_) (fun c1=>?_)
 rotate_left
 ·simp(disch:=omega) only[go_sem,c1];exact ab (congrArg D.bool (by simp[lE,c1]))
 simp(disch:=omega) only[go_sem,c1];rcases Nat.eq_zero_or_pos l.length with h0|h0
 ·have AR:l=[]:=List.eq_nil_of_length_eq_zero h0;have E6:decide (tY l<=v.at_)=true:=by subst AR;exact decide_eq_true (NI c1)
  have hn:¬(0:Int)<(l.length:Int):=oM;clear AR;repeat' (first|with_reducible apply zJ<;>intro _|with_reducible refine bY (Aw l hl _) sG ?_|with_reducible refine bZ (Aw l hl _) sG ?_|simp(disch:=omega) only[go_sem, *,cj.d])
  all_goals exact ab (congrArg D.bool (by simp_all[lE,kk]))
 ·obtain⟨x,hx⟩:=ba (show l.length - 1<l.length by omega);have E6:=LR hx;have hn:(0:Int)<(l.length:Int):=oM;have hw:IntKind.i64.wrap ((l.length:Int) - 1)=((l.length - 1:Nat):Int):=by rw[wr _ oM oM];omega
  refine yv hn ?_;repeat' (first|with_reducible apply zJ<;>intro _|with_reducible refine bY (Aw l hl _) sG ?_|with_reducible refine bZ (Aw l hl _) sG ?_|simp(disch:=omega) only[go_sem, *,cj.d])
  all_goals exact ab (congrArg D.bool (by simp_all[lE,kk]<;>(intro h;omega)))
def Mj(l:List cj):ao prog 146 [.sl 4 (l.map cj.d)] (I (eu l)):=by
 refine aw mixed (fn:=f146) (tab:=[]) ?_ rfl ak rfl;refine ax _ [.tmp 2] _ rfl rfl rfl ak ?_;simp(disch:=omega) only[go_sem];refine bh (fun h1=>?_) (fun h1=>?_)
 ·simp(disch:=omega) only[go_sem,h1,decide_true];exact ab (congrArg I (by unfold eu;rw[if_pos oM]))
 simp(disch:=omega) only[go_sem];have e:eu l=if Ak l then 0 else 520:=by unfold eu;rw[if_neg oM]
 have no:∀j v,l[j]? =some v->lE (l.take j) v=false->bN (I 520) (I (eu l)):=fun j v h h'=>ab (congrArg I (by rw[e,if_neg fun g=>by rw[g j v h]at h';cases h']));have yes:(∀j v,j<l.length->l[j]? =some v->lE (l.take j) v=true)->bN (I 0) (I (eu l)):=fun h=>ab (congrArg I (by rw[e,if_pos (show Ak l from fun j v h'=>h j v (gS.1 h').1 h')]));clear e;generalize eu l=r at *;refine bo l.length (fun j σ bx=>σ 0= .sl 4 (l.map cj.d)/\σ 3=I j/\∀i v,i<j->l[i]? =some v->lE (l.take i) v=true) ?_ ?_ ?_
 ·simp[go_sem,bF]
 ·rintro j σ bx hj ⟨h0,h3,hn⟩;obtain⟨x,hx⟩:=ba hj;have ar:(j:Int)<(l.length:Int):=oM;have hw:IntKind.i64.wrap ((j:Int)+1)=((j+1:Nat):Int):=aE oM;have hf:ao prog 206 [.sl 4 (List.take (j - 0) (l.map cj.d)),x.d] (.bool (lE (l.take j) x)):=by rw[Nat.sub_zero,<-List.map_take];exact VH (l.take j) (by rw[List.length_take];omega) x
  simp(disch:=omega) only[go_sem,h0,h3,ar,hx];refine av hf sG ?_;simp(disch:=omega) only[go_sem];refine aZ (fun c=>?_) (fun c=>?_)
  ·simp(disch:=omega) only[go_sem,h0,h3,hw];refine fun i v hi hv=>?_;by_cases pD:i=j
   ·subst pD;rw[hx]at hv;injection hv with hv;subst hv;exact c
   ·exact hn i v oM hv
  ·simp(disch:=omega) only[go_sem];exact no j x hx c
 ·rintro σ bx ⟨h0,h3,hn⟩;have ar:¬(l.length:Int)<(l.length:Int):=oM;simp(disch:=omega) only[go_sem,h0,h3,ar];exact yes hn
def MV(o:Bool)(n m:Int):ao prog 287 [.agg [.bool o,I n],I m] (.agg [.bool true,I m]):=by
 refine aw mixed (fn:=f287) (tab:=[]) ?_ rfl ak rfl;refine ax _ [.cell 4 331] _ rfl rfl rfl ak ?_;simp(disch:=omega) only[go_sem];exact .refl _
def Ce(o:Bool)(n m:Int):ao prog 288 [.agg [.bool o,I n],I m] (.agg [.bool o,I m]):=by
 refine aw mixed (fn:=f288) (tab:=[]) ?_ rfl ak rfl;refine ax _ [.cell 4 331] _ rfl rfl rfl ak ?_;simp(disch:=omega) only[go_sem];exact .refl _
def U2(o:Bool)(n m:Int):ao prog 289 [.agg [.bool o,I n],I m] (.agg [.bool false,I n]):=by
 refine aw mixed (fn:=f289) (tab:=[]) ?_ rfl ak rfl;refine ax _ [.cell 4 331] _ rfl rfl rfl ak ?_;simp(disch:=omega) only[go_sem];exact .refl _
def U3(o:Bool)(n m:Int):ao prog 290 [.agg [.bool o,I n],I m] (.agg [.bool true,I n]):=by
 refine aw mixed (fn:=f290) (tab:=[]) ?_ rfl ak rfl;refine ax _ [.cell 4 331] _ rfl rfl rfl ak ?_;simp(disch:=omega) only[go_sem];exact .refl _
def RX:D:=.agg [.bool false,.bool false,.bool false,.bool false,.raw .nilFunc,.bool false,.bool true,.bool false,.bool true,.fn (.func 287) [],.bool true,.bool true,.bool true,.bool true,.fn (.func 288) [],.bool true,.bool false,.bool true,.bool false,.fn (.func 289) [],.bool true,.bool true,.bool false,.bool false,.fn (.func 290) []]
def MW:ao prog 240 [] RX:=by
 refine aw mixed (fn:=f240) (tab:=[]) ?_ rfl ak rfl;refine ax _ [.cell 0 328] _ rfl rfl rfl ak ?_;simp(disch:=omega) only[go_sem];exact .refl _
def i64(n:Int):Prop:= -9223372036854775808<=n/\n<=9223372036854775807
structure Ez(fm:Int->Option D)(st:Int->VS):Prop where
 is:∀n,fm n=if(st n).1 then some (.agg [.bool (st n).2.1,I (st n).2.2])else none
 op:∀n,(st n).2.1=true->(st n).1=true
theorem Ez.look{fm:Int->Option D}{st:Int->VS}(h:Ez fm st){r:Option (Nat×D)}{n:Int}(hr:r.map (·.2)=fm n):∃m,((st n).1=true->m=(st n).2.2)/\sk (some (.agg [.bool false,I 0])) true (some r)=some (.aI [.agg [.bool (st n).2.1,I m],.bool (st n).1]):=by
 rw[h.is n]at hr;cases hk:(st n).1 with
 |false=>
  rw[hk]at hr;have:r=none:=by cases r<;>simp at hr⊢
  subst this;have ho:(st n).2.1=false:=by
   cases h':(st n).2.1 with
   |false=>rfl
   |true=>rw[h.op n h']at hk;cases hk
  exact⟨0,(fun h=>by cases h),by rw[ho];rfl⟩
 |true=>
  rw[hk]at hr;cases r with
  |none=>simp at hr
  |some q=>obtain⟨j,v⟩:=q;simp at hr;subst hr;exact⟨_,(fun _=>rfl),rfl⟩
theorem Ez.step{fm:Int->Option D}{st:Int->VS}(h:Ez fm st){v:cj}{o:Bool}{m:Int}(hs:j_ v.iQ (st v.iQ) v=(true,o,m)):Ez (fun k=>if k=v.iQ then some (.agg [.bool o,I m])else fm k) (fun n=>j_ n (st n) v):=by
 refine⟨fun n=>?_,fun n hn=>?_⟩
 ·by_cases hn:n=v.iQ
  ·subst hn;simp[hs]
  ·simp only[if_neg hn,j_,if_neg (Ne.symm hn)];exact h.is n
 ·by_cases hw:n=v.iQ
  ·subst hw;simp only[hs]
  ·simp only[j_,if_neg (Ne.symm hw)]at hn⊢;exact h.op n hn
def Vq(b:Bool):(b==false)= !b:=by cases b<;>rfl
def Cj(b:Bool):(b==true)=b:=by cases b<;>rfl
def TZ{n:Int}(h:i64 n):aO (IntKind.i64.wrap (n - 1)) 0 (IntKind.i64.wrap (5 - 1) - 1)=aO n 1 4:=by
 rw[wr (5 - 1) oM oM];obtain⟨h1,h2⟩:=h;by_cases hn:n= -9223372036854775808
 ·subst hn;rfl
 ·rw[wr _ oM oM,Bool.eq_iff_iff];simp[aO];omega
def KX(e:Nat)(bx:ae)(st:Int->VS)(v:cj)(d:D)(bx':ae):Prop:=d= .bool (gZ v&&kk (st v.iQ) v)/\(∀s,s<300->s≠10->bx' s=bx s)/\((gZ v&&kk (st v.iQ) v)=true->∃c es fm,bx' 10=⟨e,3,0,277,I c::es⟩/\oE fm es/\Ez fm (fun n=>j_ n (st n) v))
def OK{bx:ae}{e:Nat}{c:Int}{es:List D}{fm:Int->Option D}{st:Int->VS}(hb:bx 10=⟨e,3,0,277,I c::es⟩)(hm:oE fm es)(hf:Ez fm st)(v:cj)(hk:i64 v.kind):
 bj prog 191 300 [.omap 10 e,v.d] bx (KX e bx st v) (fun _ _=>False):=by
 refine aK (fn:=f191) (tab:=[(1,[(13,11)]),(4,[(5,3),(5,1),(3,1)]),(7,[(7,1)])]) (base:=300) mixed ?_ rfl ak rfl;refine aL _ [.tmp 4] 87 rfl rfl rfl ak ?_;obtain⟨r,g1,g2⟩:=hm.find v.iQ;obtain⟨m,uQ,g3⟩:=hf.look g2;have hki:=TZ hk;have pF:=hf.op v.iQ;have nay:∀B:ae,(∀s,s<300->B s=bx s)->(gZ v&&kk (st v.iQ) v)=false->KX e bx st v (.bool false) B:=fun B hB h=>⟨by rw[h],fun s hs _=>hB s hs,fun h'=>by rw[h]at h';cases h'⟩
 have yes:∀(B:ae) o m c',∀es',oI (.int .i64) (.int .i64 v.iQ) (.agg [.bool o,I m]) c es=some (.int .i64 c'::es')->(∀s,s<300->s≠10->B s=bx s)->B 10=⟨e,3,0,277,I c'::es'⟩->(gZ v&&kk (st v.iQ) v)=true->j_ v.iQ (st v.iQ) v=(true,o,m)->KX e bx st v (.bool true) B:=by
  intro B o m c' es' hu hB hB' h hv;obtain⟨es2,c2,lM,qb⟩:=hm.aj v.iQ (.agg [.bool o,I m]) c;rw[hu]at lM;injection lM with lM;injection lM with lM hu3;injection lM with _ lM;subst lM;subst hu3;exact⟨by rw[h],hB,fun _=>⟨_,_,_,hB',qb,hf.step hv⟩⟩
 have Fc:∀o m,∃es' c',oI (.int .i64) (.int .i64 v.iQ) (.agg [.bool o,I m]) c es=some (.int .i64 c'::es'):=fun o m=>by obtain⟨a,b,h,_⟩:=hm.aj v.iQ (.agg [.bool o,I m]) c;exact⟨a,b,h⟩
 clear hm hf;simp(disch:=omega) only[go_sem,cj.d];repeat' (first|with_reducible apply zJ<;>intro _|with_reducible refine bY (FO _ _) sG ?_|with_reducible refine bZ (FO _ _) sG ?_|with_reducible refine bY (MW) sG ?_|with_reducible refine bZ (MW) sG ?_|simp(disch:=omega) only[go_sem, *,cj.d,RX])
 rotate_left
 iterate 4 (exact nay _ (fun s hs=>by simp only[aj];rw[if_neg oM]) (by simp_all[gZ]))
 rename_i c1 c2 c3 c4;try rw[hki]at c3
 have ck:v.kind=1\/v.kind=2\/v.kind=3\/v.kind=4:=by simp[aO]at c3;omega
 have kL:gZ v=(decide (v.kind=1)||decide (v.kind=2)||decide (v.cy=0)):=by simp_all[gZ]
 clear hki c1 c2 c3 c4 hk g2;have ZU:(st v.iQ).1=false/\(st v.iQ).2.1=false\/(st v.iQ).1=true/\(st v.iQ).2.1=false\/(st v.iQ).1=true/\(st v.iQ).2.1=true:=by
  revert pF;cases(st v.iQ).1<;>cases(st v.iQ).2.1<;>simp
 clear pF;have quiet:∀(x1 x2 x3 x4 x5:Bx),∀s,s<300->aj (aj (aj (aj (aj bx 303 x1) 305 x2) 305 x3) 307 x4) 307 x5 s=bx s:=fun _ _ _ _ _ s hs=>by simp only[aj];repeat rw[if_neg oM]
 rcases ZU with⟨k0,k1⟩|⟨k0,k1⟩|⟨k0,k1⟩<;>rw[k0,k1]at g3<;>rcases ck with ck|ck|ck|ck
 ·simp(disch:=omega) only[go_sem,ck,Vq,k0,k1,nT,nF];refine bh (fun hl=>?_) (fun hl=>?_)
  ·simp(disch:=omega) only[go_sem,ck,k0,k1,nT,hl,decide_true];refine av (MV _ _ _) sG ?_;obtain⟨es',c',hu⟩:=Fc true (0);simp(disch:=omega) only[go_sem,hb,ck,k0,k1,nT,hl,hu,fR];exact yes _ true 0 c' es' hu (fun s hs eb=>by simp only[aj];repeat rw[if_neg oM]) (by simp[aj]) (by rw[kL];simp[kk,ck,k0,hl]) (by simp[j_,ck,hl])
  ·simp(disch:=omega) only[go_sem,ck,k0,k1,nT,nF,hl,decide_false];refine av (MV _ _ _) sG ?_;obtain⟨es',c',hu⟩:=Fc true (v.cy);simp(disch:=omega) only[go_sem,hb,ck,k0,k1,nF,hl,hu,fR];exact yes _ true v.cy c' es' hu (fun s hs eb=>by simp only[aj];repeat rw[if_neg oM]) (by simp[aj]) (by rw[kL];simp[kk,ck,k0,hl]) (by simp[j_,ck])
 ·simp(disch:=omega) only[go_sem,ck,Cj,k0,k1,nF];exact nay _ (quiet _ _ _ _ _) (by simp[kk,ck,k0])
 ·simp(disch:=omega) only[go_sem,ck,Cj,k0,k1,nF];exact nay _ (quiet _ _ _ _ _) (by simp[kk,ck,k1])
 ·simp(disch:=omega) only[go_sem,ck,Cj,k0,k1,nF];exact nay _ (quiet _ _ _ _ _) (by simp[kk,ck,k0,k1])
 ·simp(disch:=omega) only[go_sem,ck,Vq,k0,k1,nT,nF];exact nay _ (quiet _ _ _ _ _) (by simp[kk,ck,k0])
 ·simp(disch:=omega) only[go_sem,ck,Cj,k0,k1,nT,nF];refine bh (fun hl=>?_) (fun hl=>?_)
  ·simp(disch:=omega) only[go_sem,ck,k0,k1,nT,hl,decide_true];refine av (Ce _ _ _) sG ?_;obtain⟨es',c',hu⟩:=Fc false (0);simp(disch:=omega) only[go_sem,hb,ck,k0,k1,nT,hl,hu,fR];exact yes _ false 0 c' es' hu (fun s hs eb=>by simp only[aj];repeat rw[if_neg oM]) (by simp[aj]) (by rw[kL];simp[kk,ck,k0,hl]) (by simp[j_,ck,k0,k1,hl])
  ·simp(disch:=omega) only[go_sem,ck,k0,k1,nT,nF,hl,decide_false];refine av (Ce _ _ _) sG ?_;obtain⟨es',c',hu⟩:=Fc false (v.cy);simp(disch:=omega) only[go_sem,hb,ck,k0,k1,nF,hl,hu,fR];exact yes _ false v.cy c' es' hu (fun s hs eb=>by simp only[aj];repeat rw[if_neg oM]) (by simp[aj]) (by rw[kL];simp[kk,ck,k0,hl]) (by simp[j_,ck,k0,k1])
 ·simp(disch:=omega) only[go_sem,ck,Cj,k0,k1,nT,nF];exact nay _ (quiet _ _ _ _ _) (by simp[kk,ck,k1])
 ·simp(disch:=omega) only[go_sem,ck,Cj,k0,k1,nT,nF];refine bh (fun hl=>?_) (fun hl=>?_)
  ·simp(disch:=omega) only[go_sem,ck,k0,k1,nT,hl,decide_true];refine av (U3 _ _ _) sG ?_;obtain⟨es',c',hu⟩:=Fc true (m);simp(disch:=omega) only[go_sem,hb,ck,k0,k1,nT,hl,hu,fR];exact yes _ true m c' es' hu (fun s hs eb=>by simp only[aj];repeat rw[if_neg oM]) (by simp[aj]) (by rw[kL];simp[kk,ck,k0,k1,hl]) (by simp[j_,ck,k0,uQ k0])
  ·simp(disch:=omega) only[go_sem,ck,k0,k1,nF,hl,decide_false];exact nay _ (quiet _ _ _ _ _) (by rw[kL];simp[ck,hl])
 ·simp(disch:=omega) only[go_sem,ck,Vq,k0,k1,nT,nF];exact nay _ (quiet _ _ _ _ _) (by simp[kk,ck,k0])
 ·simp(disch:=omega) only[go_sem,ck,Cj,k0,k1,nT];refine bh (fun hl=>?_) (fun hl=>?_)
  ·simp(disch:=omega) only[go_sem,ck,k0,k1,nT,hl,decide_true];refine av (Ce _ _ _) sG ?_;obtain⟨es',c',hu⟩:=Fc true (0);simp(disch:=omega) only[go_sem,hb,ck,k0,k1,nT,hl,hu,fR];exact yes _ true 0 c' es' hu (fun s hs eb=>by simp only[aj];repeat rw[if_neg oM]) (by simp[aj]) (by rw[kL];simp[kk,ck,k0,hl]) (by simp[j_,ck,k0,k1,hl])
  ·simp(disch:=omega) only[go_sem,ck,k0,k1,nT,nF,hl,decide_false];refine av (Ce _ _ _) sG ?_;obtain⟨es',c',hu⟩:=Fc true (v.cy);simp(disch:=omega) only[go_sem,hb,ck,k0,k1,nF,hl,hu,fR];exact yes _ true v.cy c' es' hu (fun s hs eb=>by simp only[aj];repeat rw[if_neg oM]) (by simp[aj]) (by rw[kL];simp[kk,ck,k0,hl]) (by simp[j_,ck,k0,k1])
 ·simp(disch:=omega) only[go_sem,ck,Cj,k0,k1,nT];refine bh (fun hl=>?_) (fun hl=>?_)
  ·simp(disch:=omega) only[go_sem,ck,k0,k1,nT,hl,decide_true];refine av (U2 _ _ _) sG ?_;obtain⟨es',c',hu⟩:=Fc false (m);simp(disch:=omega) only[go_sem,hb,ck,k0,k1,nT,hl,hu,fR];exact yes _ false m c' es' hu (fun s hs eb=>by simp only[aj];repeat rw[if_neg oM]) (by simp[aj]) (by rw[kL];simp[kk,ck,k1,hl]) (by simp[j_,ck,k0,uQ k0])
  ·simp(disch:=omega) only[go_sem,ck,k0,k1,nF,hl,decide_false];exact nay _ (quiet _ _ _ _ _) (by rw[kL];simp[ck,hl])
 ·simp(disch:=omega) only[go_sem,ck,Cj,k0,k1,nT,nF];exact nay _ (quiet _ _ _ _ _) (by simp[kk,ck,k0,k1])
def Pc(l:List cj)(hk:∀v∈l,i64 v.kind):bj prog 129 0 [.sl 4 (l.map cj.d)] (fun _=> .none) (fun d bx=>d=I (eu l)) (fun _ _=>False):=by
 refine aK (fn:=f129) (tab:=[]) (base:=0) mixed ?_ rfl ak rfl;refine aL _ [.tmp 2] 30 rfl rfl rfl ak ?_;simp(disch:=omega) only[go_sem];refine bh (fun h1=>?_) (fun h1=>?_)
 ·simp(disch:=omega) only[go_sem,h1,decide_true];exact congrArg I (by unfold eu;rw[if_pos oM])
 simp(disch:=omega) only[go_sem,h1,decide_false];have e:eu l=if Ak l then 0 else 520:=by unfold eu;rw[if_neg oM]
 have no:∀j v,l[j]? =some v->lE (l.take j) v=false->I 520=I (eu l):=fun j v h h'=>congrArg I (by rw[e,if_neg fun g=>by rw[g j v h]at h';cases h']);have yes:(∀j v,j<l.length->l[j]? =some v->lE (l.take j) v=true)->I 0=I (eu l):=fun h=>congrArg I (by rw[e,if_pos (show Ak l from fun j v h'=>h j v (gS.1 h').1 h')]);clear e;generalize eu l=r at *;refine bo l.length (fun j σ bx=>σ 3= .omap 10 1/\σ 4=I (tY (l.take j))/\σ 11= .sl 4 (l.map cj.d)/\σ 12=I l.length/\σ 13=I j/\(∃c es fm,bx 10=⟨1,3,0,277,I c::es⟩/\oE fm es/\Ez fm (js (l.take j)))/\∀i v,i<j->l[i]? =some v->lE (l.take i) v=true) ?_ ?_ ?_
 ·simp[go_sem,aj,Bx.none,tY,n8];exact⟨0,[],⟨rfl,rfl⟩,_,oE.nil,fun n=>by simp[js],fun n h=>by simp[js]at h⟩
 ·rintro j σ bx hj ⟨h3,h4,sq,AM,EX,⟨c,es,fm,hb,hm,hf⟩,hn⟩;obtain⟨x,hx⟩:=ba hj;have ar:(j:Int)<(l.length:Int):=oM;have hw:IntKind.i64.wrap ((j:Int)+1)=((j+1:Nat):Int):=aE oM;have E6:tY (l.take (j+1))=x.at_:=sU hx;have Db:=no j x hx;simp(disch:=omega) only[go_sem,h4,sq,AM,EX,ar,hx,cj.d];refine bh (fun h2=>?_) (fun h2=>?_)
  ·simp(disch:=omega) only[go_sem,h2,decide_true];exact Db (by simp[lE];omega)
  simp(disch:=omega) only[go_sem,h3,h2,decide_false];refine aC (OK (c:=c) (es:=es) (by simp[aj,hb]) hm hf x (hk x (mG hx))) rfl ?_;rintro d bK ⟨rfl,hs,hy⟩;have h6:=hs 6 oM oM;simp only[aj,if_true]at h6;simp(disch:=omega) only[go_sem,h2];refine aZ (fun hc=>?_) (fun hc=>?_)
  ·simp(disch:=omega) only[go_sem,h3,sq,AM,EX,hc,h6,hw];obtain⟨c',es',fm',eo,tT,kK⟩:=hy hc;refine⟨by rw[E6],⟨c',es',fm',eo,tT,by rw[show js (l.take (j+1))=fun n=>j_ n (js (l.take j) n) x from funext fun n=>Be hx n];exact kK⟩,fun i v hi hv=>?_⟩;by_cases pD:i=j
   ·subst pD;rw[hx]at hv;injection hv with hv;subst hv;simp only[bA]at hc;unfold lE;rw[hc.1,hc.2];simp;omega
   ·exact hn i v oM hv
  ·simp(disch:=omega) only[go_sem,hc];exact Db (by unfold lE;cases kL:gZ x<;>simp_all)
 ·rintro σ bx ⟨h3,h4,sq,AM,EX,hex,hn⟩;have ar:¬(l.length:Int)<(l.length:Int):=oM;simp(disch:=omega) only[go_sem,AM,EX,ar];exact yes hn
def Pb(l:List cj)(hk:∀v∈l,i64 v.kind):ao prog 129 [.sl 4 (l.map cj.d)] (I (eu l)):=
 (Pc l hk).to (fun _ _ h=>h) (fun d' bx' h=>⟨I (eu l),by rw[h];rfl,.refl _⟩)
def jT(n:Int):Bool:=aO n 1 16384
def s8(w h:Int)(r:gP):Bool:=decide (0<=r.x)&&decide (0<=r.y)&&jT r.w&&jT r.h&&decide (r.x<=w - r.w)&&decide (r.y<=h - r.h)
def kA(s:fF):Int:=if 32<s.bl.length then 2 else if jT s.w&&jT s.h&&s.bl.all (s8 s.w s.h)then 0 else 460
def Ds(n:Int):ao prog 292 [I n] (.bool (jT n)):=by
 refine aw mixed (fn:=f292) (tab:=[]) ?_ rfl ak rfl;refine ax _ [.tmp 2] _ rfl rfl rfl ak ?_;repeat' (first|with_reducible apply zJ<;>intro _|simp(disch:=omega) only[go_sem, *])
 all_goals first|exact .refl _|(refine ab (congrArg D.bool ?_);first|(simp(disch:=omega) [*,jT,aO];done)|(simp[jT,aO]at *;omega)|(rw[Bool.eq_iff_iff];simp[jT,aO]at *;omega))
def xv(n:Int):ao prog 302 [I n] (.bool (jT n)):=by
 refine aw mixed (fn:=f302) (tab:=[]) ?_ rfl ak rfl;refine ax _ [.tmp 2] _ rfl rfl rfl ak ?_;repeat' (first|with_reducible apply zJ<;>intro _|simp(disch:=omega) only[go_sem, *])
 all_goals first|exact .refl _|(refine ab (congrArg D.bool ?_);first|(simp(disch:=omega) [*,jT,aO];done)|(simp[jT,aO]at *;omega)|(rw[Bool.eq_iff_iff];simp[jT,aO]at *;omega))
def KE{w n:Int}(h1:jT w=true)(h2:jT n=true):IntKind.i64.wrap (w - n)=w - n:=by
 simp[jT,aO]at h1 h2;exact wr _ oM oM
def OR(s:fF)(r:gP)(h1:jT s.w=true)(h2:jT s.h=true):ao prog 291 [r.d,.cG s.d 0] (.bool (!s8 s.w s.h r)):=by
 refine aw mixed (fn:=f291) (tab:=[]) ?_ rfl ak rfl;refine ax _ [.tmp 3] _ rfl rfl rfl ak ?_;repeat' (first|with_reducible apply zJ<;>intro _|with_reducible refine bY (Ds _) sG ?_|with_reducible refine bZ (Ds _) sG ?_|simp(disch:=omega) only[go_sem, *,gP.d,fF.d,fF.l])
 all_goals (refine ab (congrArg D.bool ?_);rw[Bool.eq_iff_iff];simp_all[s8,KE];try omega)
def Xr(w h:Int)(r:gP)(h1:jT w=true)(h2:jT h=true):ao prog 303 [I w,I h,r.d] (.bool (s8 w h r)):=by
 refine aw mixed (fn:=f303) (tab:=[]) ?_ rfl ak rfl;refine ax _ [.tmp 6] _ rfl rfl rfl ak ?_;repeat' (first|with_reducible apply zJ<;>intro _|with_reducible refine bY (xv _) sG ?_|with_reducible refine bZ (xv _) sG ?_|simp(disch:=omega) only[go_sem, *,gP.d])
 all_goals (refine ab (congrArg D.bool ?_);rw[Bool.eq_iff_iff];simp_all[s8,KE];try omega)
def OT(s:fF):ao prog 243 [s.d] (I (kA s)):=by
 refine aw mixed (fn:=f243) (tab:=[]) ?_ rfl ak rfl;refine ax _ [.tmp 2] _ rfl rfl rfl ak ?_;simp(disch:=omega) only[go_sem,fF.d,fF.l];refine bh (fun c1=>?_) (fun c1=>?_)
 ·simp(disch:=omega) only[go_sem,c1,decide_true];exact ab (congrArg I (by unfold kA;rw[if_pos oM]))
 have e:kA s=if jT s.w&&jT s.h&&s.bl.all (s8 s.w s.h)then 0 else 460:=by unfold kA;rw[if_neg oM]
 simp(disch:=omega) only[go_sem,c1,decide_false];refine av (Ds _) sG ?_;simp(disch:=omega) only[go_sem];refine aZ (fun c2=>?_) (fun c2=>?_)
 rotate_left
 ·simp(disch:=omega) only[go_sem,c2];exact ab (congrArg I (by rw[e,c2];rfl))
 simp(disch:=omega) only[go_sem,c2];refine av (Ds _) sG ?_;simp(disch:=omega) only[go_sem,c2];refine aZ (fun c3=>?_) (fun c3=>?_)
 rotate_left
 ·simp(disch:=omega) only[go_sem,c2,c3];exact ab (congrArg I (by rw[e,c3,Bool.and_false];rfl))
 simp(disch:=omega) only[go_sem,c2,c3];have hc:=TH (f:=291) (caps:=[.cG s.d 0]) (p:=fun r=> !s8 s.w s.h r) s.bl oM (fun r _=>OR s r c2 c3) (fun x=>rfl) rfl;refine pA hc (by simp[go_sem,D.aF,D.pure,lD,aj,cY,I,fF.d,fF.l]) rfl ?_;simp(disch:=omega) only[go_sem,c2,c3,qI];refine aZ (fun c4=>?_) (fun c4=>?_)
 ·simp(disch:=omega) only[go_sem,c2,c3,c4];exact ab (congrArg I (by rw[e,c2,c3,c4];rfl))
 ·simp(disch:=omega) only[go_sem,c2,c3,c4];exact ab (congrArg I (by rw[e,c4,Bool.and_false];rfl))
def Mi(s:fF):ao prog 258 [s.d] (I (kA s)):=by
 refine aw mixed (fn:=f258) (tab:=[]) ?_ rfl ak rfl;refine ax _ [.tmp 2] _ rfl rfl rfl ak ?_;simp(disch:=omega) only[go_sem,fF.d,fF.l];refine bh (fun c1=>?_) (fun c1=>?_)
 ·simp(disch:=omega) only[go_sem,c1,decide_true];exact ab (congrArg I (by unfold kA;rw[if_pos oM]))
 have e:kA s=if jT s.w&&jT s.h&&s.bl.all (s8 s.w s.h)then 0 else 460:=by unfold kA;rw[if_neg oM]
 simp(disch:=omega) only[go_sem,c1,decide_false];refine av (xv _) sG ?_;simp(disch:=omega) only[go_sem];refine aZ (fun c2=>?_) (fun c2=>?_)
 rotate_left
 ·simp(disch:=omega) only[go_sem,c2];exact ab (congrArg I (by rw[e,c2];rfl))
 simp(disch:=omega) only[go_sem,c2];refine av (xv _) sG ?_;simp(disch:=omega) only[go_sem,c2];refine aZ (fun c3=>?_) (fun c3=>?_)
 rotate_left
 ·simp(disch:=omega) only[go_sem,c2,c3];exact ab (congrArg I (by rw[e,c3,Bool.and_false];rfl))
 simp(disch:=omega) only[go_sem];refine bo s.bl.length (fun j σ bx=>σ 1= .loc 1 1 0 0/\bx 1=⟨1,1,3,131,[s.d]⟩/\σ 3=I j/\(s.bl.take j).all (s8 s.w s.h)=true) ?_ ?_ ?_
 ·simp[go_sem,aj,Bx.none]
 ·rintro j σ bx hj ⟨h1,b1,h3,hn⟩;obtain⟨x,hx⟩:=ba hj;have ar:(j:Int)<(s.bl.length:Int):=oM;have hw:IntKind.i64.wrap ((j:Int)+1)=((j+1:Nat):Int):=aE oM;simp(disch:=omega) only[go_sem,h1,b1,h3,ar,hx,fF.d,fF.l];refine av (Xr s.w s.h x c2 c3) sG ?_;simp(disch:=omega) only[go_sem];refine aZ (fun c4=>?_) (fun c4=>?_)
  ·simp(disch:=omega) only[go_sem,h1,b1,h3,hw,c4];exact m_ hx hn c4
  ·simp(disch:=omega) only[go_sem,c4];exact ab (congrArg I (by rw[e,ry hx c4,Bool.and_false];rfl))
 ·rintro σ bx ⟨h1,b1,h3,hn⟩;have ar:¬(s.bl.length:Int)<(s.bl.length:Int):=oM;simp(disch:=omega) only[go_sem,h1,b1,h3,ar,fF.d,fF.l];rw[tL]at hn;exact ab (congrArg I (by rw[e,c2,c3,hn];rfl))
end Go.V.St
