/- Lemmas on plain data and programs: part B14. -/
import Derived.Test.YtkknfajchefgaaaGreatDoorB13
set_option linter.all false
set_option maxHeartbeats 8000000
set_option maxRecDepth 100000
namespace Go.V.St
open Go.Proofs Go.RowKit Go.V.Lx Go.V.Gr Go.V.Ty
@[go_sem] def IG(len esz size:Nat)(g ag:Bool)(z:List D)(t e i j:Nat)(n:Int)(h:0<=n)(h':n<len)(h1:1<len)(h2:0<esz):fT ⟨.arr len esz g,size,ag,z⟩ (.loc t e i j) n=some (.loc t e i (j+n.toNat * esz)):=by grind [fT,kJ]
@[go_sem] def apv(n:Nat):fy n none none=some (0,n):=by simp[fy]
abbrev I(n:Int):D:=.int .i64 n
@[reducible] def ints(l:List Int):D:=.sl 1 (l.map (D.int .i64))
structure ia where
 f:Int
 t:Int
 w:Int
 deriving DecidableEq
@[reducible] def ia.d(x:ia):D:=.agg [I x.f,I x.t,I x.w]
structure kj where
 a:Int
 b:Int
 y:Int
 deriving DecidableEq
@[reducible] def kj.d(x:kj):D:=.agg [I x.a,I x.b,I x.y]
structure ij where
 gs:List ia
 o:Int
 ks:List kj
 deriving DecidableEq
@[reducible] def ij.l(x:ij):List D:=[.sl 3 (x.gs.map ia.d),I x.o,.sl 3 (x.ks.map kj.d)]
@[reducible] def ij.d(x:ij):D:=.agg x.l
structure Sign where
 t:ae
 c:List Int
 deriving DecidableEq
@[reducible] def Sign.d(x:Sign):D:=.agg [.str x.t,ints x.c]
structure iK where
 x:Int
 y:Int
 w:Int
 h:Int
 deriving DecidableEq
@[reducible] def iK.d(x:iK):D:=.agg [I x.x,I x.y,I x.w,I x.h]
structure fb where
 w:Int
 h:Int
 bl:List iK
 deriving DecidableEq
@[reducible] def fb.l(x:fb):List D:=[I x.w,I x.h,.sl 4 (x.bl.map iK.d)]
@[reducible] def fb.d(x:fb):D:=.agg x.l
structure aV where
 no:Int
 bH:Int
 lines:Int
 room:Int
 cells:Int
 speed:Int
 right:Bool
 bq:ij
 cz:List Sign
 br:fb
 deriving DecidableEq
@[reducible] def aV.d(x:aV):D:=.agg [I x.no,I x.bH,I x.lines,I x.room,I x.cells,I x.speed,.bool x.right,.sl 3 (x.bq.gs.map ia.d),I x.bq.o,.sl 3 (x.bq.ks.map kj.d),.sl 2 (x.cz.map Sign.d),I x.br.w,I x.br.h,.sl 4 (x.br.bl.map iK.d)]
structure bD where
 at_:Int
 jB:Int
 kind:Int
 bH:Int
 deriving DecidableEq
@[reducible] def bD.d(x:bD):D:=.agg [I x.at_,I x.jB,I x.kind,I x.bH]
structure bn where
 bH:Int
 m0:Int
 m1:Int
 m2:Int
 m3:Int
 deriving DecidableEq
@[reducible] def bn.d(x:bn):D:=.agg [I x.bH,I x.m0,I x.m1,I x.m2,I x.m3]
structure cJ where
 no:Int
 at_:Int
 known:Int
 LS:Int
 from_:Int
 RI:Int
 ms:Int
 deriving DecidableEq
@[reducible] def cJ.d(x:cJ):D:=.agg [I x.no,I x.at_,I x.known,I x.LS,I x.from_,I x.RI,I x.ms]
structure Term where
 no:Int
 at_:Int
 known:Int
 bH:Int
 src:List ae
 vn:List ae
 cat:ae
 gone:Bool
 deriving DecidableEq
@[reducible] def Term.d(x:Term):D:=.agg [I x.no,I x.at_,I x.known,I x.bH,strs x.src,strs x.vn,.str x.cat,.bool x.gone]
structure cY where
 no:Int
 kind:Int
 sp:Int
 first:Int
 last:Int
 bH:Int
 from_:Int
 HV:Int
 known:Int
 ms:Int
 deriving DecidableEq
@[reducible] def cY.d(x:cY):D:=.agg [I x.no,I x.kind,I x.sp,I x.first,I x.last,I x.bH,I x.from_,I x.HV,I x.known,I x.ms]
structure Word where
 t:ae
 f:Int
 u:Int
 s:Int
 alts:List ae
 deriving DecidableEq
@[reducible] def Word.d(x:Word):D:=.agg [.str x.t,I x.f,I x.u,I x.s,strs x.alts]
structure bL where
 at_:Int
 src:Int
 seq:Int
 sY:Int
 kind:Int
 sR:Int
 cut:Int
 words:List Word
 deriving DecidableEq
@[reducible] def bL.d(x:bL):D:=.agg [I x.at_,I x.src,I x.seq,I x.sY,I x.kind,I x.sR,I x.cut,.sl 5 (x.words.map Word.d)]
structure cP where
 sources:Int
 langs:Int
 chunk:Int
 quiet:Int
 late:Int
 gap:Int
 most:Int
 grams:List aA
 cB:List Term
 bG:List cY
 bp:List bn
 cy:List cJ
 aC:List aV
 cr:List bD
 heard:List bL
 deriving DecidableEq
@[reducible] def cP.d(x:cP):D:=.agg [I x.sources,I x.langs,I x.chunk,I x.quiet,I x.late,I x.gap,I x.most,.sl 6 (x.grams.map aA.d),.sl 8 (x.cB.map Term.d),.sl 10 (x.bG.map cY.d),.sl 5 (x.bp.map bn.d),.sl 7 (x.cy.map cJ.d),.sl 14 (x.aC.map aV.d),.sl 4 (x.cr.map bD.d),.sl 8 (x.heard.map bL.d)]
theorem Oo{α:Type}{f:α->D}(h:∀x,(f x).pure=true):∀l:List α,D.aH (l.map f)=true
 |[]=>rfl
 |x::l=>by simp[D.aH,h x,Oo h l]
theorem wr(n:Int)(h1: -9223372036854775808<=n)(h2:n<=9223372036854775807):IntKind.i64.wrap n=n:=wrap_i64 oM oM
def aX(n lo hi:Int):Bool:=decide (lo<=n)&&decide (n<=hi)
def oX{α:Type}(k:α->Int):List α->Bool
 |[]=>true
 |[_]=>true
 |x::y::l=>decide (k x<k y)&&oX k (y::l)
def gY{α:Type}(p:α->Bool)(k:α->Int):Int->List α->Bool
 |_,[]=>true
 |last,x::l=>p x&&decide (last<k x)&&gY p k (k x) l
def qO{α:Type}(k:α->Int):Int->List α->Int
 |a,[]=>a
 |_,x::l=>qO k (k x) l
theorem Ku{α:Type}{k:α->Int}{x:α}:∀ {l:List α} {a:Int},qO k a (l++[x])=k x
 |[],_=>rfl
 |_::l,_=>Ku (l:=l)
theorem Bb{α:Type}{p:α->Bool}{k:α->Int}:∀ {l:List α} {a:Int} {j:Nat} {x:α},l[j]? =some x->gY p k a l=(gY p k a (l.take j)&&p x&&decide (qO k a (l.take j)<k x)&&gY p k (k x) (l.drop (j+1)))
 |[],_,j,x,h=>awv
 |y::l,a,0,x,h=>by grind [gY,qO]
 |y::l,a,j+1,x,h=>by
  have ih:=Bb (p:=p) (k:=k) (a:=k y) (show l[j]? =some x by grind)
  grind [gY,qO]
def Ha{α:Type}{k:α->Int}{a:Int}{l:List α}{j:Nat}{x:α}(h:l[j]? =some x):qO k a (l.take (j+1))=k x:=by grind [List.take_add_one,Ku]
def ZU{α:Type}{p:α->Bool}{k:α->Int}{a:Int}{l:List α}{j:Nat}{x:α}(h:l[j]? =some x)(hn:p x=false\/k x<=qO k a (l.take j)):gY p k a l=false:=by
 rw[Bb h]
 exact awN
def TJ{α:Type}{p:α->Bool}{k:α->Int}{a:Int}{l:List α}{j:Nat}{x:α}(h:l[j]? =some x)(h1:gY p k a (l.take j)=true)(h2:p x=true)(h3:qO k a (l.take j)<k x):gY p k a (l.take (j+1))=true:=by
 have hx:(l.take (j+1))[j]? =some x:=awN
 rw[Bb hx,List.take_take,aks oM,h1,h2,akM h3,alM awe];rfl
theorem Eb{α:Type}{k:α->Int}:∀ {l:List α},oX k l=true<->∀i x y,l[i]? =some x->l[i+1]? =some y->k x<k y
 |[]=>⟨fun _ i x y h=>awv,fun _=>rfl⟩
 |[a]=>⟨fun _ i x y _ h=>awv,fun _=>rfl⟩
 |a::b::l=>by
  rw[oX,aas,aaH,Eb (l:=b::l)];constructor
  ·exact awN
  ·exact aqO
def Xv{α:Type}{k:α->Int}{l:List α}{j:Nat}{x y:α}(hx:l[j]? =some x)(hy:l[j+1]? =some y)(h:k y<=k x):oX k l=false:=by grind [Eb]
def O6{α:Type}{k:α->Int}{l:List α}{j:Nat}{x y:α}(hx:l[j]? =some x)(hy:l[j+1]? =some y)(h1:oX k (l.take (j+1))=true)(h:k x<k y):oX k (l.take (j+1+1))=true:=by
 refine Eb.2 fun i a b ha hb=>?_;have hl:=(aaL.1 hb).1;rw[afd]at hl;rw[afn oM]at ha hb;by_cases hi:i=j
 ·exact awN
 ·exact Eb.1 h1 i a b awN awN
theorem RN{α:Type}{k:α->Int}(l:List α):oX k (l.take 1)=true:=by
 cases l with
 |nil=>rfl
 |cons a l=>rfl
end Go.V.St
