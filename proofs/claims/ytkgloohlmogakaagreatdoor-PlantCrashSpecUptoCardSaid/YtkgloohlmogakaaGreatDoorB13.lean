/- Plain laws: B13. -/
import Derived.Test.YtkgloohlmogakaaGreatDoorB12
set_option linter.all false
set_option maxHeartbeats 8000000
set_option maxRecDepth 100000
namespace Go.V.Ty
open Go.Proofs Go.Proofs.Tryz Go.RowKit Go.V.Lx Go.V.Gr
def QU(c:UInt8):qz prog (cJ prog) [] f295 [.int .u8 (c.toNat:Int)] (.bool (isLt c.toNat)):=by
 refine ax _ [.tmp 2] _ rfl rfl rfl ak ?_;repeat' (first|with_reducible apply zJ<;>intro _|simp(disch:=omega) only[go_sem, *])
 all_goals
  refine ab (congrArg D.bool ?_);rw[Bool.eq_iff_iff];simp[isLt, *]<;>omega
def BA(c:UInt8):ao prog 295 [.int .u8 (c.toNat:Int)] (.bool (isLt c.toNat)):=aw mixed (QU c) rfl ak rfl
def P9(c:UInt8):qz prog (cJ prog) [] f326 [.int .u8 (c.toNat:Int)] (.bool (y8 c.toNat)):=by
 refine ax _ [.tmp 2] _ rfl rfl rfl ak ?_;repeat' (first|with_reducible apply zJ<;>intro _|simp(disch:=omega) only[go_sem, *])
 all_goals
  refine ab (congrArg D.bool ?_);rw[Bool.eq_iff_iff];simp[y8, *]<;>omega
def GP(c:UInt8):ao prog 326 [.int .u8 (c.toNat:Int)] (.bool (y8 c.toNat)):=aw mixed (P9 c) rfl ak rfl
def XQ(c:UInt8):qz prog (cJ prog) [] f296 [.int .u8 (c.toNat:Int)] (.bool (ir c)):=by
 refine ax _ [.tmp 2] _ rfl rfl rfl ak ?_;repeat' (first|with_reducible apply zJ<;>intro _|with_reducible refine bY (BA c) sG ?_|with_reducible refine bZ (BA c) sG ?_|with_reducible refine bY (GP c) sG ?_|with_reducible refine bZ (GP c) sG ?_|simp(disch:=omega) only[go_sem, *])
 all_goals
  refine ab (congrArg D.bool ?_);rw[Bool.eq_iff_iff];simp[ir, *]<;>omega
def XP(c:UInt8):ao prog 296 [.int .u8 (c.toNat:Int)] (.bool (ir c)):=aw mixed (XQ c) rfl ak rfl
theorem T9(s:List UInt8)(hs:s.length<=140737488355328):qz prog (cJ prog) [] f247 [.str s] (.bool (iI s)):=by
 refine ax _ [.tmp 2] _ rfl rfl rfl ak ?_
 match s,hs with
 |[],hs=>
  repeat' (first|with_reducible apply zJ<;>intro _|simp(disch:=omega) only[go_sem, *])
  all_goals exact ab (by simp_all[iI])
 |c::r,hs=>
  have hx:(c::r)[0]? =some c:=rfl;have hl:(c::r).length=r.length+1:=rfl;by_cases h32:32<(((c::r).length:Nat):Int)
  ·have hb:iI (c::r)=false:=by
    have:¬(c::r).length<=32:=oM;simp only[iI,this,decide_false,Bool.false_and]
   have h1:¬(((c::r).length:Nat):Int)<1:=oM;generalize hz:c::r=z at *;rw[hb];have ly:decide (((z.length:Nat):Int)<1)=false:=by simp;omega
   have G7:decide (32<((z.length:Nat):Int))=true:=by simp;omega
   simp(disch:=omega) only[go_sem,ly,G7];exact ab rfl
  ·have h1:¬(((c::r).length:Nat):Int)<1:=oM;have ar:=BA c;by_cases hc:isLt c.toNat=true
   ·rw[hc]at ar;have yX:iI (c::r)=(c::r).all ir:=by
     have:(c::r).length<=32:=oM;simp only[iI,this,decide_true,hc,Bool.true_and]
    rw[yX];clear yX;generalize hz:c::r=z at *;have ly:decide (((z.length:Nat):Int)<1)=false:=by simp;omega
    have G7:decide (32<((z.length:Nat):Int))=false:=by simp;omega
    simp(disch:=omega) only[go_sem,ly,G7,hx];refine av ar sG ?_;simp(disch:=omega) only[go_sem];refine bo z.length (fun k σ _=>σ 0= .str z/\σ 3= .int .i64 k/\(z.take k).all ir=true)
     ⟨by simp[go_sem,bF],by simp[go_sem],by simp⟩ ?_ ?_
    ·rintro k σ bx hk ⟨h0,h3,hb⟩;obtain⟨x,hx⟩:=ba hk;simp(disch:=omega) only[go_sem,h0,h3];refine yv oM ?_;simp(disch:=omega) only[go_sem,h0,h3,hx];refine av (XP x) sG ?_;simp(disch:=omega) only[go_sem];refine aZ (fun hp=>?_) (fun hp=>?_)
     ·simp(disch:=omega) only[go_sem,h0,h3];rw[aE oM];exact⟨rfl,mf ir hx hb hp⟩
     ·simp(disch:=omega) only[go_sem];exact ab (by rw[pR ir hx hp])
    ·rintro σ bx ⟨h0,h3,hb⟩;simp(disch:=omega) only[go_sem,h0,h3];refine GG oM ?_;simp(disch:=omega) only[go_sem];rw[tL]at hb;exact ab (by rw[hb])
   ·have hc:isLt c.toNat=false:=by simpa using hc
    rw[hc]at ar;have hb:iI (c::r)=false:=by simp only[iI,hc,Bool.and_false,Bool.false_and]
    rw[hb];clear hb;generalize hz:c::r=z at *;have ly:decide (((z.length:Nat):Int)<1)=false:=by simp;omega
    have G7:decide (32<((z.length:Nat):Int))=false:=by simp;omega
    simp(disch:=omega) only[go_sem,ly,G7,hx];refine av ar sG ?_;simp(disch:=omega) only[go_sem];exact ab rfl
def KA(s:List UInt8)(hs:s.length<=140737488355328):ao prog 247 [.str s] (.bool (iI s)):=aw mixed (T9 s hs) rfl ak rfl
def Yz(s:ah):ao prog 327 [.str s] (.bool (wA.contains s)):=by
 refine aw mixed (fn:=f327) (tab:=[]) ?_ rfl ak rfl;refine ax _ [.tmp 2] _ rfl rfl rfl ak ?_;repeat' (first|with_reducible apply zJ<;>intro _|simp(disch:=omega) only[go_sem, *])
 all_goals
  refine ab (congrArg D.bool ?_);rw[Bool.eq_iff_iff,List.contains_iff_mem];simp[wA,I3,FP,Pe,Th,wIs,Pd,Tf,Tg, *]
def tu(s:ah)(hs:s.length<=140737488355328):ao prog 297 [.str s] (.bool (dO s)):=by
 refine aw mixed (fn:=f297) (tab:=[]) ?_ rfl ak rfl;refine ax _ [.tmp 2] _ rfl rfl rfl ak ?_;simp(disch:=omega) only[go_sem];refine av (KA s hs) sG ?_;cases h:iI s
 ·simp(disch:=omega) only[go_sem];exact ab (by simp[dO,h])
 ·simp(disch:=omega) only[go_sem];refine av (Yz s) sG ?_;simp(disch:=omega) only[go_sem];exact ab (by simp[dO,h])
def iA(l:List ah)(t:ah):Int:=if l.contains t then(l.idxOf t:Int)else -1
def nu(l:List ah)(t:ah)(hl:l.length<=140737488355328):ao prog 255 [strs l,.str t] (.int .i64 (iA l t)):=by
 refine aw mixed (fn:=f255) (tab:=[]) ?_ rfl ak rfl;refine ax _ [.tmp 4] _ rfl rfl rfl ak ?_;simp(disch:=omega) only[go_sem,strs];refine bo l.length (fun k σ bx=>σ 0=strs l/\σ 1= .str t/\σ 5= .int .i64 k/\¬t∈l.take k) ?_ ?_ ?_
 ·simp[go_sem,bF,strs]
 ·rintro k σ bx hk ⟨h0,h1,h5,hn⟩;obtain⟨x,hx⟩:=ba hk;have ar:(k:Int)<(l.length:Int):=oM;have iL:IntKind.i64.wrap ((k:Int)+1)=((k+1:Nat):Int):=aE oM;simp(disch:=omega) only[go_sem,h0,h1,h5,ar,strs,hx];refine bh (fun h2=>?_) (fun h2=>?_)
  ·simp(disch:=omega) only[go_sem,h5];subst h2;obtain⟨g1,g2⟩:=y6 l k _ hx hn;exact ab (by rw[iA,if_pos (by simpa using g2),g1])
  ·simp(disch:=omega) only[go_sem,h0,h1,h5,iL,strs];intro hm;rw[List.take_add_one,hx]at hm;simp at hm;rcases hm with hm|hm
   ·exact hn hm
   ·exact h2 hm.symm
 ·rintro σ bx ⟨h0,h1,h5,hn⟩;have ar:¬(l.length:Int)<(l.length:Int):=oM;simp(disch:=omega) only[go_sem,h0,h5,ar,strs];rw[tL]at hn;exact ab (by rw[iA,if_neg (by simpa using hn)])
def Kn(l:List ah)(t:ah):decide (0<=iA l t)=l.contains t:=by
 unfold iA;split
 ·rename_i h;rw[h];simp
 ·rename_i h;simp at h;simp[h]
def Cp(g:aW)(s:ah)(hg:g.au.length<=140737488355328):ao prog 298 [g.d,.str s] (.bool (g.au.contains s)):=by
 refine aw mixed (fn:=f298) (tab:=[]) ?_ rfl ak rfl;refine ax _ [.tmp 4] _ rfl rfl rfl ak ?_;simp(disch:=omega) only[go_sem,aW.d,strs];refine av (nu g.au s hg) sG ?_;simp(disch:=omega) only[go_sem];exact ab (by rw[Kn])
def JO(n:Int):ao prog 328 [.int .i64 n] (.bool (fA 0 1000 n)):=by
 refine aw mixed (fn:=f328) (tab:=[]) ?_ rfl ak rfl;refine ax _ [.tmp 2] _ rfl rfl rfl ak ?_;repeat' (first|with_reducible apply zJ<;>intro _|simp(disch:=omega) only[go_sem, *])
 all_goals
  refine ab (congrArg D.bool ?_);rw[Bool.eq_iff_iff];simp[fA, *]<;>omega
def Py(x:aH)(hx:x.parts.length<=140737488355328):ao prog 301 [x.d] (.bool (jv x).isSome):=by
 refine aw mixed (fn:=f301) (tab:=[]) ?_ rfl ak rfl;refine ax _ [.tmp 2] _ rfl rfl rfl ak ?_;simp(disch:=omega) only[go_sem,aH.d];by_cases h1:(x.parts.length:Int)=1
 ·obtain⟨q,hq⟩:=List.length_eq_one_iff.1 (show x.parts.length=1 by omega);have WS:x.parts[0]? =some q:=by rw[hq];rfl
  have Oe:q.d= .agg [.str q.cat,.int .i64 q.no,.str q.text]:=rfl;simp(disch:=omega) only[go_sem,h1,decide_true,WS,Oe];exact ab (by simp only[jv,hq];by_cases ht:q.text=[]<;>simp[ht])
 ·simp(disch:=omega) only[go_sem,h1,decide_false];refine ab (congrArg D.bool ?_);unfold jv;split
  ·rename_i q hq;rw[hq]at h1;exact(h1 rfl).elim
  ·rfl
def oa(g:aW)(x:Part):Bool:=if x.text=[]then g.au.contains x.cat else decide (x.cat=[])&&dO x.text
def Q3(g:aW)(x:Part):oa g x=mW g.au.contains x:=by
 unfold oa mW;by_cases h:x.text=[]<;>simp[h]
def Ud(g:aW)(x:Part)(hg:g.au.length<=140737488355328)(hx:MT x):ao prog 329 [g.d,x.d] (.bool (oa g x)):=by
 refine aw mixed (fn:=f329) (tab:=[]) ?_ rfl ak rfl;refine ax _ [.tmp 4] _ rfl rfl rfl ak ?_;simp(disch:=omega) only[go_sem,aW.d,strs,Part.d];refine bh (fun h=>?_) (fun h=>?_)
 ·simp(disch:=omega) only[go_sem,h];refine av (Cp g x.cat hg) (show D.aF [g.d,.str x.cat]=true by simp[D.aF,D.pure,kW]) ?_;simp(disch:=omega) only[go_sem];exact ab (by simp[oa,h])
 ·simp(disch:=omega) only[go_sem,h];refine bh (fun h2=>?_) (fun h2=>?_)
  ·simp(disch:=omega) only[go_sem,h,h2,decide_true];refine av (tu x.text hx.text) sG ?_;simp(disch:=omega) only[go_sem,h2,decide_true];exact ab (by simp[oa,h,h2])
  ·simp(disch:=omega) only[go_sem,h2,decide_false];exact ab (by simp[oa,h,h2])
def lF(x:aH)(y:dT):Bool:=if y.text=[]then decide (0<=y.part/\y.part<x.parts.length)&&(x.parts[y.part.toNat]?).any (fun q=>decide (q.text=[]))else decide (y.part=0)&&dO y.text
def TF(x:aH)(y:dT)(hy:small y.text)(hx:x.parts.length<=140737488355328):ao prog 330 [x.d,y.d] (.bool (lF x y)):=by
 refine aw mixed (fn:=f330) (tab:=[]) ?_ rfl ak rfl;refine ax _ [.tmp 4] _ rfl rfl rfl ak ?_;simp(disch:=omega) only[go_sem,aH.d,dT.d];refine bh (fun h=>?_) (fun h=>?_)
 ·simp(disch:=omega) only[go_sem];refine bh (fun h1=>?_) (fun h1=>?_)
  rotate_left
  ·simp(disch:=omega) only[go_sem,h1,decide_false];exact ab (by simp[lF,h,h1])
  simp(disch:=omega) only[go_sem,h1,decide_true];refine bh (fun h2=>?_) (fun h2=>?_)
  rotate_left
  ·simp(disch:=omega) only[go_sem,h1,h2,decide_true,decide_false];exact ab (by simp[lF,h,h2])
  obtain⟨k,hk⟩:∃k:Nat,y.part=k:=⟨y.part.toNat,by omega⟩
  obtain⟨q,hq⟩:=ba (show k<x.parts.length by omega);have Oe:q.d= .agg [.str q.cat,.int .i64 q.no,.str q.text]:=rfl;rw[hk]at h1 h2;simp(disch:=omega) only[go_sem,hk,h1,h2,decide_true,hq,Oe];exact ab (by simp[lF,h,hk,h2,hq])
 ·simp(disch:=omega) only[go_sem];refine bh (fun h1=>?_) (fun h1=>?_)
  ·simp(disch:=omega) only[go_sem,h1,decide_true];refine av (tu y.text hy) sG ?_;simp(disch:=omega) only[go_sem,h1,decide_true];exact ab (by simp[lF,h,h1])
  ·simp(disch:=omega) only[go_sem,h1,decide_false];exact ab (by simp[lF,h,h1])
def Qk(x:aH)(k:Nat)(hx:x.aN.length<=140737488355328):ao prog 331 [x.d,.int .i64 k] (.int .i64 (bT x.aN k)):=by
 refine aw mixed (fn:=f331) (tab:=[]) ?_ rfl ak rfl;refine ax _ [.tmp 4] _ rfl rfl rfl ak ?_;have gf:x.d= .agg [.str x.cat,.int .i64 x.no,.sl 3 (x.parts.map Part.d),.sl 2 (x.aN.map dT.d),.int .i64 x.cost]:=rfl;simp(disch:=omega) only[go_sem,gf];refine bo x.aN.length (fun i σ bx=>σ 1= .int .i64 k/\σ 2= .loc 2 1 0 0/\σ 6= .int .i64 i/\σ 5= .int .i64 (bT (x.aN.take i) k)/\bx 2=⟨1,1,5,142,[x.d]⟩) ?_ ?_ ?_
 ·simp(disch:=omega) only[go_sem,gf,List.take_zero];rfl
 ·rintro i σ bx hi ⟨q1,q2,q6,q5,b2⟩;obtain⟨y,hy⟩:=ba hi;have ar:(i:Int)<(x.aN.length:Int):=oM;have jF:IntKind.i64.wrap ((i:Int)+1)=((i+1:Nat):Int):=aE oM;have fV:x.aN.take (i+1)=x.aN.take i++[y]:=by rw[List.take_add_one,hy];rfl
  have oS:y.d= .agg [.int .i64 y.part,.str y.text]:=rfl;have hle:=Nj (x.aN.take i) k;have aeR:(x.aN.take i).length<=x.aN.length:=List.length_take_le' ..;have ow:IntKind.i64.wrap ((bT (x.aN.take i) k:Int)+1)=((bT (x.aN.take i) k+1:Nat):Int):=aE oM;by_cases ht:y.text=[]
  ·by_cases hp:y.part=(k:Int)
   ·have:bT (x.aN.take (i+1)) k=bT (x.aN.take i) k+1:=by rw[fV,tI,if_pos ⟨ht,hp⟩]
    simp(disch:=omega) only[go_sem,q1,q2,q5,q6,ar,jF,hy,oS,b2,gf,ht,hp,decide_true,ow,this]
   ·have:bT (x.aN.take (i+1)) k=bT (x.aN.take i) k:=by rw[fV,tI,if_neg (by simp[hp])];rfl
    simp(disch:=omega) only[go_sem,q1,q2,q5,q6,ar,jF,hy,oS,b2,gf,ht,hp,decide_true,decide_false,this]
  ·have:bT (x.aN.take (i+1)) k=bT (x.aN.take i) k:=by rw[fV,tI,if_neg (by simp[ht])];rfl
   simp(disch:=omega) only[go_sem,q1,q2,q5,q6,ar,jF,hy,oS,b2,gf,ht,decide_true,decide_false,this]
 ·rintro σ bx ⟨q1,q2,q6,q5,b2⟩;have ar:¬(x.aN.length:Int)<(x.aN.length:Int):=oM;simp(disch:=omega) only[go_sem,q2,q5,q6,ar,b2,gf];rw[tL];exact .refl _
def SZ(g:aW)(s:ah):D.aF [g.d,.str s]=true:=by simp[D.aF,D.pure,kW]
def P0(g:aW)(x:Entry)(hg:g.au.length<=140737488355328)(hx:MS x):ao prog 299 [g.d,x.d] (.bool (fG g.au.contains x)):=by
 refine aw mixed (fn:=f299) (tab:=[]) ?_ rfl ak rfl;refine ax _ [.tmp 4] _ rfl rfl rfl ak ?_;have gf:x.d= .agg [.str x.text,.str x.cat,.int .i64 x.no,.sl 1 (x.aN.map D.str),.int .i64 x.cost]:=rfl;have dj:g.d= .agg [.str g.name,.sl 1 (g.au.map D.str),.str g.start,.int .i64 g.no,.sl 5 (g.entries.map Entry.d),.sl 5 (g.rules.map aH.d)]:=rfl;have AP:=hx.len;simp(disch:=omega) only[go_sem,gf,dj];refine av (tu x.text hx.text) sG ?_;cases h1:dO x.text
 ·simp(disch:=omega) only[go_sem,nF];exact ab (by simp[fG,h1])
 simp(disch:=omega) only[go_sem,nT,dj];refine av (Cp g x.cat hg) (SZ g x.cat) ?_;cases h2:g.au.contains x.cat
 ·simp(disch:=omega) only[go_sem,nF];exact ab (by simp only[fG,h1,h2,Bool.false_and,Bool.and_false])
 simp(disch:=omega) only[go_sem,nT];by_cases h3:(x.aN.length:Int)<1
 ·simp(disch:=omega) only[go_sem,h3,decide_true];exact ab (by
   have:fA 1 4 x.aN.length=false:=by simp[fA];omega
   simp only[fG,this,Bool.false_and,Bool.and_false])
 by_cases h4:(4:Int)<(x.aN.length:Int)
 ·simp(disch:=omega) only[go_sem,h3,h4,decide_true,decide_false];exact ab (by
   have:fA 1 4 x.aN.length=false:=by simp[fA];omega
   simp only[fG,this,Bool.false_and,Bool.and_false])
 have h34:fA 1 4 x.aN.length=true:=by simp[fA];omega
 simp(disch:=omega) only[go_sem,h3,h4,decide_false];refine av (JO x.cost) sG ?_;cases h5:fA 0 1000 x.cost
 ·simp(disch:=omega) only[go_sem,h3,decide_false,nF];exact ab (by simp only[fG,h5,Bool.and_false])
 have he:fG g.au.contains x=x.aN.all dO:=by simp only[fG,h1,h2,h34,h5,Bool.true_and,Bool.and_true]
 rw[he];simp(disch:=omega) only[go_sem,h3,decide_false,nT];refine bo x.aN.length (fun i σ bx=>σ 3= .loc 3 1 0 0/\σ 5= .int .i64 i/\bx 3=⟨1,1,5,138,[x.d]⟩/\(x.aN.take i).all dO=true) ?_ ?_ ?_
 ·simp(disch:=omega) only[go_sem,gf,List.take_zero,List.all_nil]
 ·rintro i σ bx hi ⟨q3,q5,b3,hb⟩;obtain⟨y,hy⟩:=ba hi;have ar:(i:Int)<(x.aN.length:Int):=oM;have jF:IntKind.i64.wrap ((i:Int)+1)=((i+1:Nat):Int):=aE oM;simp(disch:=omega) only[go_sem,q3,q5,ar,b3,gf,hy];refine av (tu y (hx.aN y (mG hy))) sG ?_;cases hf:dO y
  ·simp(disch:=omega) only[go_sem,nF];exact ab (by rw[pR dO hy hf])
  ·simp(disch:=omega) only[go_sem,nT,q3,q5,jF,b3];exact mf dO hy hb hf
 ·rintro σ bx ⟨q3,q5,b3,hb⟩;have ar:¬(x.aN.length:Int)<(x.aN.length:Int):=oM;rw[tL]at hb;simp(disch:=omega) only[go_sem,q3,q5,ar,b3,gf];exact ab (by rw[hb])
def cR(x:aH)(i:Nat):Bool:=(x.parts[i]?).all fun q=> !decide (q.text=[])||decide (bT x.aN i=1)
def j8(g:aW)(x:aH):Bool:=g.au.contains x.cat&&(fA 1 4 x.parts.length&&(fA 1 8 x.aN.length&&(fA 0 1000 x.cost&&(x.parts.all (oa g)&&(x.aN.all (lF x)&&(List.range x.parts.length).all (cR x))))))
def pp{a b:D}(ha:a.pure=true)(hb:b.pure=true):D.aF [a,b]=true:=by simp[D.aF,ha,hb]
def Il(x:aH):x.d.pure=true:=by simp[aH.d,D.pure,D.aF]
def XV(x:Entry):x.d.pure=true:=by simp[Entry.d,D.pure,D.aF,strs]
def Uj(g:aW)(x:aH)(hg:g.au.length<=140737488355328)(hx:JH x):ao prog 300 [g.d,x.d] (.bool (j8 g x)):=by
 refine aw mixed (fn:=f300) (tab:=[]) ?_ rfl ak rfl;refine ax _ [.tmp 4] _ rfl rfl rfl ak ?_;have gf:x.d= .agg [.str x.cat,.int .i64 x.no,.sl 3 (x.parts.map Part.d),.sl 2 (x.aN.map dT.d),.int .i64 x.cost]:=rfl;have dj:g.d= .agg [.str g.name,.sl 1 (g.au.map D.str),.str g.start,.int .i64 g.no,.sl 5 (g.entries.map Entry.d),.sl 5 (g.rules.map aH.d)]:=rfl;have mT:=hx.xm;have AP:=hx.Lr;simp(disch:=omega) only[go_sem,gf,dj];refine av (Cp g x.cat hg) (SZ g x.cat) ?_;cases h1:g.au.contains x.cat
 ·simp(disch:=omega) only[go_sem,nF];exact ab (by simp only[j8,h1,Bool.false_and])
 simp(disch:=omega) only[go_sem,nT];by_cases h2:(x.parts.length:Int)<1
 ·simp(disch:=omega) only[go_sem,h2,decide_true];exact ab (by
   have:fA 1 4 x.parts.length=false:=by simp[fA];omega
   simp only[j8,this,Bool.false_and,Bool.and_false])
 by_cases h3:(4:Int)<(x.parts.length:Int)
 ·simp(disch:=omega) only[go_sem,h2,h3,decide_true,decide_false];exact ab (by
   have:fA 1 4 x.parts.length=false:=by simp[fA];omega
   simp only[j8,this,Bool.false_and,Bool.and_false])
 have G5:fA 1 4 x.parts.length=true:=by simp[fA];omega
 by_cases h4:(x.aN.length:Int)<1
 ·simp(disch:=omega) only[go_sem,h2,h3,h4,decide_true,decide_false];exact ab (by
   have:fA 1 8 x.aN.length=false:=by simp[fA];omega
   simp only[j8,this,Bool.false_and,Bool.and_false])
 by_cases h5:(8:Int)<(x.aN.length:Int)
 ·simp(disch:=omega) only[go_sem,h2,h3,h4,h5,decide_true,decide_false];exact ab (by
   have:fA 1 8 x.aN.length=false:=by simp[fA];omega
   simp only[j8,this,Bool.false_and,Bool.and_false])
 have h45:fA 1 8 x.aN.length=true:=by simp[fA];omega
 simp(disch:=omega) only[go_sem,h2,h3,h4,h5,decide_false];refine av (JO x.cost) sG ?_;cases h6:fA 0 1000 x.cost
 ·simp(disch:=omega) only[go_sem,h2,decide_false,nF];exact ab (by simp only[j8,h6,Bool.false_and,Bool.and_false])
 have he:j8 g x=(x.parts.all (oa g)&&(x.aN.all (lF x)&&(List.range x.parts.length).all (cR x))):=by simp only[j8,h1,G5,h45,h6,Bool.true_and]
 rw[he];simp(disch:=omega) only[go_sem,h2,decide_false,nT];refine bo x.parts.length (fun i σ bx=>σ 2= .loc 2 1 0 0/\σ 3= .loc 3 1 0 0/\σ 5= .int .i64 i/\bx 2=⟨1,1,6,81,[g.d]⟩/\bx 3=⟨1,1,5,142,[x.d]⟩/\(x.parts.take i).all (oa g)=true) ?_ ?_ ?_
 ·simp(disch:=omega) only[go_sem,gf,dj,List.take_zero,List.all_nil]
 ·rintro i σ bx hi ⟨q2,q3,q5,b2,b3,hb⟩;obtain⟨y,hy⟩:=ba hi;have ar:(i:Int)<(x.parts.length:Int):=oM;have jF:IntKind.i64.wrap ((i:Int)+1)=((i+1:Nat):Int):=aE oM;have oS:y.d= .agg [.str y.cat,.int .i64 y.no,.str y.text]:=rfl;simp(disch:=omega) only[go_sem,q2,q3,q5,ar,b2,b3,gf,dj,hy,oS];refine av (Ud g y hg (hx.parts y (mG hy))) (pp (kW g) rfl) ?_;cases hf:oa g y
  ·simp(disch:=omega) only[go_sem,nF];exact ab (by rw[pR (oa g) hy hf,Bool.false_and])
  ·simp(disch:=omega) only[go_sem,nT,q2,q3,q5,jF,b2,b3];exact mf (oa g) hy hb hf
 ·rintro σ bx ⟨q2,q3,q5,b2,b3,hb⟩;have ar:¬(x.parts.length:Int)<(x.parts.length:Int):=oM;rw[tL]at hb;rw[hb,Bool.true_and];simp(disch:=omega) only[go_sem,q3,q5,ar,b3,gf];refine bo x.aN.length (fun i σ bx=>σ 3= .loc 3 1 0 0/\σ 6= .int .i64 i/\bx 3=⟨1,1,5,142,[x.d]⟩/\(x.aN.take i).all (lF x)=true) ?_ ?_ ?_
  ·simp(disch:=omega) only[go_sem,q3,b3,gf,List.take_zero,List.all_nil]
  ·rintro i σ bx hi ⟨q3,q6,b3,hb⟩;obtain⟨y,hy⟩:=ba hi;have ar:(i:Int)<(x.aN.length:Int):=oM;have jF:IntKind.i64.wrap ((i:Int)+1)=((i+1:Nat):Int):=aE oM;have oS:y.d= .agg [.int .i64 y.part,.str y.text]:=rfl;simp(disch:=omega) only[go_sem,q3,q6,ar,b3,gf,hy,oS];refine av (TF x y (hx.aN y (mG hy)) mT) (pp (Il x) rfl) ?_;cases hf:lF x y
   ·simp(disch:=omega) only[go_sem,nF];exact ab (by rw[pR (lF x) hy hf,Bool.false_and])
   ·simp(disch:=omega) only[go_sem,nT,q3,q6,jF,b3];exact mf (lF x) hy hb hf
  ·rintro σ bx ⟨q3,q6,b3,hb⟩;have ar:¬(x.aN.length:Int)<(x.aN.length:Int):=oM;rw[tL]at hb;rw[hb,Bool.true_and];simp(disch:=omega) only[go_sem,q3,q6,ar,b3,gf];refine bo x.parts.length (fun i σ bx=>σ 3= .loc 3 1 0 0/\σ 7= .int .i64 i/\bx 3=⟨1,1,5,142,[x.d]⟩/\∀k,k<i->cR x k=true) ?_ ?_ ?_
   ·simp(disch:=omega) only[go_sem,q3,b3,gf];exact fun k hk=>by omega
   ·rintro i σ bx hi ⟨q3,q7,b3,hb⟩;obtain⟨y,hy⟩:=ba hi;have ar:(i:Int)<(x.parts.length:Int):=oM;have jF:IntKind.i64.wrap ((i:Int)+1)=((i+1:Nat):Int):=aE oM;have oS:y.d= .agg [.str y.cat,.int .i64 y.no,.str y.text]:=rfl;have aQ:cR x i=false->(List.range x.parts.length).all (cR x)=false:=fun h=>by rw[List.all_eq_false];exact⟨i,List.mem_range.2 hi,by simp[h]⟩
    have D8:cR x i=true->∀k,k<i+1->cR x k=true:=fun h k hk=>by
     by_cases e:k=i
     ·rw[e];exact h
     ·exact hb k oM
    by_cases ht:y.text=[]
    ·simp(disch:=omega) only[go_sem,q3,q7,ar,b3,gf,hy,oS,ht,decide_true];refine av (Qk x i AP) (pp (Il x) rfl) ?_;by_cases hc:(bT x.aN i:Int)=1
     ·have xT:cR x i=true:=by simp only[cR,hy,Option.all_some,ht];simp;omega
      simp(disch:=omega) only[go_sem,hc,decide_true,nT,q3,q7,jF,b3];exact D8 xT
     ·have xT:cR x i=false:=by simp only[cR,hy,Option.all_some,ht];simp;omega
      simp(disch:=omega) only[go_sem,hc,decide_false,nF];exact ab (by rw[aQ xT])
    ·have xT:cR x i=true:=by simp[cR,hy,ht]
     simp(disch:=omega) only[go_sem,q3,q7,ar,b3,gf,hy,oS,ht,decide_false,jF];exact D8 xT
   ·rintro σ bx ⟨q3,q7,b3,hb⟩;have ar:¬(x.parts.length:Int)<(x.parts.length:Int):=oM;simp(disch:=omega) only[go_sem,q3,q7,ar,b3,gf];exact ab (by rw[List.all_eq_true.2 fun k hk=>hb k (List.mem_range.1 hk)])
def Rd(g:aW)(x:aH):j8 g x=ja g.au.contains x:=by
 have h1:x.parts.all (oa g)=x.parts.all (mW g.au.contains):=by congr 1;funext q;exact Q3 g q
 have h2:(x.aN.all (lF x)&&(List.range x.parts.length).all (cR x))=(x.aN.all (kH x.parts.length)&&pk x):=by
  rw[Bool.eq_iff_iff];simp only[bA,List.all_eq_true,pk,List.mem_range];constructor
  ·rintro⟨a,b⟩;refine⟨fun y hy=>?_,fun i hi=>?_⟩
   ·have:=a y hy;unfold lF at this;unfold kH;split
    ·rename_i ht;rw[if_pos ht]at this;simp[fA]at this⊢;omega
    ·rename_i ht;rw[if_neg ht]at this;exact this
   ·obtain⟨q,hq⟩:=ba hi;have hb:=b i hi;simp only[cR,hq,Option.all_some]at hb;rw[Cn hq];by_cases ht:q.text=[]
    ·simp[ht]at hb;simp[ht,hb]
    ·have:bT x.aN i=0:=by
      rw[bT,List.countP_eq_zero];intro y hy hc;simp only[bA,decide_eq_true_eq]at hc;have:=a y hy;rw[lF,if_pos hc.1,hc.2,Int.toNat_natCast,hq]at this;simp[ht]at this
     simp[ht,this]
  ·rintro⟨a,b⟩;refine⟨fun y hy=>?_,fun i hi=>?_⟩
   ·have:=a y hy;unfold kH at this;unfold lF;split
    ·rename_i ht;rw[if_pos ht]at this;simp[fA]at this;obtain⟨k,hk⟩:∃k:Nat,y.part=k:=⟨y.part.toNat,by omega⟩
     have tS:k<x.parts.length:=oM;obtain⟨q,hq⟩:=ba tS;have hb:=b k tS;rw[Cn hq]at hb;have eM:0<bT x.aN k:=List.countP_pos_iff.2 ⟨y,hy,by simp[ht,hk]⟩;simp only[bA,decide_eq_true_eq,beq_iff_eq,decide_eq_decide]at hb;have hqt:=hb.2.1 oM;rw[hk,Int.toNat_natCast,hq];simp[hqt,tS]
    ·rename_i ht;rw[if_neg ht]at this;exact this
   ·obtain⟨q,hq⟩:=ba hi;have hb:=b i hi;rw[Cn hq]at hb;simp only[bA,decide_eq_true_eq,beq_iff_eq,decide_eq_decide]at hb;simp only[cR,hq,Option.all_some];by_cases ht:q.text=[]
    ·have:=hb.2.2 ht;simp[ht];omega
    ·simp[ht]
 simp only[j8,ja,h1,h2]
def tH(l:List ah)(i:Nat):Bool:=(l[i]?).all fun c=>dO c&&decide (iA l c=(i:Int))
def oW(g:aW):Bool:=dO g.name&&(decide (0<g.au.length)&&(g.au.contains g.start&&((List.range g.au.length).all (tH g.au)&&(g.entries.all (fG g.au.contains)&&g.rules.all (j8 g)))))
def Rz(g:aW)(hg:mP g):ao prog 254 [g.d] (.bool (oW g)):=by
 refine aw mixed (fn:=f254) (tab:=[]) ?_ rfl ak rfl;refine ax _ [.tmp 2] _ rfl rfl rfl ak ?_;have dj:g.d= .agg [.str g.name,.sl 1 (g.au.map D.str),.str g.start,.int .i64 g.no,.sl 5 (g.entries.map Entry.d),.sl 5 (g.rules.map aH.d)]:=rfl;have fL:=hg.Bm;have er:=hg.Bp;have qe:=hg.zH;simp(disch:=omega) only[go_sem,dj];refine av (tu g.name hg.name) sG ?_;cases h1:dO g.name
 ·simp(disch:=omega) only[go_sem,nF];exact ab (by simp only[oW,h1,Bool.false_and])
 simp(disch:=omega) only[go_sem,nT,dj];by_cases h2:(g.au.length:Int)<1
 ·simp(disch:=omega) only[go_sem,h2,decide_true];exact ab (by rw[oW,decide_eq_false (show ¬0<g.au.length by omega),Bool.false_and,Bool.and_false])
 have VR:decide (0<g.au.length)=true:=decide_eq_true oM;simp(disch:=omega) only[go_sem,h2,decide_false,dj];refine av (Cp g g.start fL) (SZ g g.start) ?_;cases h3:g.au.contains g.start
 ·simp(disch:=omega) only[go_sem,h2,decide_false,nF];exact ab (by simp only[oW,h3,Bool.false_and,Bool.and_false])
 have he:oW g=((List.range g.au.length).all (tH g.au)&&(g.entries.all (fG g.au.contains)&&g.rules.all (j8 g))):=by simp only[oW,h1,VR,h3,Bool.true_and]
 rw[he];simp(disch:=omega) only[go_sem,h2,decide_false,nT];refine bo g.au.length (fun i σ bx=>σ 1= .loc 1 1 0 0/\σ 3= .int .i64 i/\bx 1=⟨1,1,6,81,[g.d]⟩/\∀k,k<i->tH g.au k=true) ?_ ?_ ?_
 ·simp(disch:=omega) only[go_sem,dj];exact fun k hk=>by omega
 ·rintro i σ bx hi ⟨q1,q3,b1,hb⟩;obtain⟨y,hy⟩:=ba hi;have ar:(i:Int)<(g.au.length:Int):=oM;have jF:IntKind.i64.wrap ((i:Int)+1)=((i+1:Nat):Int):=aE oM;have aQ:tH g.au i=false->(List.range g.au.length).all (tH g.au)=false:=fun h=>by rw[List.all_eq_false];exact⟨i,List.mem_range.2 hi,by simp[h]⟩
  simp(disch:=omega) only[go_sem,q1,q3,ar,b1,dj,hy];refine av (tu y (hg.au y (mG hy))) sG ?_;cases hf:dO y
  ·simp(disch:=omega) only[go_sem,nF];exact ab (by rw[aQ (by simp[tH,hy,hf]),Bool.false_and])
  simp(disch:=omega) only[go_sem,nT,q1,q3,b1,dj,hy];refine av (nu g.au y fL) sG ?_;by_cases hx:iA g.au y=(i:Int)
  ·simp(disch:=omega) only[go_sem,hx,decide_true,nT,q1,q3,jF,b1,dj];intro k hk;by_cases e:k=i
   ·rw[e];simp[tH,hy,hf,hx]
   ·exact hb k oM
  ·simp(disch:=omega) only[go_sem,hx,q3,decide_false,nF];exact ab (by rw[aQ (by simp[tH,hy,hf,hx]),Bool.false_and])
 ·rintro σ bx ⟨q1,q3,b1,hb⟩;have ar:¬(g.au.length:Int)<(g.au.length:Int):=oM;rw[List.all_eq_true.2 fun k hk=>hb k (List.mem_range.1 hk),Bool.true_and];simp(disch:=omega) only[go_sem,q1,q3,ar,b1,dj];refine bo g.entries.length (fun i σ bx=>σ 1= .loc 1 1 0 0/\σ 4= .int .i64 i/\bx 1=⟨1,1,6,81,[g.d]⟩/\(g.entries.take i).all (fG g.au.contains)=true) ?_ ?_ ?_
  ·simp(disch:=omega) only[go_sem,q1,b1,dj,List.take_zero,List.all_nil]
  ·rintro i σ bx hi ⟨q1,q4,b1,hb⟩;obtain⟨y,hy⟩:=ba hi;have ar:(i:Int)<(g.entries.length:Int):=oM;have jF:IntKind.i64.wrap ((i:Int)+1)=((i+1:Nat):Int):=aE oM;have oS:y.d= .agg [.str y.text,.str y.cat,.int .i64 y.no,.sl 1 (y.aN.map D.str),.int .i64 y.cost]:=rfl;simp(disch:=omega) only[go_sem,q1,q4,ar,b1,dj,hy,oS];refine av (P0 g y fL (hg.ew y (mG hy))) (pp (kW g) (XV y)) ?_;cases hf:fG g.au.contains y
   ·simp(disch:=omega) only[go_sem,nF];exact ab (by rw[pR (fG g.au.contains) hy hf,Bool.false_and])
   ·simp(disch:=omega) only[go_sem,nT,q1,q4,jF,b1,dj];exact mf (fG g.au.contains) hy hb hf
  ·rintro σ bx ⟨q1,q4,b1,hb⟩;have ar:¬(g.entries.length:Int)<(g.entries.length:Int):=oM;rw[tL]at hb;rw[hb,Bool.true_and];simp(disch:=omega) only[go_sem,q1,q4,ar,b1,dj];refine bo g.rules.length (fun i σ bx=>σ 1= .loc 1 1 0 0/\σ 5= .int .i64 i/\bx 1=⟨1,1,6,81,[g.d]⟩/\(g.rules.take i).all (j8 g)=true) ?_ ?_ ?_
   ·simp(disch:=omega) only[go_sem,q1,b1,dj,List.take_zero,List.all_nil]
   ·rintro i σ bx hi ⟨q1,q5,b1,hb⟩;obtain⟨y,hy⟩:=ba hi;have ar:(i:Int)<(g.rules.length:Int):=oM;have jF:IntKind.i64.wrap ((i:Int)+1)=((i+1:Nat):Int):=aE oM;have oS:y.d= .agg [.str y.cat,.int .i64 y.no,.sl 3 (y.parts.map Part.d),.sl 2 (y.aN.map dT.d),.int .i64 y.cost]:=rfl;simp(disch:=omega) only[go_sem,q1,q5,ar,b1,dj,hy,oS];refine av (Uj g y fL (hg.rules y (mG hy))) (pp (kW g) (Il y)) ?_;cases hf:j8 g y
    ·simp(disch:=omega) only[go_sem,nF];exact ab (by rw[pR (j8 g) hy hf])
    ·simp(disch:=omega) only[go_sem,nT,q1,q5,jF,b1,dj];exact mf (j8 g) hy hb hf
   ·rintro σ bx ⟨q1,q5,b1,hb⟩;have ar:¬(g.rules.length:Int)<(g.rules.length:Int):=oM;rw[tL]at hb;simp(disch:=omega) only[go_sem,q1,q5,ar,b1,dj];exact ab (by rw[hb])
def Tr(l:List ah):(List.range l.length).all (tH l)=(decide l.Nodup&&l.all dO):=by
 rw[Bool.eq_iff_iff];simp only[bA,List.all_eq_true,decide_eq_true_eq,List.mem_range];constructor
 ·intro h;have hi:∀(i:Nat) c,l[i]? =some c->dO c=true/\l.idxOf c=i:=fun i c hc=>by
   have:=h i (gS.1 hc).1;simp only[tH,hc,Option.all_some,bA,decide_eq_true_eq,iA,List.contains_iff_mem.2 (mG hc),if_true]at this;exact⟨this.1,by omega⟩
  refine⟨?_,fun c hc=>?_⟩
  ·refine List.pairwise_iff_getElem.2 fun i j jG qa pD he=>?_;have h1:=(hi j l[j] (gE qa)).2;have h2:=(hi i l[i] (gE jG)).2;rw[he]at h2;omega
  ·obtain⟨i,hc⟩:=List.mem_iff_getElem?.1 hc;exact(hi i c hc).1
 ·rintro⟨h1,h2⟩ i hi;obtain⟨c,hc⟩:=ba hi;have:=(y6 l i c hc (HU h1 hc)).1;simp only[tH,hc,Option.all_some,bA,decide_eq_true_eq,iA,List.contains_iff_mem.2 (mG hc),if_true];exact⟨h2 c (mG hc),by omega⟩
def O8(g:aW):oW g=(decide g.au.Nodup&&gG g.au.contains g):=by
 have h1:g.rules.all (j8 g)=g.rules.all (ja g.au.contains):=by congr 1;funext x;exact Rd g x
 simp only[oW,gG,Tr,h1];cases dO g.name<;>cases decide (0<g.au.length)<;>cases g.au.contains g.start<;>cases decide g.au.Nodup<;>cases g.au.all dO<;>simp
def push(c:ah)(p:List ah×List ah)(x:aH):List ah×List ah:=match jv x with
 |some (a,d)=>if a=c/\¬d∈p.1 then(p.1++[d],p.2++[d])else p
 |none=>p
def run(rs:List aH):Nat->List ah×List ah->List ah
 |_,(out,[])=>out
 |0,(out,_)=>out
 |k+1,(out,c::todo)=>run rs k (rs.foldl (push c) (out,todo))
def lR(rs:List aH)(s:ah):List ah:=run rs (rs.length+1) ([],[s])
def Ad(g:aW):Bool:=g.au.any fun c=>(lR g.rules c).contains c
def Dv(l:List ah)(x:Entry):Entry:={x with no:=iA l x.cat}
def Dw(l:List ah)(q:Part):Part:={q with no:=max 0 (iA l q.cat)}
def s_(l:List ah)(x:aH):aH:={x with no:=iA l x.cat,parts:=x.parts.map (Dw l)}
def Gc(g:aW):aW:={g with no:=iA g.au g.start,entries:=g.entries.map (Dv g.au),rules:=g.rules.map (s_ g.au)}
def jV(g:aW):aW×Int:=
 if 32<g.au.length\/512<g.entries.length\/128<g.rules.length then(.zero,2)
 else if oW g=false then(.zero,260)
 else if Ad g=true then(.zero,261)else(Gc g,0)
def z_:Prop:=∀(g:aW) (s:ah),mP g->g.rules.length<=128->small s->ao prog 256 [g.d,.str s] (strs (lR g.rules s))
def Mq(CX:z_)(hlen:∀(g:aW) s,g.rules.length<=128->(lR g.rules s).length<=128)(g:aW)(hg:mP g)(mT:∀x∈g.rules,x.parts.length<=65536):mn prog (cJ prog) [(1000143,[]),(8,[(7,5),(7,2)])] f204 0 [g.d] (fun _=> .none) (UY (jV g)) (fun _ _=>False):=by
 refine aL _ [.cell 2 81,.tmp 3] 147 rfl rfl rfl ak ?_;have dj:g.d= .agg [.str g.name,.sl 1 (g.au.map D.str),.str g.start,.int .i64 g.no,.sl 5 (g.entries.map Entry.d),.sl 5 (g.rules.map aH.d)]:=rfl;have fL:=hg.Bm;simp(disch:=omega) only[go_sem,dj];by_cases vC:32<g.au.length\/512<g.entries.length\/128<g.rules.length
 ·have hr:jV g=(.zero,2):=by unfold jV;rw[if_pos vC]
  rw[hr];by_cases l1:(32:Int)<(g.au.length:Int)
  ·simp(disch:=omega) only[go_sem,l1,decide_true];exact jU _ _
  by_cases l2:(512:Int)<(g.entries.length:Int)
  ·simp(disch:=omega) only[go_sem,l1,l2,decide_true,decide_false];exact jU _ _
  have l3:(128:Int)<(g.rules.length:Int):=oM;simp(disch:=omega) only[go_sem,l1,l2,l3,decide_true,decide_false];exact jU _ _
 have l1:¬(32:Int)<(g.au.length:Int):=oM;have l2:¬(512:Int)<(g.entries.length:Int):=oM;have l3:¬(128:Int)<(g.rules.length:Int):=oM;simp(disch:=omega) only[go_sem,l1,l2,l3,decide_false,dj];refine av (Rz g hg) (pg g) ?_;cases ht:oW g
 ·have hr:jV g=(.zero,260):=by unfold jV;rw[if_neg vC,if_pos ht]
  rw[hr];simp(disch:=omega) only[go_sem,nF];exact jU _ _
 simp(disch:=omega) only[go_sem,nT];refine bo g.au.length (fun i σ bx=>σ 1= .loc 1 1 0 0/\σ 2= .loc 2 1 0 0/\σ 4= .int .i64 i/\bx 1=⟨1,1,6,81,[g.d]⟩/\bx 2=⟨1,1,6,81,[mh]⟩/\(g.au.take i).any (fun c=>(lR g.rules c).contains c)=false) ?_ ?_ ?_
 ·simp(disch:=omega) only[go_sem,dj,mh,List.take_zero,List.any_nil]
 ·rintro i σ bx hi ⟨q1,q2,q4,b1,b2,hb⟩;obtain⟨y,hy⟩:=ba hi;have ar:(i:Int)<(g.au.length:Int):=oM;have jF:IntKind.i64.wrap ((i:Int)+1)=((i+1:Nat):Int):=aE oM;simp(disch:=omega) only[go_sem,q1,q4,ar,b1,dj,hy];refine av (CX g y hg oM (hg.au y (mG hy))) (SZ g y) ?_;simp(disch:=omega) only[go_sem,q1,q4,b1,dj,hy];refine av (nu (lR g.rules y) y (by have:=hlen g y oM;omega)) (by simp[go_sem,strs]) ?_;simp(disch:=omega) only[go_sem,Kn];cases hc:(lR g.rules y).contains y
  ·simp(disch:=omega) only[go_sem,q1,q2,q4,jF,b1,b2,dj];rw[List.take_add_one,hy,List.any_append,hb];simp only[Option.toList_some,List.any_cons,hc,List.any_nil,Bool.or_false]
  ·have hr:jV g=(.zero,261):=by
    have:Ad g=true:=by rw[Ad,List.any_eq_true];exact⟨y,mG hy,hc⟩
    unfold jV;rw[if_neg vC,if_neg (by simp[ht]),if_pos this]
   rw[hr];simp(disch:=omega) only[go_sem,q2,b2,mh];exact jU _ _
 ·rintro σ bx ⟨q1,q2,q4,b1,b2,hb⟩;have ar:¬(g.au.length:Int)<(g.au.length:Int):=oM;rw[tL]at hb;have hr:jV g=(Gc g,0):=by
   have:Ad g=false:=hb;unfold jV;rw[if_neg vC,if_neg (by simp[ht]),if_neg (by simp[this])]
  rw[hr];simp(disch:=omega) only[go_sem,q1,q4,ar,b1,dj];refine av (nu g.au g.start fL) sG ?_;simp(disch:=omega) only[go_sem];generalize hE5:(bx 5).ep+1=E5;refine bo g.entries.length (fun j σ bx=>σ 1= .loc 1 1 0 0/\σ 2= .loc 2 1 0 0/\σ 5= .loc 5 E5 0 0/\σ 6= .int .i64 j/\bx 1=⟨1,1,6,81,[g.d]⟩/\bx 2=⟨1,1,6,81,[mh]⟩/\
   ∃x,bx 5=⟨E5,1,6,81,[.agg [.str g.name,.sl 1 (g.au.map D.str),.str g.start,.int .i64 (iA g.au g.start),x,.aq]]⟩/\aS bx [86] 138 5 x (((g.entries.map (Dv g.au)).take j).map Entry.d)) ?_ ?_ ?_
  ·simp(disch:=omega) only[go_sem,q1,q2,b1,b2,dj];exact⟨.aq,rfl,by simpa using aS.nil _ _ _ _⟩
  ·rintro j σ bx hj ⟨q1,q2,q5,q6,b1,b2,x',b5,ov⟩;obtain⟨x,hx⟩:=ba hj;have ar:(j:Int)<(g.entries.length:Int):=oM;have oy:IntKind.i64.wrap ((j:Int)+1)=((j+1:Nat):Int):=aE oM;have gf:x.d= .agg [.str x.text,.str x.cat,.int .i64 x.no,.sl 1 (x.aN.map D.str),.int .i64 x.cost]:=rfl;obtain⟨v1,v2,v3⟩:=ov.facts;simp(disch:=omega) only[go_sem,q1,q6,ar,b1,dj,hx,gf];refine av (nu g.au x.cat fL) sG ?_;simp(disch:=omega) only[go_sem,q5,b5];refine wG (ov.of (by simp[aj])) sG (by simp;omega) oM oM oM fun y bx' h1 h2=>?_;obtain⟨v1,v2,v3⟩:=h1.facts;have c1:=(h2 1 oM).trans ((aD oM).trans ((aD oM).trans ((aD oM).trans b1)));have c2:=(h2 2 oM).trans ((aD oM).trans ((aD oM).trans ((aD oM).trans b2)));have c5:=(h2 5 oM).trans ((aD oM).trans ((aD oM).trans ((aD oM).trans b5)));simp(disch:=omega) only[go_sem,q1,q2,q5,q6,c1,c2,c5,v1,v2,oy];rw[B0 hx,List.map_append];exact⟨y,rfl,h1.of (by simp[aj])⟩
  ·rintro σ bx ⟨q1,q2,q5,q6,b1,b2,x',b5,ov⟩;have ar:¬(g.entries.length:Int)<(g.entries.length:Int):=oM;rw[List.take_of_length_le sI]at ov;simp(disch:=omega) only[go_sem,q1,q6,b1,ar,dj];clear ar;refine Ac g.rules.length (fun j σ bx=>σ 1= .loc 1 1 0 0/\σ 2= .loc 2 1 0 0/\σ 5= .loc 5 E5 0 0/\σ 8= .int .i64 j/\bx 1=⟨1,1,6,81,[g.d]⟩/\bx 2=⟨1,1,6,81,[mh]⟩/\
    ∃x y,bx 5=⟨E5,1,6,81,[.agg [.str g.name,.sl 1 (g.au.map D.str),.str g.start,.int .i64 (iA g.au g.start),x,y]]⟩/\aS bx [86] 138 5 x ((g.entries.map (Dv g.au)).map Entry.d)/\uB 144 138 142 y (((g.rules.map (s_ g.au)).take j).map aH.d) bx) ?_ ?_ ?_
   ·simp(disch:=omega) only[go_sem,q1,q2,q5,dj];exact⟨b1,b2,x',.aq,b5,ov,.inl ⟨rfl,by simp⟩⟩
   ·rintro j σ bx hj ⟨q1,q2,q5,q8,b1,b2,x',y,b5,ov,hh⟩;obtain⟨x,hx⟩:=ba hj;obtain⟨bx0,hm,kN,l,ol,hw,Od⟩:=hh.eI (by decide);refine⟨bx0,?_,?_⟩
    ·rcases hm with rfl|⟨l,h1,h2,h3⟩
     ·exact .inl rfl
     ·exact .inr ⟨rfl,144,l,h1,h2,h3⟩
    clear hm hh;replace b1:=(kN 1 oM oM).trans b1;replace b2:=(kN 2 oM oM).trans b2;replace b5:=(kN 5 oM oM).trans b5;replace ov:=ov.of (bx':=bx0) fun q hq=>kN q (by simp at hq;omega) (by simp at hq;omega);have ar:(j:Int)<(g.rules.length:Int):=oM;have oy:IntKind.i64.wrap ((j:Int)+1)=((j+1:Nat):Int):=aE oM;have hxp:=mT x (mG hx);have gf:x.d= .agg [.str x.cat,.int .i64 x.no,.sl 3 (x.parts.map Part.d),.sl 2 (x.aN.map dT.d),.int .i64 x.cost]:=rfl;obtain⟨v1,v2,v3⟩:=ol.facts;simp(disch:=omega) only[go_sem,q1,q8,ar,b1,dj,hx,gf];refine av (nu g.au x.cat fL) sG ?_;simp(disch:=omega) only[go_sem];generalize hE9:(bx0 9).ep+1=E9;refine bo x.parts.length (fun i σ bx=>σ 1= .loc 1 1 0 0/\σ 2= .loc 2 1 0 0/\σ 5= .loc 5 E5 0 0/\σ 8= .int .i64 j/\σ 9= .loc 9 E9 0 0/\σ 10= .int .i64 i/\(∀q,q≠9->q≠11->q≠138->bx q=bx0 q)/\
     ∃p',bx 9=⟨E9,1,5,142,[.agg [.str x.cat,.int .i64 (iA g.au x.cat),p',.sl 2 (x.aN.map dT.d),.int .i64 x.cost]]⟩/\aS bx [138] 247 3 p' (((x.parts.map (Dw g.au)).take i).map Part.d)) ?_ ?_ ?_
    ·simp(disch:=omega) only[go_sem,q1,q2,q5,q8];exact⟨fun q h1 h2 h3=>by simp[h1],.aq,rfl,by simpa using aS.nil _ _ _ _⟩
    ·rintro i σ bx hi ⟨q1,q2,q5,q8,q9,oC,iV,p',b9,op⟩;obtain⟨q,hq⟩:=ba hi;have QI:(i:Int)<(x.parts.length:Int):=oM;have jF:IntKind.i64.wrap ((i:Int)+1)=((i+1:Nat):Int):=aE oM;have c1:=(iV 1 oM oM oM).trans b1;have Oe:q.d= .agg [.str q.cat,.int .i64 q.no,.str q.text]:=rfl;obtain⟨w1,w2,w3⟩:=op.facts;simp(disch:=omega) only[go_sem,q1,q8,oC,QI,c1,dj,hx,gf,hq,Oe];refine av (nu g.au q.cat fL) sG ?_;simp(disch:=omega) only[go_sem,q9,b9];refine wG (op.of (by simp[aj])) sG (by simp;omega) oM oM oM fun z bx' h1 h2=>?_;obtain⟨w1,w2,w3⟩:=h1.facts;have d9:=(h2 9 oM).trans ((aD oM).trans ((aD oM).trans ((aD oM).trans b9)));simp(disch:=omega) only[go_sem,q1,q2,q5,q8,q9,oC,d9,w1,w2,jF];refine⟨fun r g1 g2 g3=>by rw[if_neg g1];exact(h2 r g3).trans (by simp(disch:=omega) only[aD];exact iV r g1 g2 g3),z,rfl,?_⟩;rw[B0 hq,List.map_append];exact h1.of (by simp[aj])
    ·rintro σ bx ⟨q1,q2,q5,q8,q9,oC,iV,p',b9,op⟩;have QI:¬(x.parts.length:Int)<(x.parts.length:Int):=oM;have c1:=(iV 1 oM oM oM).trans b1;have c5:=(iV 5 oM oM oM).trans b5;rw[List.take_of_length_le sI]at op;obtain⟨w1,w2,w3⟩:=op.facts;simp(disch:=omega) only[go_sem,q1,q2,q5,q8,q9,oC,QI,c1,dj,hx,gf,b9,c5,v2,w2];rw[Nt (dC _ _ _)];simp only[Option.bind_some];have Sq:=hw.len;simp at Sq;refine eJ (ts:=[144]) (xs:=l) (ol.of fun q hq=>by simp at hq;subst hq;exact(aD oM).trans (iV 144 oM oM oM)) sI sG (by simp;omega) oM oM sI fun e' bx' h1 h2=>?_;have k5:=(h2 5 oM sI).trans ((aD oM).trans c5);have k1:=(h2 1 oM sI).trans ((aD oM).trans c1);have k2:=(h2 2 oM sI).trans ((aD oM).trans ((iV 2 oM oM oM).trans b2));have k86:=(h2 86 oM sI).trans ((aD oM).trans (iV 86 oM oM oM));have afp:=(h2 138 oM sI).trans (aD oM);simp(disch:=omega) only[go_sem,q1,q2,q5,q8,k5,k1,k2,oy];generalize hB:aj bx' 5 _=B;have afE:B 138=bx 138:=by rw[<-hB];exact(aD oM).trans afp
     have m86:B 86=bx0 86:=by rw[<-hB];exact(aD oM).trans k86
     have Xx:B 144=bx' 144:=by rw[<-hB];exact aD oM
     rw[h1]at Xx;clear hB;refine⟨x',_,rfl,ov.of fun q hq=>by simp at hq;subst hq;exact m86,?_⟩;rw[B0 hx,List.map_append];obtain⟨r,oA,yZ,hr3⟩:=BH (op.of (bx':=B) fun q hq=>by simp at hq;subst hq;exact afE) (zD _) (.refl _);refine uB.add (d':=.agg [.str x.cat,.int .i64 (iA g.au x.cat),r,.sl 2 (x.aN.map dT.d),.int .i64 x.cost]) hw Od Xx ?_ (by simp[D.pure,D.aF,hr3]) rfl ?_ ?_
     ·simp only[uf,dS,pt,oA];simp[go_sem]
     ·intro k c c' hc fT
      match k with
      |0=>simp[D.cells,s_,aH.d]at hc fT;subst hc;subst fT;exact .refl _
      |1=>simp[D.cells,s_,aH.d]at hc fT;subst hc;subst fT;exact .refl _
      |2=>simp[D.cells,s_,aH.d]at hc fT;subst hc;subst fT;simpa using yZ
      |3=>simp[D.cells,s_,aH.d]at hc fT;subst hc;subst fT;exact .refl _
      |4=>simp[D.cells,s_,aH.d]at hc fT;subst hc;subst fT;exact .refl _
      |k+5=>simp[D.cells]at hc
     ·intro q hq;simp only[names,bM,List.mem_append,List.not_mem_nil,false_or,or_false]at hq;have:=aS.names op q hq;simpa using this
   ·rintro σ bx ⟨q1,q2,q5,q8,b1,b2,x',y,b5,ov,hh⟩;have ar:¬(g.rules.length:Int)<(g.rules.length:Int):=oM;obtain⟨bx0,hm,kN,l,ol,hw,Od⟩:=hh.eI (by decide);refine⟨bx0,?_,?_⟩
    ·rcases hm with rfl|⟨l,h1,h2,h3⟩
     ·exact .inl rfl
     ·exact .inr ⟨rfl,144,l,h1,h2,h3⟩
    clear hm hh;replace b1:=(kN 1 oM oM).trans b1;replace b2:=(kN 2 oM oM).trans b2;replace b5:=(kN 5 oM oM).trans b5;replace ov:=ov.of (bx':=bx0) fun q hq=>kN q (by simp at hq;omega) (by simp at hq;omega);obtain⟨v1,v2,v3⟩:=ol.facts;obtain⟨w1,w2,w3⟩:=ov.facts;rw[List.take_of_length_le sI]at hw;simp(disch:=omega) only[go_sem,q1,q2,q5,q8,ar,b1,b2,b5,v2,w2,dj,mh];obtain⟨rE,VX,VY,-⟩:=BH (ov.of (bx':=aj bx0 2 ⟨1,1,6,81,[.agg [.str g.name,.sl 1 (g.au.map D.str),.str g.start,.int .i64 (iA g.au g.start),x',y]]⟩) fun q hq=>by simp at hq;subst hq;exact aD oM) (BM _) (.refl _);obtain⟨rR,EZ,E0,-⟩:=BH (ol.of (bx':=aj bx0 2 ⟨1,1,6,81,[.agg [.str g.name,.sl 1 (g.au.map D.str),.str g.start,.int .i64 (iA g.au g.start),x',y]]⟩) fun q hq=>by simp at hq;subst hq;exact aD oM) Od hw;refine⟨.aI [.agg [.str g.name,.sl 1 (g.au.map D.str),.str g.start,.int .i64 (iA g.au g.start),rE,rR],.int .i64 0],?_,lk (zW (.refl _) (.refl _) (.refl _) (.refl _) VY E0) (.refl _)⟩;simp only[Ib,uf,dS,pt,VX,EZ];simp[go_sem]
end Go.V.Ty
namespace Go.V.Ty
open Go.Proofs Go.RowKit Go.V.Lx Go.V.Gr
inductive Way(rs:List aH):ah->ah->Prop where
 |one {a b:ah} (h:Edge rs a b):Way rs a b
 |more {a b c:ah} (h:Way rs a b) (h2:Edge rs b c):Way rs a c
theorem Way.trans{rs:List aH}{a b c:ah}(h:Way rs a b)(h2:Way rs b c):Way rs a c:=by
 induction h2 with
 |one h2=>exact .more h h2
 |more _ h3 ih=>exact .more ih h3
theorem Way.first{rs:List aH}{a c:ah}(h:Way rs a c):∃b,Edge rs a b/\(b=c\/Way rs b c):=by
 induction h with
 |one h=>exact⟨_,h,.inl rfl⟩
 |more _ h2 ih=>
  obtain⟨b,h3,rfl|h4⟩:=ih
  ·exact⟨_,h3,.inr (.one h2)⟩
  ·exact⟨_,h3,.inr (.more h4 h2)⟩
def targets(rs:List aH):List ah:=rs.filterMap fun x=>(jv x).map (·.2)
structure Bh(rs:List aH)(s:ah)(out todo:List ah):Prop where
 nodup:out.Nodup
 sub:∀t∈out,t∈targets rs
 Yw:∀t∈out,Way rs s t
 br:∀c∈todo,c=s\/c∈out
 PJ:∀c,(c=s\/c∈out)->c∉todo->∀d,Edge rs c d->d∈out
theorem FD(c:ah):∀(l:List aH) (p:List ah×List ah),∃m:List ah,l.foldl (push c) p=(p.1++m,p.2++m)/\(p.1.Nodup->(p.1++m).Nodup)/\(∀t∈m,∃x∈l,jv x=some (c,t))/\∀x∈l,∀t,jv x=some (c,t)->t∈p.1++m
 |[],p=>⟨[],by simp,by simp,by simp,by simp⟩
 |x::l,p=>by
  obtain⟨m0,h0,n0,e0,f0⟩:∃m0:List ah,push c p x=(p.1++m0,p.2++m0)/\(p.1.Nodup->(p.1++m0).Nodup)/\(∀t∈m0,jv x=some (c,t))/\∀t,jv x=some (c,t)->t∈p.1++m0:=by
   unfold push;cases he:jv x with
   |none=>exact⟨[],by simp,by simp,by simp,by simp⟩
   |some q=>
    obtain⟨a,d⟩:=q;dsimp only;by_cases hc:a=c/\¬d∈p.1
    ·rw[if_pos hc];refine⟨[d],rfl,fun hn=>?_,by simp[hc.1],fun t ht=>?_⟩
     ·rw[List.nodup_append];exact⟨hn,by simp,fun u hu v hv e=>by simp at hv;subst hv;subst e;exact hc.2 hu⟩
     ·simp at ht;simp[ht.2]
    ·rw[if_neg hc];refine⟨[],by simp,by simp,by simp,fun t ht=>?_⟩;simp only[sJ,Prod.mk.injEq]at ht;have:d∈p.1:=Classical.byContradiction fun hn=>hc ⟨ht.1,hn⟩;rw[<-ht.2];simp[this]
  obtain⟨m,h1,n1,e1,f1⟩:=FD c l (push c p x);rw[List.foldl_cons,h1,h0];rw[h0]at n1 f1;refine⟨m0++m,by simp,fun hn=>by rw[<-List.append_assoc];exact n1 (n0 hn),fun t ht=>?_,fun y hy t SJ=>?_⟩
  ·rcases List.mem_append.1 ht with ht|ht
   ·exact⟨x,by simp,e0 t ht⟩
   ·obtain⟨y,hy,SJ⟩:=e1 t ht;exact⟨y,by simp[hy],SJ⟩
  ·rw[<-List.append_assoc];rcases List.mem_cons.1 hy with rfl|hy
   ·exact List.mem_append_left _ (f0 t SJ)
   ·exact f1 y hy t SJ
theorem uc{α:Type}[DecidableEq α]:∀ {l m:List α},l.Nodup->(∀x∈l,x∈m)->l.length<=m.length
 |[],m,_,_=>by simp
 |x::l,m,hn,h=>by
  simp only[List.nodup_cons]at hn;have hx:=h x sI;have h2:∀y∈l,y∈m.erase x:=fun y hy=>by
   have bw:y≠x:=by rintro rfl;exact hn.1 hy
   exact(List.mem_erase_of_ne bw).2 (h y (by simp[hy]))
  have:=uc hn.2 h2;rw[List.length_erase_of_mem hx]at this;have:=List.length_pos_of_mem hx;simp only[List.length_cons];omega
theorem Bh.step{rs:List aH}{s c:ah}{out todo:List ah}(h:Bh rs s out (c::todo)):∃m,rs.foldl (push c) (out,todo)=(out++m,todo++m)/\Bh rs s (out++m) (todo++m):=by
 obtain⟨m,h1,h2,h3,h4⟩:=FD c rs (out,todo);dsimp only at h1 h2 h4;have hc:c=s\/c∈out:=h.br c sI;have hm:∀t∈m,Edge rs c t:=fun t ht=>h3 t ht;refine⟨m,h1,h2 h.nodup,fun t ht=>?_,fun t ht=>?_,fun d hd=>?_,fun d hd hnt t het=>?_⟩
 ·rcases List.mem_append.1 ht with ht|ht
  ·exact h.sub t ht
  ·obtain⟨x,hx,W7⟩:=h3 t ht;exact List.mem_filterMap.2 ⟨x,hx,by rw[W7];rfl⟩
 ·rcases List.mem_append.1 ht with ht|ht
  ·exact h.Yw t ht
  ·rcases hc with rfl|hc
   ·exact .one (hm t ht)
   ·exact .more (h.Yw c hc) (hm t ht)
 ·rcases List.mem_append.1 hd with hd|hd
  ·rcases h.br d (by simp[hd])with h|h
   ·exact .inl h
   ·exact .inr (List.mem_append_left _ h)
  ·exact .inr (List.mem_append_right _ hd)
 ·by_cases J5:d=c
  ·subst J5;obtain⟨x,hx,W7⟩:=het;exact h4 x hx t W7
  ·have hdo:d=s\/d∈out:=by
    rcases hd with hd|hd
    ·exact .inl hd
    ·rcases List.mem_append.1 hd with hd|hd
     ·exact .inr hd
     ·exact(hnt (List.mem_append_right _ hd)).elim
   exact List.mem_append_left _ (h.PJ d hdo (by simp[J5];exact fun hh=>hnt (List.mem_append_left _ hh)) t het)
def rq(rs:List aH):(targets rs).length<=rs.length:=List.length_filterMap_le _ _
theorem IE{rs:List aH}{s:ah}:∀(k:Nat) (out todo:List ah),Bh rs s out todo->todo.length+rs.length<=k+out.length->Bh rs s (run rs k (out,todo)) []
 |k,out,[],h,_=>by
  have:run rs k (out,[])=out:=by unfold run;rfl
  rw[this];exact h
 |0,out,c::todo,h,hk=>by
  have:=uc h.nodup h.sub;have:=rq rs;simp at hk;omega
 |k+1,out,c::todo,h,hk=>by
  obtain⟨m,h1,h2⟩:=h.step;rw[run,h1];refine IE k _ _ h2 ?_;simp at hk⊢;omega
def xw(rs:List aH)(s:ah):Bh rs s (lR rs s) []:=IE _ _ _ ⟨.nil,by simp,by simp,by simp,fun c hc hn d he=>by
 rcases hc with rfl|hc
 ·simp at hn
 ·simp at hc⟩ (by simp;omega)
def OS(rs:List aH)(s:ah):(lR rs s).length<=rs.length:=Nat.le_trans (uc (xw rs s).nodup (xw rs s).sub) (rq rs)
def FG(rs:List aH)(s t:ah):t∈lR rs s<->Way rs s t:=by
 have h:=xw rs s;constructor
 ·exact h.Yw t
 ·intro hw;induction hw with
  |one he=>exact h.PJ _ (.inl rfl) sI _ he
  |more _ he ih=>exact h.PJ _ (.inr ih) sI _ he
theorem GZ{rs:List aH}:∀(n:Nat) (F:List ah),F.length<=n->F≠[]->(∀c∈F,∃d∈F,Edge rs c d)->∃c∈F,Way rs c c
 |0,F,hl,bw,_=>(bw (List.eq_nil_of_length_eq_zero oM)).elim
 |n+1,F,hl,bw,h=>by
  obtain⟨c,hc⟩:=List.exists_mem_of_ne_nil F bw;by_cases hw:Way rs c c
  ·exact⟨c,hc,hw⟩
  ·have hd:DecidablePred fun d=>Way rs c d:=fun _=>Classical.propDecidable _;obtain⟨d,p9,qD⟩:=h c hc;have ar:(F.filter fun d=>decide (Way rs c d)).length<F.length:=by
    have:=List.length_filter_le (fun d=>decide (Way rs c d)) F;by_cases he:(F.filter fun d=>decide (Way rs c d)).length=F.length
    ·have:=List.length_filter_eq_length_iff.1 he c hc;simp at this;exact(hw this).elim
    ·omega
   obtain⟨e,he,hee⟩:=GZ (rs:=rs) n (F.filter fun d=>decide (Way rs c d)) oM
    (List.ne_nil_of_mem (a:=d) (List.mem_filter.2 ⟨p9,decide_eq_true (.one qD)⟩))
    (fun x hx=>by
     obtain⟨y5,eO⟩:=List.mem_filter.1 hx;obtain⟨y,hy,mu⟩:=h x y5;exact⟨y,List.mem_filter.2 ⟨hy,decide_eq_true (.more (of_decide_eq_true eO) mu)⟩,mu⟩)
   exact⟨e,(List.mem_filter.1 he).1,hee⟩
def PB{g:aW}(T:Typed g):Ad g=pS g:=by
 rw[Bool.eq_iff_iff,PC,Ad,List.any_eq_true];have kM:∀a b,Edge g.rules a b->a∈g.au/\b∈g.au:=by
  rintro a b ⟨x,hx,he⟩;unfold jv at he;split at he
  ·rename_i q hq;split at he
   ·rename_i ht;simp only[sJ,Prod.mk.injEq]at he;rw[<-he.1,<-he.2];exact⟨List.contains_iff_mem.1 (T.Yb x hx),List.contains_iff_mem.1 (T.part x hx q (by rw[hq];simp) ht)⟩
   ·cases he
  ·cases he
 constructor
 ·rintro⟨c,hc,h⟩;have hw:Way g.rules c c:=(FG _ _ _).1 (List.contains_iff_mem.1 h);have hd:DecidablePred fun d=>Way g.rules c d/\Way g.rules d c:=fun _=>Classical.propDecidable _;refine⟨g.au.filter fun d=>decide (Way g.rules c d/\Way g.rules d c),List.ne_nil_of_mem (a:=c) (List.mem_filter.2 ⟨hc,decide_eq_true ⟨hw,hw⟩⟩),fun d hd=>uG.2 ?_,fun x hx=>(List.mem_filter.1 hx).1⟩;obtain⟨p9,qD⟩:=List.mem_filter.1 hd;have J4:=of_decide_eq_true qD;obtain⟨e,he,Wv⟩:=J4.2.first;refine⟨e,List.mem_filter.2 ⟨(kM _ _ he).2,decide_eq_true ⟨.more J4.1 he,?_⟩⟩,he⟩;rcases Wv with rfl|Wv
  ·exact hw
  ·exact Wv
 ·rintro⟨F,h1,h2,h3⟩;obtain⟨c,hc,hw⟩:=GZ _ F (Nat.le_refl _) h1 (fun c hc=>uG.1 (h2 c hc));exact⟨c,h3 c hc,List.contains_iff_mem.2 ((FG _ _ _).2 hw)⟩
def Qg:dO []=false:=by simp[dO,iI]
def Rn{g:aW}(T:Typed g)(hf:g.au.all dO=true)(hp:∀x∈g.rules,x.parts.all (mW g.au.contains)=true):Gc g=fp g:=by
 have hi:∀s,g.au.contains s=true->iA g.au s=num g.au s:=fun s h=>by simp only[iA,num,h,if_true]
 have h1:g.entries.map (Dv g.au)=g.entries.map (qp g.au):=List.map_congr_left fun x hx=>by simp only[Dv,qp,hi _ (T.ent x hx)]
 have WI:¬g.au.contains []=true:=fun h=>by
  have:=List.all_eq_true.1 hf [] (List.contains_iff_mem.1 h);rw[Qg]at this;cases this
 have h2:g.rules.map (s_ g.au)=g.rules.map (ku g.au):=List.map_congr_left fun x hx=>by
  have CW:x.parts.map (Dw g.au)=x.parts.map (uo g.au):=List.map_congr_left fun q hq=>by
   have SA:=List.all_eq_true.1 (hp x hx) q hq;by_cases ht:q.text=[]
   ·have hc:=T.part x hx q hq ht;obtain⟨k,hk,_⟩:=XI hc;simp only[Dw,uo,ht,if_true,hi _ hc]
    congr 1;omega
   ·simp[mW,ht]at SA;simp only[Dw,uo,ht,if_false,SA.1,iA,WI];rfl
  simp only[s_,ku,hi _ (T.Yb x hx),CW]
 simp only[Gc,fp,h1,h2,hi _ T.start]
def Ju(g:aW):jV g=dq g:=by
 unfold jV dq;split
 ·rfl
 ·rw[O8];by_cases hn:g.au.Nodup
  ·cases ht:gG g.au.contains g
   ·simp[hn]
   ·have T:=RA ht;have h1:g.au.all dO=true:=by simp only[gG,bA]at ht;exact ht.2.2.1
    have h2:∀x∈g.rules,x.parts.all (mW g.au.contains)=true:=fun x hx=>by
     simp only[gG,bA,List.all_eq_true]at ht;have:=ht.2.2.2.2.2 x hx;simp only[ja,bA]at this;exact this.2.2.2.2.1
    simp[hn,PB T,Rn T h1 h2]
  ·simp[hn]
end Go.V.Ty
