/- Lemmas on plain data and programs: part B14. -/
import Derived.Test.YtkgloohlmogakaaGreatDoorB13
set_option linter.all false
set_option maxHeartbeats 8000000
set_option maxRecDepth 100000
namespace Go.V.Ty
open Go.Proofs Go.Proofs.Tryz Go.RowKit Go.V.Lx Go.V.Gr
def Qt(c:UInt8):qh prog (cJ prog) [] f295 [.int .u8 (c.toNat:Int)] (.bool (isLt c.toNat)):=by
 refine ax _ [.tmp 2] _ rfl rfl rfl aj ?_;repeat' (first|with_reducible apply zJ<;>intro _|simp(disch:=omega) only[go_sem, *])
 all_goals
  refine ab (congrArg D.bool ?_);rw[Bool.eq_iff_iff];simp[isLt, *]<;>omega
def Bi(c:UInt8):ao prog 295 [.int .u8 (c.toNat:Int)] (.bool (isLt c.toNat)):=aw mixed (Qt c) rfl aj rfl
def PH(c:UInt8):qh prog (cJ prog) [] f326 [.int .u8 (c.toNat:Int)] (.bool (yQ c.toNat)):=by
 refine ax _ [.tmp 2] _ rfl rfl rfl aj ?_;repeat' (first|with_reducible apply zJ<;>intro _|simp(disch:=omega) only[go_sem, *])
 all_goals
  refine ab (congrArg D.bool ?_);rw[Bool.eq_iff_iff];simp[yQ, *]<;>omega
def Gz(c:UInt8):ao prog 326 [.int .u8 (c.toNat:Int)] (.bool (yQ c.toNat)):=aw mixed (PH c) rfl aj rfl
def Xk(c:UInt8):qh prog (cJ prog) [] f296 [.int .u8 (c.toNat:Int)] (.bool (ia c)):=by
 refine ax _ [.tmp 2] _ rfl rfl rfl aj ?_;repeat' (first|with_reducible apply zJ<;>intro _|with_reducible refine cb (Bi c) sG ?_|with_reducible refine cd (Bi c) sG ?_|with_reducible refine cb (Gz c) sG ?_|with_reducible refine cd (Gz c) sG ?_|simp(disch:=omega) only[go_sem, *])
 all_goals
  refine ab (congrArg D.bool ?_);rw[Bool.eq_iff_iff];simp[ia, *]<;>omega
def Xj(c:UInt8):ao prog 296 [.int .u8 (c.toNat:Int)] (.bool (ia c)):=aw mixed (Xk c) rfl aj rfl
theorem TF(s:List UInt8)(hs:s.length<=140737488355328):qh prog (cJ prog) [] f247 [.str s] (.bool (iG s)):=by
 refine ax _ [.tmp 2] _ rfl rfl rfl aj ?_
 match s,hs with
 |[],hs=>
  repeat' (first|with_reducible apply zJ<;>intro _|simp(disch:=omega) only[go_sem, *])
  all_goals exact ab (by simp_all[iG])
 |c::r,hs=>
  have hx:(c::r)[0]? =some c:=rfl;have hl:(c::r).length=r.length+1:=rfl;by_cases h32:32<(((c::r).length:Nat):Int)
  ·have hb:iG (c::r)=false:=by
    have:¬(c::r).length<=32:=oM;simp only[iG,this,decide_false,Bool.false_and]
   have h1:¬(((c::r).length:Nat):Int)<1:=oM;generalize hz:c::r=z at *;rw[hb];have lf:decide (((z.length:Nat):Int)<1)=false:=by simp;omega
   have GQ:decide (32<((z.length:Nat):Int))=true:=by simp;omega
   simp(disch:=omega) only[go_sem,lf,GQ];exact ab rfl
  ·have h1:¬(((c::r).length:Nat):Int)<1:=oM;have ar:=Bi c;by_cases hc:isLt c.toNat=true
   ·rw[hc]at ar;have yH:iG (c::r)=(c::r).all ia:=by
     have:(c::r).length<=32:=oM;simp only[iG,this,decide_true,hc,Bool.true_and]
    rw[yH];clear yH;generalize hz:c::r=z at *;have lf:decide (((z.length:Nat):Int)<1)=false:=by simp;omega
    have GQ:decide (32<((z.length:Nat):Int))=false:=by simp;omega
    simp(disch:=omega) only[go_sem,lf,GQ,hx];refine av ar sG ?_;simp(disch:=omega) only[go_sem];refine bo z.length (fun k σ _=>σ 0= .str z/\σ 3= .int .i64 k/\(z.take k).all ia=true)
     ⟨by simp[go_sem,bB],by simp[go_sem],by simp⟩ ?_ ?_
    ·rintro k σ bx hk ⟨h0,h3,hb⟩;obtain⟨x,hx⟩:=ba hk;simp(disch:=omega) only[go_sem,h0,h3];refine yb oM ?_;simp(disch:=omega) only[go_sem,h0,h3,hx];refine av (Xj x) sG ?_;simp(disch:=omega) only[go_sem];refine aY (fun hp=>?_) (fun hp=>?_)
     ·simp(disch:=omega) only[go_sem,h0,h3];rw[aD oM];exact⟨rfl,lZ ia hx hb hp⟩
     ·simp(disch:=omega) only[go_sem];exact ab (by rw[pE ia hx hp])
    ·rintro σ bx ⟨h0,h3,hb⟩;simp(disch:=omega) only[go_sem,h0,h3];refine Gq oM ?_;simp(disch:=omega) only[go_sem];rw[tL]at hb;exact ab (by rw[hb])
   ·have hc:isLt c.toNat=false:=by simpa using hc
    rw[hc]at ar;have hb:iG (c::r)=false:=by simp only[iG,hc,Bool.and_false,Bool.false_and]
    rw[hb];clear hb;generalize hz:c::r=z at *;have lf:decide (((z.length:Nat):Int)<1)=false:=by simp;omega
    have GQ:decide (32<((z.length:Nat):Int))=false:=by simp;omega
    simp(disch:=omega) only[go_sem,lf,GQ,hx];refine av ar sG ?_;simp(disch:=omega) only[go_sem];exact ab rfl
def Kc(s:List UInt8)(hs:s.length<=140737488355328):ao prog 247 [.str s] (.bool (iG s)):=aw mixed (TF s hs) rfl aj rfl
def X6(s:ah):ao prog 327 [.str s] (.bool (vR.contains s)):=by
 refine aw mixed (fn:=f327) (tab:=[]) ?_ rfl aj rfl;refine ax _ [.tmp 2] _ rfl rfl rfl aj ?_;repeat' (first|with_reducible apply zJ<;>intro _|simp(disch:=omega) only[go_sem, *])
 all_goals
  refine ab (congrArg D.bool ?_);rw[Bool.eq_iff_iff,List.contains_iff_mem];simp[vR,IG,Fz,OR,SL,wIs,OQ,SJ,SK, *]
def sU(s:ah)(hs:s.length<=140737488355328):ao prog 297 [.str s] (.bool (dI s)):=by
 refine aw mixed (fn:=f297) (tab:=[]) ?_ rfl aj rfl;refine ax _ [.tmp 2] _ rfl rfl rfl aj ?_;simp(disch:=omega) only[go_sem];refine av (Kc s hs) sG ?_;cases h:iG s
 ·simp(disch:=omega) only[go_sem];exact ab (by simp[dI,h])
 ·simp(disch:=omega) only[go_sem];refine av (X6 s) sG ?_;simp(disch:=omega) only[go_sem];exact ab (by simp[dI,h])
def im(l:List ah)(t:ah):Int:=if l.contains t then(l.idxOf t:Int)else -1
def nj(l:List ah)(t:ah)(hl:l.length<=140737488355328):ao prog 255 [strs l,.str t] (.int .i64 (im l t)):=by
 refine aw mixed (fn:=f255) (tab:=[]) ?_ rfl aj rfl;refine ax _ [.tmp 4] _ rfl rfl rfl aj ?_;simp(disch:=omega) only[go_sem,strs];refine bo l.length (fun k σ bx=>σ 0=strs l/\σ 1= .str t/\σ 5= .int .i64 k/\¬t∈l.take k) ?_ ?_ ?_
 ·simp[go_sem,bB,strs]
 ·rintro k σ bx hk ⟨h0,h1,h5,hn⟩;obtain⟨x,hx⟩:=ba hk;have ar:(k:Int)<(l.length:Int):=oM;have ji:IntKind.i64.wrap ((k:Int)+1)=((k+1:Nat):Int):=aD oM;simp(disch:=omega) only[go_sem,h0,h1,h5,ar,strs,hx];refine bg (fun h2=>?_) (fun h2=>?_)
  ·simp(disch:=omega) only[go_sem,h5];subst h2;obtain⟨g1,g2⟩:=yO l k _ hx hn;exact ab (by rw[im,if_pos (by simpa using g2),g1])
  ·simp(disch:=omega) only[go_sem,h0,h1,h5,ji,strs];intro hm;rw[List.take_add_one,hx]at hm;simp at hm;rcases hm with hm|hm
   ·exact hn hm
   ·exact h2 hm.symm
 ·rintro σ bx ⟨h0,h1,h5,hn⟩;have ar:¬(l.length:Int)<(l.length:Int):=oM;simp(disch:=omega) only[go_sem,h0,h5,ar,strs];rw[tL]at hn;exact ab (by rw[im,if_neg (by simpa using hn)])
def J0(l:List ah)(t:ah):decide (0<=im l t)=l.contains t:=by
 unfold im;split
 ·rename_i h;rw[h];simp
 ·rename_i h;simp at h;simp[h]
def Cb(g:aS)(s:ah)(hg:g.au.length<=140737488355328):ao prog 298 [g.d,.str s] (.bool (g.au.contains s)):=by
 refine aw mixed (fn:=f298) (tab:=[]) ?_ rfl aj rfl;refine ax _ [.tmp 4] _ rfl rfl rfl aj ?_;simp(disch:=omega) only[go_sem,aS.d,strs];refine av (nj g.au s hg) sG ?_;simp(disch:=omega) only[go_sem];exact ab (by rw[J0])
def Js(n:Int):ao prog 328 [.int .i64 n] (.bool (fx 0 1000 n)):=by
 refine aw mixed (fn:=f328) (tab:=[]) ?_ rfl aj rfl;refine ax _ [.tmp 2] _ rfl rfl rfl aj ?_;repeat' (first|with_reducible apply zJ<;>intro _|simp(disch:=omega) only[go_sem, *])
 all_goals
  refine ab (congrArg D.bool ?_);rw[Bool.eq_iff_iff];simp[fx, *]<;>omega
def O7(x:aE)(hx:x.parts.length<=140737488355328):ao prog 301 [x.d] (.bool (jo x).isSome):=by
 refine aw mixed (fn:=f301) (tab:=[]) ?_ rfl aj rfl;refine ax _ [.tmp 2] _ rfl rfl rfl aj ?_;simp(disch:=omega) only[go_sem,aE.d];by_cases h1:(x.parts.length:Int)=1
 ·obtain⟨q,hq⟩:=List.length_eq_one_iff.1 (show x.parts.length=1 by omega);have Wg:x.parts[0]? =some q:=by rw[hq];rfl
  have NN:q.d= .agg [.str q.cat,.int .i64 q.no,.str q.text]:=rfl;simp(disch:=omega) only[go_sem,h1,decide_true,Wg,NN];exact ab (by simp only[jo,hq];by_cases ht:q.text=[]<;>simp[ht])
 ·simp(disch:=omega) only[go_sem,h1,decide_false];refine ab (congrArg D.bool ?_);unfold jo;split
  ·rename_i q hq;rw[hq]at h1;exact(h1 rfl).elim
  ·rfl
def nW(g:aS)(x:Part):Bool:=if x.text=[]then g.au.contains x.cat else decide (x.cat=[])&&dI x.text
def QC(g:aS)(x:Part):nW g x=mR g.au.contains x:=by
 unfold nW mR;by_cases h:x.text=[]<;>simp[h]
def TL(g:aS)(x:Part)(hg:g.au.length<=140737488355328)(hx:Mr x):ao prog 329 [g.d,x.d] (.bool (nW g x)):=by
 refine aw mixed (fn:=f329) (tab:=[]) ?_ rfl aj rfl;refine ax _ [.tmp 4] _ rfl rfl rfl aj ?_;simp(disch:=omega) only[go_sem,aS.d,strs,Part.d];refine bg (fun h=>?_) (fun h=>?_)
 ·simp(disch:=omega) only[go_sem,h];refine av (Cb g x.cat hg) (show D.aF [g.d,.str x.cat]=true by simp[D.aF,D.pure,kM]) ?_;simp(disch:=omega) only[go_sem];exact ab (by simp[nW,h])
 ·simp(disch:=omega) only[go_sem,h];refine bg (fun h2=>?_) (fun h2=>?_)
  ·simp(disch:=omega) only[go_sem,h,h2,decide_true];refine av (sU x.text hx.text) sG ?_;simp(disch:=omega) only[go_sem,h2,decide_true];exact ab (by simp[nW,h,h2])
  ·simp(disch:=omega) only[go_sem,h2,decide_false];exact ab (by simp[nW,h,h2])
def lr(x:aE)(y:dK):Bool:=if y.text=[]then decide (0<=y.part/\y.part<x.parts.length)&&(x.parts[y.part.toNat]?).any (fun q=>decide (q.text=[]))else decide (y.part=0)&&dI y.text
def Tb(x:aE)(y:dK)(hy:small y.text)(hx:x.parts.length<=140737488355328):ao prog 330 [x.d,y.d] (.bool (lr x y)):=by
 refine aw mixed (fn:=f330) (tab:=[]) ?_ rfl aj rfl;refine ax _ [.tmp 4] _ rfl rfl rfl aj ?_;simp(disch:=omega) only[go_sem,aE.d,dK.d];refine bg (fun h=>?_) (fun h=>?_)
 ·simp(disch:=omega) only[go_sem];refine bg (fun h1=>?_) (fun h1=>?_)
  rotate_left
  ·simp(disch:=omega) only[go_sem,h1,decide_false];exact ab (by simp[lr,h,h1])
  simp(disch:=omega) only[go_sem,h1,decide_true];refine bg (fun h2=>?_) (fun h2=>?_)
  rotate_left
  ·simp(disch:=omega) only[go_sem,h1,h2,decide_true,decide_false];exact ab (by simp[lr,h,h2])
  obtain⟨k,hk⟩:∃k:Nat,y.part=k:=⟨y.part.toNat,by omega⟩
  obtain⟨q,hq⟩:=ba (show k<x.parts.length by omega);have NN:q.d= .agg [.str q.cat,.int .i64 q.no,.str q.text]:=rfl;rw[hk]at h1 h2;simp(disch:=omega) only[go_sem,hk,h1,h2,decide_true,hq,NN];exact ab (by simp[lr,h,hk,h2,hq])
 ·simp(disch:=omega) only[go_sem];refine bg (fun h1=>?_) (fun h1=>?_)
  ·simp(disch:=omega) only[go_sem,h1,decide_true];refine av (sU y.text hy) sG ?_;simp(disch:=omega) only[go_sem,h1,decide_true];exact ab (by simp[lr,h,h1])
  ·simp(disch:=omega) only[go_sem,h1,decide_false];exact ab (by simp[lr,h,h1])
def PS(x:aE)(k:Nat)(hx:x.aM.length<=140737488355328):ao prog 331 [x.d,.int .i64 k] (.int .i64 (bT x.aM k)):=by
 refine aw mixed (fn:=f331) (tab:=[]) ?_ rfl aj rfl;refine ax _ [.tmp 4] _ rfl rfl rfl aj ?_;have fY:x.d= .agg [.str x.cat,.int .i64 x.no,.sl 3 (x.parts.map Part.d),.sl 2 (x.aM.map dK.d),.int .i64 x.cost]:=rfl;simp(disch:=omega) only[go_sem,fY];refine bo x.aM.length (fun i σ bx=>σ 1= .int .i64 k/\σ 2= .loc 2 1 0 0/\σ 6= .int .i64 i/\σ 5= .int .i64 (bT (x.aM.take i) k)/\bx 2=⟨1,1,5,142,[x.d]⟩) ?_ ?_ ?_
 ·simp(disch:=omega) only[go_sem,fY,List.take_zero];rfl
 ·rintro i σ bx hi ⟨q1,q2,q6,q5,b2⟩;obtain⟨y,hy⟩:=ba hi;have ar:(i:Int)<(x.aM.length:Int):=oM;have jE:IntKind.i64.wrap ((i:Int)+1)=((i+1:Nat):Int):=aD oM;have fP:x.aM.take (i+1)=x.aM.take i++[y]:=by rw[List.take_add_one,hy];rfl
  have oH:y.d= .agg [.int .i64 y.part,.str y.text]:=rfl;have hle:=MT (x.aM.take i) k;have aeg:(x.aM.take i).length<=x.aM.length:=List.length_take_le' ..;have yv:IntKind.i64.wrap ((bT (x.aM.take i) k:Int)+1)=((bT (x.aM.take i) k+1:Nat):Int):=aD oM;by_cases ht:y.text=[]
  ·by_cases hp:y.part=(k:Int)
   ·have:bT (x.aM.take (i+1)) k=bT (x.aM.take i) k+1:=by rw[fP,tc,if_pos ⟨ht,hp⟩]
    simp(disch:=omega) only[go_sem,q1,q2,q5,q6,ar,jE,hy,oH,b2,fY,ht,hp,decide_true,yv,this]
   ·have:bT (x.aM.take (i+1)) k=bT (x.aM.take i) k:=by rw[fP,tc,if_neg (by simp[hp])];rfl
    simp(disch:=omega) only[go_sem,q1,q2,q5,q6,ar,jE,hy,oH,b2,fY,ht,hp,decide_true,decide_false,this]
  ·have:bT (x.aM.take (i+1)) k=bT (x.aM.take i) k:=by rw[fP,tc,if_neg (by simp[ht])];rfl
   simp(disch:=omega) only[go_sem,q1,q2,q5,q6,ar,jE,hy,oH,b2,fY,ht,decide_true,decide_false,this]
 ·rintro σ bx ⟨q1,q2,q6,q5,b2⟩;have ar:¬(x.aM.length:Int)<(x.aM.length:Int):=oM;simp(disch:=omega) only[go_sem,q2,q5,q6,ar,b2,fY];rw[tL];exact .refl _
def Su(g:aS)(s:ah):D.aF [g.d,.str s]=true:=by simp[D.aF,D.pure,kM]
def Py(g:aS)(x:Entry)(hg:g.au.length<=140737488355328)(hx:Mq x):ao prog 299 [g.d,x.d] (.bool (fD g.au.contains x)):=by
 refine aw mixed (fn:=f299) (tab:=[]) ?_ rfl aj rfl;refine ax _ [.tmp 4] _ rfl rfl rfl aj ?_;have fY:x.d= .agg [.str x.text,.str x.cat,.int .i64 x.no,.sl 1 (x.aM.map D.str),.int .i64 x.cost]:=rfl;have cX:g.d= .agg [.str g.name,.sl 1 (g.au.map D.str),.str g.start,.int .i64 g.no,.sl 5 (g.entries.map Entry.d),.sl 5 (g.rules.map aE.d)]:=rfl;have Ay:=hx.len;simp(disch:=omega) only[go_sem,fY,cX];refine av (sU x.text hx.text) sG ?_;cases h1:dI x.text
 ·simp(disch:=omega) only[go_sem,nF];exact ab (by simp[fD,h1])
 simp(disch:=omega) only[go_sem,nT,cX];refine av (Cb g x.cat hg) (Su g x.cat) ?_;cases h2:g.au.contains x.cat
 ·simp(disch:=omega) only[go_sem,nF];exact ab (by simp only[fD,h1,h2,Bool.false_and,Bool.and_false])
 simp(disch:=omega) only[go_sem,nT];by_cases h3:(x.aM.length:Int)<1
 ·simp(disch:=omega) only[go_sem,h3,decide_true];exact ab (by
   have:fx 1 4 x.aM.length=false:=by simp[fx];omega
   simp only[fD,this,Bool.false_and,Bool.and_false])
 by_cases h4:(4:Int)<(x.aM.length:Int)
 ·simp(disch:=omega) only[go_sem,h3,h4,decide_true,decide_false];exact ab (by
   have:fx 1 4 x.aM.length=false:=by simp[fx];omega
   simp only[fD,this,Bool.false_and,Bool.and_false])
 have h34:fx 1 4 x.aM.length=true:=by simp[fx];omega
 simp(disch:=omega) only[go_sem,h3,h4,decide_false];refine av (Js x.cost) sG ?_;cases h5:fx 0 1000 x.cost
 ·simp(disch:=omega) only[go_sem,h3,decide_false,nF];exact ab (by simp only[fD,h5,Bool.and_false])
 have he:fD g.au.contains x=x.aM.all dI:=by simp only[fD,h1,h2,h34,h5,Bool.true_and,Bool.and_true]
 rw[he];simp(disch:=omega) only[go_sem,h3,decide_false,nT];refine bo x.aM.length (fun i σ bx=>σ 3= .loc 3 1 0 0/\σ 5= .int .i64 i/\bx 3=⟨1,1,5,138,[x.d]⟩/\(x.aM.take i).all dI=true) ?_ ?_ ?_
 ·simp(disch:=omega) only[go_sem,fY,List.take_zero,List.all_nil]
 ·rintro i σ bx hi ⟨q3,q5,b3,hb⟩;obtain⟨y,hy⟩:=ba hi;have ar:(i:Int)<(x.aM.length:Int):=oM;have jE:IntKind.i64.wrap ((i:Int)+1)=((i+1:Nat):Int):=aD oM;simp(disch:=omega) only[go_sem,q3,q5,ar,b3,fY,hy];refine av (sU y (hx.aM y (mG hy))) sG ?_;cases hf:dI y
  ·simp(disch:=omega) only[go_sem,nF];exact ab (by rw[pE dI hy hf])
  ·simp(disch:=omega) only[go_sem,nT,q3,q5,jE,b3];exact lZ dI hy hb hf
 ·rintro σ bx ⟨q3,q5,b3,hb⟩;have ar:¬(x.aM.length:Int)<(x.aM.length:Int):=oM;rw[tL]at hb;simp(disch:=omega) only[go_sem,q3,q5,ar,b3,fY];exact ab (by rw[hb])
def cR(x:aE)(i:Nat):Bool:=(x.parts[i]?).all fun q=> !decide (q.text=[])||decide (bT x.aM i=1)
def j6(g:aS)(x:aE):Bool:=g.au.contains x.cat&&(fx 1 4 x.parts.length&&(fx 1 8 x.aM.length&&(fx 0 1000 x.cost&&(x.parts.all (nW g)&&(x.aM.all (lr x)&&(List.range x.parts.length).all (cR x))))))
def pp{a b:D}(ha:a.pure=true)(hb:b.pure=true):D.aF [a,b]=true:=by simp[D.aF,ha,hb]
def HV(x:aE):x.d.pure=true:=by simp[aE.d,D.pure,D.aF]
def Xp(x:Entry):x.d.pure=true:=by simp[Entry.d,D.pure,D.aF,strs]
def TR(g:aS)(x:aE)(hg:g.au.length<=140737488355328)(hx:Jk x):ao prog 300 [g.d,x.d] (.bool (j6 g x)):=by
 refine aw mixed (fn:=f300) (tab:=[]) ?_ rfl aj rfl;refine ax _ [.tmp 4] _ rfl rfl rfl aj ?_;have fY:x.d= .agg [.str x.cat,.int .i64 x.no,.sl 3 (x.parts.map Part.d),.sl 2 (x.aM.map dK.d),.int .i64 x.cost]:=rfl;have cX:g.d= .agg [.str g.name,.sl 1 (g.au.map D.str),.str g.start,.int .i64 g.no,.sl 5 (g.entries.map Entry.d),.sl 5 (g.rules.map aE.d)]:=rfl;have oD:=hx.wV;have Ay:=hx.KY;simp(disch:=omega) only[go_sem,fY,cX];refine av (Cb g x.cat hg) (Su g x.cat) ?_;cases h1:g.au.contains x.cat
 ·simp(disch:=omega) only[go_sem,nF];exact ab (by simp only[j6,h1,Bool.false_and])
 simp(disch:=omega) only[go_sem,nT];by_cases h2:(x.parts.length:Int)<1
 ·simp(disch:=omega) only[go_sem,h2,decide_true];exact ab (by
   have:fx 1 4 x.parts.length=false:=by simp[fx];omega
   simp only[j6,this,Bool.false_and,Bool.and_false])
 by_cases h3:(4:Int)<(x.parts.length:Int)
 ·simp(disch:=omega) only[go_sem,h2,h3,decide_true,decide_false];exact ab (by
   have:fx 1 4 x.parts.length=false:=by simp[fx];omega
   simp only[j6,this,Bool.false_and,Bool.and_false])
 have GO:fx 1 4 x.parts.length=true:=by simp[fx];omega
 by_cases h4:(x.aM.length:Int)<1
 ·simp(disch:=omega) only[go_sem,h2,h3,h4,decide_true,decide_false];exact ab (by
   have:fx 1 8 x.aM.length=false:=by simp[fx];omega
   simp only[j6,this,Bool.false_and,Bool.and_false])
 by_cases h5:(8:Int)<(x.aM.length:Int)
 ·simp(disch:=omega) only[go_sem,h2,h3,h4,h5,decide_true,decide_false];exact ab (by
   have:fx 1 8 x.aM.length=false:=by simp[fx];omega
   simp only[j6,this,Bool.false_and,Bool.and_false])
 have h45:fx 1 8 x.aM.length=true:=by simp[fx];omega
 simp(disch:=omega) only[go_sem,h2,h3,h4,h5,decide_false];refine av (Js x.cost) sG ?_;cases h6:fx 0 1000 x.cost
 ·simp(disch:=omega) only[go_sem,h2,decide_false,nF];exact ab (by simp only[j6,h6,Bool.false_and,Bool.and_false])
 have he:j6 g x=(x.parts.all (nW g)&&(x.aM.all (lr x)&&(List.range x.parts.length).all (cR x))):=by simp only[j6,h1,GO,h45,h6,Bool.true_and]
 rw[he];simp(disch:=omega) only[go_sem,h2,decide_false,nT];refine bo x.parts.length (fun i σ bx=>σ 2= .loc 2 1 0 0/\σ 3= .loc 3 1 0 0/\σ 5= .int .i64 i/\bx 2=⟨1,1,6,81,[g.d]⟩/\bx 3=⟨1,1,5,142,[x.d]⟩/\(x.parts.take i).all (nW g)=true) ?_ ?_ ?_
 ·simp(disch:=omega) only[go_sem,fY,cX,List.take_zero,List.all_nil]
 ·rintro i σ bx hi ⟨q2,q3,q5,b2,b3,hb⟩;obtain⟨y,hy⟩:=ba hi;have ar:(i:Int)<(x.parts.length:Int):=oM;have jE:IntKind.i64.wrap ((i:Int)+1)=((i+1:Nat):Int):=aD oM;have oH:y.d= .agg [.str y.cat,.int .i64 y.no,.str y.text]:=rfl;simp(disch:=omega) only[go_sem,q2,q3,q5,ar,b2,b3,fY,cX,hy,oH];refine av (TL g y hg (hx.parts y (mG hy))) (pp (kM g) rfl) ?_;cases hf:nW g y
  ·simp(disch:=omega) only[go_sem,nF];exact ab (by rw[pE (nW g) hy hf,Bool.false_and])
  ·simp(disch:=omega) only[go_sem,nT,q2,q3,q5,jE,b2,b3];exact lZ (nW g) hy hb hf
 ·rintro σ bx ⟨q2,q3,q5,b2,b3,hb⟩;have ar:¬(x.parts.length:Int)<(x.parts.length:Int):=oM;rw[tL]at hb;rw[hb,Bool.true_and];simp(disch:=omega) only[go_sem,q3,q5,ar,b3,fY];refine bo x.aM.length (fun i σ bx=>σ 3= .loc 3 1 0 0/\σ 6= .int .i64 i/\bx 3=⟨1,1,5,142,[x.d]⟩/\(x.aM.take i).all (lr x)=true) ?_ ?_ ?_
  ·simp(disch:=omega) only[go_sem,q3,b3,fY,List.take_zero,List.all_nil]
  ·rintro i σ bx hi ⟨q3,q6,b3,hb⟩;obtain⟨y,hy⟩:=ba hi;have ar:(i:Int)<(x.aM.length:Int):=oM;have jE:IntKind.i64.wrap ((i:Int)+1)=((i+1:Nat):Int):=aD oM;have oH:y.d= .agg [.int .i64 y.part,.str y.text]:=rfl;simp(disch:=omega) only[go_sem,q3,q6,ar,b3,fY,hy,oH];refine av (Tb x y (hx.aM y (mG hy)) oD) (pp (HV x) rfl) ?_;cases hf:lr x y
   ·simp(disch:=omega) only[go_sem,nF];exact ab (by rw[pE (lr x) hy hf,Bool.false_and])
   ·simp(disch:=omega) only[go_sem,nT,q3,q6,jE,b3];exact lZ (lr x) hy hb hf
  ·rintro σ bx ⟨q3,q6,b3,hb⟩;have ar:¬(x.aM.length:Int)<(x.aM.length:Int):=oM;rw[tL]at hb;rw[hb,Bool.true_and];simp(disch:=omega) only[go_sem,q3,q6,ar,b3,fY];refine bo x.parts.length (fun i σ bx=>σ 3= .loc 3 1 0 0/\σ 7= .int .i64 i/\bx 3=⟨1,1,5,142,[x.d]⟩/\∀k,k<i->cR x k=true) ?_ ?_ ?_
   ·simp(disch:=omega) only[go_sem,q3,b3,fY];exact fun k hk=>by omega
   ·rintro i σ bx hi ⟨q3,q7,b3,hb⟩;obtain⟨y,hy⟩:=ba hi;have ar:(i:Int)<(x.parts.length:Int):=oM;have jE:IntKind.i64.wrap ((i:Int)+1)=((i+1:Nat):Int):=aD oM;have oH:y.d= .agg [.str y.cat,.int .i64 y.no,.str y.text]:=rfl;have aP:cR x i=false->(List.range x.parts.length).all (cR x)=false:=fun h=>by rw[List.all_eq_false];exact⟨i,List.mem_range.2 hi,by simp[h]⟩
    have DT:cR x i=true->∀k,k<i+1->cR x k=true:=fun h k hk=>by
     by_cases e:k=i
     ·rw[e];exact h
     ·exact hb k oM
    by_cases ht:y.text=[]
    ·simp(disch:=omega) only[go_sem,q3,q7,ar,b3,fY,hy,oH,ht,decide_true];refine av (PS x i Ay) (pp (HV x) rfl) ?_;by_cases hc:(bT x.aM i:Int)=1
     ·have xF:cR x i=true:=by simp only[cR,hy,Option.all_some,ht];simp;omega
      simp(disch:=omega) only[go_sem,hc,decide_true,nT,q3,q7,jE,b3];exact DT xF
     ·have xF:cR x i=false:=by simp only[cR,hy,Option.all_some,ht];simp;omega
      simp(disch:=omega) only[go_sem,hc,decide_false,nF];exact ab (by rw[aP xF])
    ·have xF:cR x i=true:=by simp[cR,hy,ht]
     simp(disch:=omega) only[go_sem,q3,q7,ar,b3,fY,hy,oH,ht,decide_false,jE];exact DT xF
   ·rintro σ bx ⟨q3,q7,b3,hb⟩;have ar:¬(x.parts.length:Int)<(x.parts.length:Int):=oM;simp(disch:=omega) only[go_sem,q3,q7,ar,b3,fY];exact ab (by rw[List.all_eq_true.2 fun k hk=>hb k (List.mem_range.1 hk)])
def QN(g:aS)(x:aE):j6 g x=iY g.au.contains x:=by
 have h1:x.parts.all (nW g)=x.parts.all (mR g.au.contains):=by congr 1;funext q;exact QC g q
 have h2:(x.aM.all (lr x)&&(List.range x.parts.length).all (cR x))=(x.aM.all (kA x.parts.length)&&oY x):=by
  rw[Bool.eq_iff_iff];simp only[bA,List.all_eq_true,oY,List.mem_range];constructor
  ·rintro⟨a,b⟩;refine⟨fun y hy=>?_,fun i hi=>?_⟩
   ·have:=a y hy;unfold lr at this;unfold kA;split
    ·rename_i ht;rw[if_pos ht]at this;simp[fx]at this⊢;omega
    ·rename_i ht;rw[if_neg ht]at this;exact this
   ·obtain⟨q,hq⟩:=ba hi;have hb:=b i hi;simp only[cR,hq,Option.all_some]at hb;rw[B_ hq];by_cases ht:q.text=[]
    ·simp[ht]at hb;simp[ht,hb]
    ·have:bT x.aM i=0:=by
      rw[bT,List.countP_eq_zero];intro y hy hc;simp only[bA,decide_eq_true_eq]at hc;have:=a y hy;rw[lr,if_pos hc.1,hc.2,Int.toNat_natCast,hq]at this;simp[ht]at this
     simp[ht,this]
  ·rintro⟨a,b⟩;refine⟨fun y hy=>?_,fun i hi=>?_⟩
   ·have:=a y hy;unfold kA at this;unfold lr;split
    ·rename_i ht;rw[if_pos ht]at this;simp[fx]at this;obtain⟨k,hk⟩:∃k:Nat,y.part=k:=⟨y.part.toNat,by omega⟩
     have tz:k<x.parts.length:=oM;obtain⟨q,hq⟩:=ba tz;have hb:=b k tz;rw[B_ hq]at hb;have eI:0<bT x.aM k:=List.countP_pos_iff.2 ⟨y,hy,by simp[ht,hk]⟩;simp only[bA,decide_eq_true_eq,beq_iff_eq,decide_eq_decide]at hb;have hqt:=hb.2.1 oM;rw[hk,Int.toNat_natCast,hq];simp[hqt,tz]
    ·rename_i ht;rw[if_neg ht]at this;exact this
   ·obtain⟨q,hq⟩:=ba hi;have hb:=b i hi;rw[B_ hq]at hb;simp only[bA,decide_eq_true_eq,beq_iff_eq,decide_eq_decide]at hb;simp only[cR,hq,Option.all_some];by_cases ht:q.text=[]
    ·have:=hb.2.2 ht;simp[ht];omega
    ·simp[ht]
 simp only[j6,iY,h1,h2]
def ta(l:List ah)(i:Nat):Bool:=(l[i]?).all fun c=>dI c&&decide (im l c=(i:Int))
def oN(g:aS):Bool:=dI g.name&&(decide (0<g.au.length)&&(g.au.contains g.start&&((List.range g.au.length).all (ta g.au)&&(g.entries.all (fD g.au.contains)&&g.rules.all (j6 g)))))
def Q9(g:aS)(hg:mK g):ao prog 254 [g.d] (.bool (oN g)):=by
 refine aw mixed (fn:=f254) (tab:=[]) ?_ rfl aj rfl;refine ax _ [.tmp 2] _ rfl rfl rfl aj ?_;have cX:g.d= .agg [.str g.name,.sl 1 (g.au.map D.str),.str g.start,.int .i64 g.no,.sl 5 (g.entries.map Entry.d),.sl 5 (g.rules.map aE.d)]:=rfl;have fJ:=hg.A7;have eF:=hg.A_;have tF:=hg.zq;simp(disch:=omega) only[go_sem,cX];refine av (sU g.name hg.name) sG ?_;cases h1:dI g.name
 ·simp(disch:=omega) only[go_sem,nF];exact ab (by simp only[oN,h1,Bool.false_and])
 simp(disch:=omega) only[go_sem,nT,cX];by_cases h2:(g.au.length:Int)<1
 ·simp(disch:=omega) only[go_sem,h2,decide_true];exact ab (by rw[oN,decide_eq_false (show ¬0<g.au.length by omega),Bool.false_and,Bool.and_false])
 have Vn:decide (0<g.au.length)=true:=decide_eq_true oM;simp(disch:=omega) only[go_sem,h2,decide_false,cX];refine av (Cb g g.start fJ) (Su g g.start) ?_;cases h3:g.au.contains g.start
 ·simp(disch:=omega) only[go_sem,h2,decide_false,nF];exact ab (by simp only[oN,h3,Bool.false_and,Bool.and_false])
 have he:oN g=((List.range g.au.length).all (ta g.au)&&(g.entries.all (fD g.au.contains)&&g.rules.all (j6 g))):=by simp only[oN,h1,Vn,h3,Bool.true_and]
 rw[he];simp(disch:=omega) only[go_sem,h2,decide_false,nT];refine bo g.au.length (fun i σ bx=>σ 1= .loc 1 1 0 0/\σ 3= .int .i64 i/\bx 1=⟨1,1,6,81,[g.d]⟩/\∀k,k<i->ta g.au k=true) ?_ ?_ ?_
 ·simp(disch:=omega) only[go_sem,cX];exact fun k hk=>by omega
 ·rintro i σ bx hi ⟨q1,q3,b1,hb⟩;obtain⟨y,hy⟩:=ba hi;have ar:(i:Int)<(g.au.length:Int):=oM;have jE:IntKind.i64.wrap ((i:Int)+1)=((i+1:Nat):Int):=aD oM;have aP:ta g.au i=false->(List.range g.au.length).all (ta g.au)=false:=fun h=>by rw[List.all_eq_false];exact⟨i,List.mem_range.2 hi,by simp[h]⟩
  simp(disch:=omega) only[go_sem,q1,q3,ar,b1,cX,hy];refine av (sU y (hg.au y (mG hy))) sG ?_;cases hf:dI y
  ·simp(disch:=omega) only[go_sem,nF];exact ab (by rw[aP (by simp[ta,hy,hf]),Bool.false_and])
  simp(disch:=omega) only[go_sem,nT,q1,q3,b1,cX,hy];refine av (nj g.au y fJ) sG ?_;by_cases hx:im g.au y=(i:Int)
  ·simp(disch:=omega) only[go_sem,hx,decide_true,nT,q1,q3,jE,b1,cX];intro k hk;by_cases e:k=i
   ·rw[e];simp[ta,hy,hf,hx]
   ·exact hb k oM
  ·simp(disch:=omega) only[go_sem,hx,q3,decide_false,nF];exact ab (by rw[aP (by simp[ta,hy,hf,hx]),Bool.false_and])
 ·rintro σ bx ⟨q1,q3,b1,hb⟩;have ar:¬(g.au.length:Int)<(g.au.length:Int):=oM;rw[List.all_eq_true.2 fun k hk=>hb k (List.mem_range.1 hk),Bool.true_and];simp(disch:=omega) only[go_sem,q1,q3,ar,b1,cX];refine bo g.entries.length (fun i σ bx=>σ 1= .loc 1 1 0 0/\σ 4= .int .i64 i/\bx 1=⟨1,1,6,81,[g.d]⟩/\(g.entries.take i).all (fD g.au.contains)=true) ?_ ?_ ?_
  ·simp(disch:=omega) only[go_sem,q1,b1,cX,List.take_zero,List.all_nil]
  ·rintro i σ bx hi ⟨q1,q4,b1,hb⟩;obtain⟨y,hy⟩:=ba hi;have ar:(i:Int)<(g.entries.length:Int):=oM;have jE:IntKind.i64.wrap ((i:Int)+1)=((i+1:Nat):Int):=aD oM;have oH:y.d= .agg [.str y.text,.str y.cat,.int .i64 y.no,.sl 1 (y.aM.map D.str),.int .i64 y.cost]:=rfl;simp(disch:=omega) only[go_sem,q1,q4,ar,b1,cX,hy,oH];refine av (Py g y fJ (hg.en y (mG hy))) (pp (kM g) (Xp y)) ?_;cases hf:fD g.au.contains y
   ·simp(disch:=omega) only[go_sem,nF];exact ab (by rw[pE (fD g.au.contains) hy hf,Bool.false_and])
   ·simp(disch:=omega) only[go_sem,nT,q1,q4,jE,b1,cX];exact lZ (fD g.au.contains) hy hb hf
  ·rintro σ bx ⟨q1,q4,b1,hb⟩;have ar:¬(g.entries.length:Int)<(g.entries.length:Int):=oM;rw[tL]at hb;rw[hb,Bool.true_and];simp(disch:=omega) only[go_sem,q1,q4,ar,b1,cX];refine bo g.rules.length (fun i σ bx=>σ 1= .loc 1 1 0 0/\σ 5= .int .i64 i/\bx 1=⟨1,1,6,81,[g.d]⟩/\(g.rules.take i).all (j6 g)=true) ?_ ?_ ?_
   ·simp(disch:=omega) only[go_sem,q1,b1,cX,List.take_zero,List.all_nil]
   ·rintro i σ bx hi ⟨q1,q5,b1,hb⟩;obtain⟨y,hy⟩:=ba hi;have ar:(i:Int)<(g.rules.length:Int):=oM;have jE:IntKind.i64.wrap ((i:Int)+1)=((i+1:Nat):Int):=aD oM;have oH:y.d= .agg [.str y.cat,.int .i64 y.no,.sl 3 (y.parts.map Part.d),.sl 2 (y.aM.map dK.d),.int .i64 y.cost]:=rfl;simp(disch:=omega) only[go_sem,q1,q5,ar,b1,cX,hy,oH];refine av (TR g y fJ (hg.rules y (mG hy))) (pp (kM g) (HV y)) ?_;cases hf:j6 g y
    ·simp(disch:=omega) only[go_sem,nF];exact ab (by rw[pE (j6 g) hy hf])
    ·simp(disch:=omega) only[go_sem,nT,q1,q5,jE,b1,cX];exact lZ (j6 g) hy hb hf
   ·rintro σ bx ⟨q1,q5,b1,hb⟩;have ar:¬(g.rules.length:Int)<(g.rules.length:Int):=oM;rw[tL]at hb;simp(disch:=omega) only[go_sem,q1,q5,ar,b1,cX];exact ab (by rw[hb])
def SW(l:List ah):(List.range l.length).all (ta l)=(decide l.Nodup&&l.all dI):=by
 rw[Bool.eq_iff_iff];simp only[bA,List.all_eq_true,decide_eq_true_eq,List.mem_range];constructor
 ·intro h;have hi:∀(i:Nat) c,l[i]? =some c->dI c=true/\l.idxOf c=i:=fun i c hc=>by
   have:=h i (gS.1 hc).1;simp only[ta,hc,Option.all_some,bA,decide_eq_true_eq,im,List.contains_iff_mem.2 (mG hc),if_true]at this;exact⟨this.1,by omega⟩
  refine⟨?_,fun c hc=>?_⟩
  ·refine List.pairwise_iff_getElem.2 fun i j jF pQ ph he=>?_;have h1:=(hi j l[j] (gE pQ)).2;have h2:=(hi i l[i] (gE jF)).2;rw[he]at h2;omega
  ·obtain⟨i,hc⟩:=List.mem_iff_getElem?.1 hc;exact(hi i c hc).1
 ·rintro⟨h1,h2⟩ i hi;obtain⟨c,hc⟩:=ba hi;have:=(yO l i c hc (HB h1 hc)).1;simp only[ta,hc,Option.all_some,bA,decide_eq_true_eq,im,List.contains_iff_mem.2 (mG hc),if_true];exact⟨h2 c (mG hc),by omega⟩
def OK(g:aS):oN g=(decide g.au.Nodup&&gC g.au.contains g):=by
 have h1:g.rules.all (j6 g)=g.rules.all (iY g.au.contains):=by congr 1;funext x;exact QN g x
 simp only[oN,gC,SW,h1];cases dI g.name<;>cases decide (0<g.au.length)<;>cases g.au.contains g.start<;>cases decide g.au.Nodup<;>cases g.au.all dI<;>simp
def push(c:ah)(p:List ah×List ah)(x:aE):List ah×List ah:=match jo x with
 |some (a,d)=>if a=c/\¬d∈p.1 then(p.1++[d],p.2++[d])else p
 |none=>p
def run(rs:List aE):Nat->List ah×List ah->List ah
 |_,(out,[])=>out
 |0,(out,_)=>out
 |k+1,(out,c::todo)=>run rs k (rs.foldl (push c) (out,todo))
def lL(rs:List aE)(s:ah):List ah:=run rs (rs.length+1) ([],[s])
def zO(g:aS):Bool:=g.au.any fun c=>(lL g.rules c).contains c
def Dg(l:List ah)(x:Entry):Entry:={x with no:=im l x.cat}
def Dh(l:List ah)(q:Part):Part:={q with no:=max 0 (im l q.cat)}
def sO(l:List ah)(x:aE):aE:={x with no:=im l x.cat,parts:=x.parts.map (Dh l)}
def FU(g:aS):aS:={g with no:=im g.au g.start,entries:=g.entries.map (Dg g.au),rules:=g.rules.map (sO g.au)}
def jU(g:aS):aS×Int:=
 if 32<g.au.length\/512<g.entries.length\/128<g.rules.length then(.zero,2)
 else if oN g=false then(.zero,260)
 else if zO g=true then(.zero,261)else(FU g,0)
def zM:Prop:=∀(g:aS) (s:ah),mK g->g.rules.length<=128->small s->ao prog 256 [g.d,.str s] (strs (lL g.rules s))
def L1(CJ:zM)(hlen:∀(g:aS) s,g.rules.length<=128->(lL g.rules s).length<=128)(g:aS)(hg:mK g)(oD:∀x∈g.rules,x.parts.length<=65536):mf prog (cJ prog) [(1000143,[]),(8,[(7,5),(7,2)])] f204 0 [g.d] (fun _=> .none) (Uv (jU g)) (fun _ _=>False):=by
 refine aJ _ [.cell 2 81,.tmp 3] 147 rfl rfl rfl aj ?_;have cX:g.d= .agg [.str g.name,.sl 1 (g.au.map D.str),.str g.start,.int .i64 g.no,.sl 5 (g.entries.map Entry.d),.sl 5 (g.rules.map aE.d)]:=rfl;have fJ:=hg.A7;simp(disch:=omega) only[go_sem,cX];by_cases u6:32<g.au.length\/512<g.entries.length\/128<g.rules.length
 ·have hr:jU g=(.zero,2):=by unfold jU;rw[if_pos u6]
  rw[hr];by_cases l1:(32:Int)<(g.au.length:Int)
  ·simp(disch:=omega) only[go_sem,l1,decide_true];exact jT _ _
  by_cases l2:(512:Int)<(g.entries.length:Int)
  ·simp(disch:=omega) only[go_sem,l1,l2,decide_true,decide_false];exact jT _ _
  have l3:(128:Int)<(g.rules.length:Int):=oM;simp(disch:=omega) only[go_sem,l1,l2,l3,decide_true,decide_false];exact jT _ _
 have l1:¬(32:Int)<(g.au.length:Int):=oM;have l2:¬(512:Int)<(g.entries.length:Int):=oM;have l3:¬(128:Int)<(g.rules.length:Int):=oM;simp(disch:=omega) only[go_sem,l1,l2,l3,decide_false,cX];refine av (Q9 g hg) (pg g) ?_;cases ht:oN g
 ·have hr:jU g=(.zero,260):=by unfold jU;rw[if_neg u6,if_pos ht]
  rw[hr];simp(disch:=omega) only[go_sem,nF];exact jT _ _
 simp(disch:=omega) only[go_sem,nT];refine bo g.au.length (fun i σ bx=>σ 1= .loc 1 1 0 0/\σ 2= .loc 2 1 0 0/\σ 4= .int .i64 i/\bx 1=⟨1,1,6,81,[g.d]⟩/\bx 2=⟨1,1,6,81,[ma]⟩/\(g.au.take i).any (fun c=>(lL g.rules c).contains c)=false) ?_ ?_ ?_
 ·simp(disch:=omega) only[go_sem,cX,ma,List.take_zero,List.any_nil]
 ·rintro i σ bx hi ⟨q1,q2,q4,b1,b2,hb⟩;obtain⟨y,hy⟩:=ba hi;have ar:(i:Int)<(g.au.length:Int):=oM;have jE:IntKind.i64.wrap ((i:Int)+1)=((i+1:Nat):Int):=aD oM;simp(disch:=omega) only[go_sem,q1,q4,ar,b1,cX,hy];refine av (CJ g y hg oM (hg.au y (mG hy))) (Su g y) ?_;simp(disch:=omega) only[go_sem,q1,q4,b1,cX,hy];refine av (nj (lL g.rules y) y (by have:=hlen g y oM;omega)) (by simp[go_sem,strs]) ?_;simp(disch:=omega) only[go_sem,J0];cases hc:(lL g.rules y).contains y
  ·simp(disch:=omega) only[go_sem,q1,q2,q4,jE,b1,b2,cX];rw[List.take_add_one,hy,List.any_append,hb];simp only[Option.toList_some,List.any_cons,hc,List.any_nil,Bool.or_false]
  ·have hr:jU g=(.zero,261):=by
    have:zO g=true:=by rw[zO,List.any_eq_true];exact⟨y,mG hy,hc⟩
    unfold jU;rw[if_neg u6,if_neg (by simp[ht]),if_pos this]
   rw[hr];simp(disch:=omega) only[go_sem,q2,b2,ma];exact jT _ _
 ·rintro σ bx ⟨q1,q2,q4,b1,b2,hb⟩;have ar:¬(g.au.length:Int)<(g.au.length:Int):=oM;rw[tL]at hb;have hr:jU g=(FU g,0):=by
   have:zO g=false:=hb;unfold jU;rw[if_neg u6,if_neg (by simp[ht]),if_neg (by simp[this])]
  rw[hr];simp(disch:=omega) only[go_sem,q1,q4,ar,b1,cX];refine av (nj g.au g.start fJ) sG ?_;simp(disch:=omega) only[go_sem];generalize hE5:(bx 5).ep+1=E5;refine bo g.entries.length (fun j σ bx=>σ 1= .loc 1 1 0 0/\σ 2= .loc 2 1 0 0/\σ 5= .loc 5 E5 0 0/\σ 6= .int .i64 j/\bx 1=⟨1,1,6,81,[g.d]⟩/\bx 2=⟨1,1,6,81,[ma]⟩/\
   ∃x,bx 5=⟨E5,1,6,81,[.agg [.str g.name,.sl 1 (g.au.map D.str),.str g.start,.int .i64 (im g.au g.start),x,.aq]]⟩/\aX bx [86] 138 5 x (((g.entries.map (Dg g.au)).take j).map Entry.d)) ?_ ?_ ?_
  ·simp(disch:=omega) only[go_sem,q1,q2,b1,b2,cX];exact⟨.aq,rfl,by simpa using aX.nil _ _ _ _⟩
  ·rintro j σ bx hj ⟨q1,q2,q5,q6,b1,b2,x',b5,ov⟩;obtain⟨x,hx⟩:=ba hj;have ar:(j:Int)<(g.entries.length:Int):=oM;have oc:IntKind.i64.wrap ((j:Int)+1)=((j+1:Nat):Int):=aD oM;have fY:x.d= .agg [.str x.text,.str x.cat,.int .i64 x.no,.sl 1 (x.aM.map D.str),.int .i64 x.cost]:=rfl;obtain⟨v1,v2,v3⟩:=ov.facts;simp(disch:=omega) only[go_sem,q1,q6,ar,b1,cX,hx,fY];refine av (nj g.au x.cat fJ) sG ?_;simp(disch:=omega) only[go_sem,q5,b5];refine vY (ov.of (by simp[ak])) sG (by simp;omega) oM oM oM fun y bx' h1 h2=>?_;obtain⟨v1,v2,v3⟩:=h1.facts;have c1:=(h2 1 oM).trans ((aB oM).trans ((aB oM).trans ((aB oM).trans b1)));have c2:=(h2 2 oM).trans ((aB oM).trans ((aB oM).trans ((aB oM).trans b2)));have c5:=(h2 5 oM).trans ((aB oM).trans ((aB oM).trans ((aB oM).trans b5)));simp(disch:=omega) only[go_sem,q1,q2,q5,q6,c1,c2,c5,v1,v2,oc];rw[BJ hx,List.map_append];exact⟨y,rfl,h1.of (by simp[ak])⟩
  ·rintro σ bx ⟨q1,q2,q5,q6,b1,b2,x',b5,ov⟩;have ar:¬(g.entries.length:Int)<(g.entries.length:Int):=oM;rw[List.take_of_length_le sI]at ov;simp(disch:=omega) only[go_sem,q1,q6,b1,ar,cX];clear ar;refine vj g.rules.length (fun j σ bx=>σ 1= .loc 1 1 0 0/\σ 2= .loc 2 1 0 0/\σ 5= .loc 5 E5 0 0/\σ 8= .int .i64 j/\bx 1=⟨1,1,6,81,[g.d]⟩/\bx 2=⟨1,1,6,81,[ma]⟩/\
    ∃x y,bx 5=⟨E5,1,6,81,[.agg [.str g.name,.sl 1 (g.au.map D.str),.str g.start,.int .i64 (im g.au g.start),x,y]]⟩/\aX bx [86] 138 5 x ((g.entries.map (Dg g.au)).map Entry.d)/\uh 144 138 142 y (((g.rules.map (sO g.au)).take j).map aE.d) bx) ?_ ?_ ?_
   ·simp(disch:=omega) only[go_sem,q1,q2,q5,cX];exact⟨b1,b2,x',.aq,b5,ov,.inl ⟨rfl,by simp⟩⟩
   ·rintro j σ bx hj ⟨q1,q2,q5,q8,b1,b2,x',y,b5,ov,hh⟩;obtain⟨x,hx⟩:=ba hj;obtain⟨bx0,hm,iz,l,ol,hw,NM⟩:=hh.eO (by decide);refine⟨bx0,?_,?_⟩
    ·rcases hm with rfl|⟨l,h1,h2,h3⟩
     ·exact .inl rfl
     ·exact .inr ⟨rfl,144,l,h1,h2,h3⟩
    clear hm hh;replace b1:=(iz 1 oM oM).trans b1;replace b2:=(iz 2 oM oM).trans b2;replace b5:=(iz 5 oM oM).trans b5;replace ov:=ov.of (bx':=bx0) fun q hq=>iz q (by simp at hq;omega) (by simp at hq;omega);have ar:(j:Int)<(g.rules.length:Int):=oM;have oc:IntKind.i64.wrap ((j:Int)+1)=((j+1:Nat):Int):=aD oM;have hxp:=oD x (mG hx);have fY:x.d= .agg [.str x.cat,.int .i64 x.no,.sl 3 (x.parts.map Part.d),.sl 2 (x.aM.map dK.d),.int .i64 x.cost]:=rfl;obtain⟨v1,v2,v3⟩:=ol.facts;simp(disch:=omega) only[go_sem,q1,q8,ar,b1,cX,hx,fY];refine av (nj g.au x.cat fJ) sG ?_;simp(disch:=omega) only[go_sem];generalize hE9:(bx0 9).ep+1=E9;refine bo x.parts.length (fun i σ bx=>σ 1= .loc 1 1 0 0/\σ 2= .loc 2 1 0 0/\σ 5= .loc 5 E5 0 0/\σ 8= .int .i64 j/\σ 9= .loc 9 E9 0 0/\σ 10= .int .i64 i/\(∀q,q≠9->q≠11->q≠138->bx q=bx0 q)/\
     ∃p',bx 9=⟨E9,1,5,142,[.agg [.str x.cat,.int .i64 (im g.au x.cat),p',.sl 2 (x.aM.map dK.d),.int .i64 x.cost]]⟩/\aX bx [138] 247 3 p' (((x.parts.map (Dh g.au)).take i).map Part.d)) ?_ ?_ ?_
    ·simp(disch:=omega) only[go_sem,q1,q2,q5,q8];exact⟨fun q h1 h2 h3=>by simp[h1],.aq,rfl,by simpa using aX.nil _ _ _ _⟩
    ·rintro i σ bx hi ⟨q1,q2,q5,q8,q9,og,iT,p',b9,op⟩;obtain⟨q,hq⟩:=ba hi;have Qf:(i:Int)<(x.parts.length:Int):=oM;have jE:IntKind.i64.wrap ((i:Int)+1)=((i+1:Nat):Int):=aD oM;have c1:=(iT 1 oM oM oM).trans b1;have NN:q.d= .agg [.str q.cat,.int .i64 q.no,.str q.text]:=rfl;obtain⟨w1,w2,w3⟩:=op.facts;simp(disch:=omega) only[go_sem,q1,q8,og,Qf,c1,cX,hx,fY,hq,NN];refine av (nj g.au q.cat fJ) sG ?_;simp(disch:=omega) only[go_sem,q9,b9];refine vY (op.of (by simp[ak])) sG (by simp;omega) oM oM oM fun z bx' h1 h2=>?_;obtain⟨w1,w2,w3⟩:=h1.facts;have d9:=(h2 9 oM).trans ((aB oM).trans ((aB oM).trans ((aB oM).trans b9)));simp(disch:=omega) only[go_sem,q1,q2,q5,q8,q9,og,d9,w1,w2,jE];refine⟨fun r g1 g2 g3=>by rw[if_neg g1];exact(h2 r g3).trans (by simp(disch:=omega) only[aB];exact iT r g1 g2 g3),z,rfl,?_⟩;rw[BJ hq,List.map_append];exact h1.of (by simp[ak])
    ·rintro σ bx ⟨q1,q2,q5,q8,q9,og,iT,p',b9,op⟩;have Qf:¬(x.parts.length:Int)<(x.parts.length:Int):=oM;have c1:=(iT 1 oM oM oM).trans b1;have c5:=(iT 5 oM oM oM).trans b5;rw[List.take_of_length_le sI]at op;obtain⟨w1,w2,w3⟩:=op.facts;simp(disch:=omega) only[go_sem,q1,q2,q5,q8,q9,og,Qf,c1,cX,hx,fY,b9,c5,v2,w2];rw[M1 (eC _ _ _)];simp only[Option.bind_some];have RU:=hw.len;simp at RU;refine gP (ts:=[144]) (xs:=l) (ol.of fun q hq=>by simp at hq;subst hq;exact(aB oM).trans (iT 144 oM oM oM)) sI sG (by simp;omega) oM oM sI fun e' bx' h1 h2=>?_;have k5:=(h2 5 oM sI).trans ((aB oM).trans c5);have k1:=(h2 1 oM sI).trans ((aB oM).trans c1);have k2:=(h2 2 oM sI).trans ((aB oM).trans ((iT 2 oM oM oM).trans b2));have k86:=(h2 86 oM sI).trans ((aB oM).trans (iT 86 oM oM oM));have aeO:=(h2 138 oM sI).trans (aB oM);simp(disch:=omega) only[go_sem,q1,q2,q5,q8,k5,k1,k2,oc];generalize hB:ak bx' 5 _=B;have ae3:B 138=bx 138:=by rw[<-hB];exact(aB oM).trans aeO
     have m86:B 86=bx0 86:=by rw[<-hB];exact(aB oM).trans k86
     have W1:B 144=bx' 144:=by rw[<-hB];exact aB oM
     rw[h1]at W1;clear hB;refine⟨x',_,rfl,ov.of fun q hq=>by simp at hq;subst hq;exact m86,?_⟩;rw[BJ hx,List.map_append];obtain⟨r,oe,yI,hr3⟩:=Bq (op.of (bx':=B) fun q hq=>by simp at hq;subst hq;exact ae3) (zn _) (.refl _);refine uh.add (d':=.agg [.str x.cat,.int .i64 (im g.au x.cat),r,.sl 2 (x.aM.map dK.d),.int .i64 x.cost]) hw NM W1 ?_ (by simp[D.pure,D.aF,hr3]) rfl ?_ ?_
     ·simp only[tS,dY,o0,oe];simp[go_sem]
     ·intro k c c' hc fO
      match k with
      |0=>simp[D.cells,sO,aE.d]at hc fO;subst hc;subst fO;exact .refl _
      |1=>simp[D.cells,sO,aE.d]at hc fO;subst hc;subst fO;exact .refl _
      |2=>simp[D.cells,sO,aE.d]at hc fO;subst hc;subst fO;simpa using yI
      |3=>simp[D.cells,sO,aE.d]at hc fO;subst hc;subst fO;exact .refl _
      |4=>simp[D.cells,sO,aE.d]at hc fO;subst hc;subst fO;exact .refl _
      |k+5=>simp[D.cells]at hc
     ·intro q hq;simp only[names,bH,List.mem_append,List.not_mem_nil,false_or,or_false]at hq;have:=aX.names op q hq;simpa using this
   ·rintro σ bx ⟨q1,q2,q5,q8,b1,b2,x',y,b5,ov,hh⟩;have ar:¬(g.rules.length:Int)<(g.rules.length:Int):=oM;obtain⟨bx0,hm,iz,l,ol,hw,NM⟩:=hh.eO (by decide);refine⟨bx0,?_,?_⟩
    ·rcases hm with rfl|⟨l,h1,h2,h3⟩
     ·exact .inl rfl
     ·exact .inr ⟨rfl,144,l,h1,h2,h3⟩
    clear hm hh;replace b1:=(iz 1 oM oM).trans b1;replace b2:=(iz 2 oM oM).trans b2;replace b5:=(iz 5 oM oM).trans b5;replace ov:=ov.of (bx':=bx0) fun q hq=>iz q (by simp at hq;omega) (by simp at hq;omega);obtain⟨v1,v2,v3⟩:=ol.facts;obtain⟨w1,w2,w3⟩:=ov.facts;rw[List.take_of_length_le sI]at hw;simp(disch:=omega) only[go_sem,q1,q2,q5,q8,ar,b1,b2,b5,v2,w2,cX,ma];obtain⟨rE,Vu,Vv,-⟩:=Bq (ov.of (bx':=ak bx0 2 ⟨1,1,6,81,[.agg [.str g.name,.sl 1 (g.au.map D.str),.str g.start,.int .i64 (im g.au g.start),x',y]]⟩) fun q hq=>by simp at hq;subst hq;exact aB oM) (Bw _) (.refl _);obtain⟨rR,EK,EL,-⟩:=Bq (ol.of (bx':=ak bx0 2 ⟨1,1,6,81,[.agg [.str g.name,.sl 1 (g.au.map D.str),.str g.start,.int .i64 (im g.au g.start),x',y]]⟩) fun q hq=>by simp at hq;subst hq;exact aB oM) NM hw;refine⟨.aL [.agg [.str g.name,.sl 1 (g.au.map D.str),.str g.start,.int .i64 (im g.au g.start),rE,rR],.int .i64 0],?_,kW (zG (.refl _) (.refl _) (.refl _) (.refl _) Vv EL) (.refl _)⟩;simp only[HP,tS,dY,o0,Vu,EK];simp[go_sem]
end Go.V.Ty
namespace Go.V.Ty
open Go.Proofs Go.RowKit Go.V.Lx Go.V.Gr
inductive Way(rs:List aE):ah->ah->Prop where
 |one {a b:ah} (h:Edge rs a b):Way rs a b
 |more {a b c:ah} (h:Way rs a b) (h2:Edge rs b c):Way rs a c
theorem Way.trans{rs:List aE}{a b c:ah}(h:Way rs a b)(h2:Way rs b c):Way rs a c:=by
 induction h2 with
 |one h2=>exact .more h h2
 |more _ h3 ih=>exact .more ih h3
theorem Way.first{rs:List aE}{a c:ah}(h:Way rs a c):∃b,Edge rs a b/\(b=c\/Way rs b c):=by
 induction h with
 |one h=>exact⟨_,h,.inl rfl⟩
 |more _ h2 ih=>
  obtain⟨b,h3,rfl|h4⟩:=ih
  ·exact⟨_,h3,.inr (.one h2)⟩
  ·exact⟨_,h3,.inr (.more h4 h2)⟩
def targets(rs:List aE):List ah:=rs.filterMap fun x=>(jo x).map (·.2)
structure A3(rs:List aE)(s:ah)(out todo:List ah):Prop where
 nodup:out.Nodup
 sub:∀t∈out,t∈targets rs
 X3:∀t∈out,Way rs s t
 bC:∀c∈todo,c=s\/c∈out
 Pg:∀c,(c=s\/c∈out)->c∉todo->∀d,Edge rs c d->d∈out
theorem Fl(c:ah):∀(l:List aE) (p:List ah×List ah),∃m:List ah,l.foldl (push c) p=(p.1++m,p.2++m)/\(p.1.Nodup->(p.1++m).Nodup)/\(∀t∈m,∃x∈l,jo x=some (c,t))/\∀x∈l,∀t,jo x=some (c,t)->t∈p.1++m
 |[],p=>⟨[],by simp,by simp,by simp,by simp⟩
 |x::l,p=>by
  obtain⟨m0,h0,n0,e0,f0⟩:∃m0:List ah,push c p x=(p.1++m0,p.2++m0)/\(p.1.Nodup->(p.1++m0).Nodup)/\(∀t∈m0,jo x=some (c,t))/\∀t,jo x=some (c,t)->t∈p.1++m0:=by
   unfold push;cases he:jo x with
   |none=>exact⟨[],by simp,by simp,by simp,by simp⟩
   |some q=>
    obtain⟨a,d⟩:=q;dsimp only;by_cases hc:a=c/\¬d∈p.1
    ·rw[if_pos hc];refine⟨[d],rfl,fun hn=>?_,by simp[hc.1],fun t ht=>?_⟩
     ·rw[List.nodup_append];exact⟨hn,by simp,fun u hu v hv e=>by simp at hv;subst hv;subst e;exact hc.2 hu⟩
     ·simp at ht;simp[ht.2]
    ·rw[if_neg hc];refine⟨[],by simp,by simp,by simp,fun t ht=>?_⟩;simp only[sJ,Prod.mk.injEq]at ht;have:d∈p.1:=Classical.byContradiction fun hn=>hc ⟨ht.1,hn⟩;rw[<-ht.2];simp[this]
  obtain⟨m,h1,n1,e1,f1⟩:=Fl c l (push c p x);rw[List.foldl_cons,h1,h0];rw[h0]at n1 f1;refine⟨m0++m,by simp,fun hn=>by rw[<-List.append_assoc];exact n1 (n0 hn),fun t ht=>?_,fun y hy t Sa=>?_⟩
  ·rcases List.mem_append.1 ht with ht|ht
   ·exact⟨x,by simp,e0 t ht⟩
   ·obtain⟨y,hy,Sa⟩:=e1 t ht;exact⟨y,by simp[hy],Sa⟩
  ·rw[<-List.append_assoc];rcases List.mem_cons.1 hy with rfl|hy
   ·exact List.mem_append_left _ (f0 t Sa)
   ·exact f1 y hy t Sa
theorem tP{α:Type}[DecidableEq α]:∀ {l m:List α},l.Nodup->(∀x∈l,x∈m)->l.length<=m.length
 |[],m,_,_=>by simp
 |x::l,m,hn,h=>by
  simp only[List.nodup_cons]at hn;have hx:=h x sI;have h2:∀y∈l,y∈m.erase x:=fun y hy=>by
   have bq:y≠x:=by rintro rfl;exact hn.1 hy
   exact(List.mem_erase_of_ne bq).2 (h y (by simp[hy]))
  have:=tP hn.2 h2;rw[List.length_erase_of_mem hx]at this;have:=List.length_pos_of_mem hx;simp only[List.length_cons];omega
theorem A3.step{rs:List aE}{s c:ah}{out todo:List ah}(h:A3 rs s out (c::todo)):∃m,rs.foldl (push c) (out,todo)=(out++m,todo++m)/\A3 rs s (out++m) (todo++m):=by
 obtain⟨m,h1,h2,h3,h4⟩:=Fl c rs (out,todo);dsimp only at h1 h2 h4;have hc:c=s\/c∈out:=h.bC c sI;have hm:∀t∈m,Edge rs c t:=fun t ht=>h3 t ht;refine⟨m,h1,h2 h.nodup,fun t ht=>?_,fun t ht=>?_,fun d hd=>?_,fun d hd hnt t het=>?_⟩
 ·rcases List.mem_append.1 ht with ht|ht
  ·exact h.sub t ht
  ·obtain⟨x,hx,Wx⟩:=h3 t ht;exact List.mem_filterMap.2 ⟨x,hx,by rw[Wx];rfl⟩
 ·rcases List.mem_append.1 ht with ht|ht
  ·exact h.X3 t ht
  ·rcases hc with rfl|hc
   ·exact .one (hm t ht)
   ·exact .more (h.X3 c hc) (hm t ht)
 ·rcases List.mem_append.1 hd with hd|hd
  ·rcases h.bC d (by simp[hd])with h|h
   ·exact .inl h
   ·exact .inr (List.mem_append_left _ h)
  ·exact .inr (List.mem_append_right _ hd)
 ·by_cases JI:d=c
  ·subst JI;obtain⟨x,hx,Wx⟩:=het;exact h4 x hx t Wx
  ·have hdo:d=s\/d∈out:=by
    rcases hd with hd|hd
    ·exact .inl hd
    ·rcases List.mem_append.1 hd with hd|hd
     ·exact .inr hd
     ·exact(hnt (List.mem_append_right _ hd)).elim
   exact List.mem_append_left _ (h.Pg d hdo (by simp[JI];exact fun hh=>hnt (List.mem_append_left _ hh)) t het)
def qW(rs:List aE):(targets rs).length<=rs.length:=List.length_filterMap_le _ _
theorem Il{rs:List aE}{s:ah}:∀(k:Nat) (out todo:List ah),A3 rs s out todo->todo.length+rs.length<=k+out.length->A3 rs s (run rs k (out,todo)) []
 |k,out,[],h,_=>by
  have:run rs k (out,[])=out:=by unfold run;rfl
  rw[this];exact h
 |0,out,c::todo,h,hk=>by
  have:=tP h.nodup h.sub;have:=qW rs;simp at hk;omega
 |k+1,out,c::todo,h,hk=>by
  obtain⟨m,h1,h2⟩:=h.step;rw[run,h1];refine Il k _ _ h2 ?_;simp at hk⊢;omega
def w9(rs:List aE)(s:ah):A3 rs s (lL rs s) []:=Il _ _ _ ⟨.nil,by simp,by simp,by simp,fun c hc hn d he=>by
 rcases hc with rfl|hc
 ·simp at hn
 ·simp at hc⟩ (by simp;omega)
def Oq(rs:List aE)(s:ah):(lL rs s).length<=rs.length:=Nat.le_trans (tP (w9 rs s).nodup (w9 rs s).sub) (qW rs)
def Fp(rs:List aE)(s t:ah):t∈lL rs s<->Way rs s t:=by
 have h:=w9 rs s;constructor
 ·exact h.X3 t
 ·intro hw;induction hw with
  |one he=>exact h.Pg _ (.inl rfl) sI _ he
  |more _ he ih=>exact h.Pg _ (.inr ih) sI _ he
theorem GJ{rs:List aE}:∀(n:Nat) (F:List ah),F.length<=n->F≠[]->(∀c∈F,∃d∈F,Edge rs c d)->∃c∈F,Way rs c c
 |0,F,hl,bq,_=>(bq (List.eq_nil_of_length_eq_zero oM)).elim
 |n+1,F,hl,bq,h=>by
  obtain⟨c,hc⟩:=List.exists_mem_of_ne_nil F bq;by_cases hw:Way rs c c
  ·exact⟨c,hc,hw⟩
  ·have hd:DecidablePred fun d=>Way rs c d:=fun _=>Classical.propDecidable _;obtain⟨d,tu,qj⟩:=h c hc;have ar:(F.filter fun d=>decide (Way rs c d)).length<F.length:=by
    have:=List.length_filter_le (fun d=>decide (Way rs c d)) F;by_cases he:(F.filter fun d=>decide (Way rs c d)).length=F.length
    ·have:=List.length_filter_eq_length_iff.1 he c hc;simp at this;exact(hw this).elim
    ·omega
   obtain⟨e,he,hee⟩:=GJ (rs:=rs) n (F.filter fun d=>decide (Way rs c d)) oM
    (List.ne_nil_of_mem (a:=d) (List.mem_filter.2 ⟨tu,decide_eq_true (.one qj)⟩))
    (fun x hx=>by
     obtain⟨yM,eJ⟩:=List.mem_filter.1 hx;obtain⟨y,hy,mg⟩:=h x yM;exact⟨y,List.mem_filter.2 ⟨hy,decide_eq_true (.more (of_decide_eq_true eJ) mg)⟩,mg⟩)
   exact⟨e,(List.mem_filter.1 he).1,hee⟩
def O_{g:aS}(T:Typed g):zO g=pH g:=by
 rw[Bool.eq_iff_iff,Pa,zO,List.any_eq_true];have kG:∀a b,Edge g.rules a b->a∈g.au/\b∈g.au:=by
  rintro a b ⟨x,hx,he⟩;unfold jo at he;split at he
  ·rename_i q hq;split at he
   ·rename_i ht;simp only[sJ,Prod.mk.injEq]at he;rw[<-he.1,<-he.2];exact⟨List.contains_iff_mem.1 (T.XE x hx),List.contains_iff_mem.1 (T.part x hx q (by rw[hq];simp) ht)⟩
   ·cases he
  ·cases he
 constructor
 ·rintro⟨c,hc,h⟩;have hw:Way g.rules c c:=(Fp _ _ _).1 (List.contains_iff_mem.1 h);have hd:DecidablePred fun d=>Way g.rules c d/\Way g.rules d c:=fun _=>Classical.propDecidable _;refine⟨g.au.filter fun d=>decide (Way g.rules c d/\Way g.rules d c),List.ne_nil_of_mem (a:=c) (List.mem_filter.2 ⟨hc,decide_eq_true ⟨hw,hw⟩⟩),fun d hd=>um.2 ?_,fun x hx=>(List.mem_filter.1 hx).1⟩;obtain⟨tu,qj⟩:=List.mem_filter.1 hd;have JG:=of_decide_eq_true qj;obtain⟨e,he,VZ⟩:=JG.2.first;refine⟨e,List.mem_filter.2 ⟨(kG _ _ he).2,decide_eq_true ⟨.more JG.1 he,?_⟩⟩,he⟩;rcases VZ with rfl|VZ
  ·exact hw
  ·exact VZ
 ·rintro⟨F,h1,h2,h3⟩;obtain⟨c,hc,hw⟩:=GJ _ F (Nat.le_refl _) h1 (fun c hc=>um.1 (h2 c hc));exact⟨c,h3 c hc,List.contains_iff_mem.2 ((Fp _ _ _).2 hw)⟩
def PO:dI []=false:=by simp[dI,iG]
def QX{g:aS}(T:Typed g)(hf:g.au.all dI=true)(hp:∀x∈g.rules,x.parts.all (mR g.au.contains)=true):FU g=fj g:=by
 have hi:∀s,g.au.contains s=true->im g.au s=num g.au s:=fun s h=>by simp only[im,num,h,if_true]
 have h1:g.entries.map (Dg g.au)=g.entries.map (p9 g.au):=List.map_congr_left fun x hx=>by simp only[Dg,p9,hi _ (T.ent x hx)]
 have Wa:¬g.au.contains []=true:=fun h=>by
  have:=List.all_eq_true.1 hf [] (List.contains_iff_mem.1 h);rw[PO]at this;cases this
 have h2:g.rules.map (sO g.au)=g.rules.map (kk g.au):=List.map_congr_left fun x hx=>by
  have CI:x.parts.map (Dh g.au)=x.parts.map (tY g.au):=List.map_congr_left fun q hq=>by
   have R3:=List.all_eq_true.1 (hp x hx) q hq;by_cases ht:q.text=[]
   ·have hc:=T.part x hx q hq ht;obtain⟨k,hk,_⟩:=Xb hc;simp only[Dh,tY,ht,if_true,hi _ hc]
    congr 1;omega
   ·simp[mR,ht]at R3;simp only[Dh,tY,ht,if_false,R3.1,im,Wa];rfl
  simp only[sO,kk,hi _ (T.XE x hx),CI]
 simp only[FU,fj,h1,h2,hi _ T.start]
def I9(g:aS):jU g=c_ g:=by
 unfold jU c_;split
 ·rfl
 ·rw[OK];by_cases hn:g.au.Nodup
  ·cases ht:gC g.au.contains g
   ·simp[hn]
   ·have T:=Q_ ht;have h1:g.au.all dI=true:=by simp only[gC,bA]at ht;exact ht.2.2.1
    have h2:∀x∈g.rules,x.parts.all (mR g.au.contains)=true:=fun x hx=>by
     simp only[gC,bA,List.all_eq_true]at ht;have:=ht.2.2.2.2.2 x hx;simp only[iY,bA]at this;exact this.2.2.2.2.1
    simp[hn,O_ T,QX T h1 h2]
  ·simp[hn]
end Go.V.Ty
