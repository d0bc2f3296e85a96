/- Types: the reference's small functions. -/
import Derived.Test.YtkgloohlmogakaaGreatDoorB16
set_option linter.unusedSimpArgs false
set_option linter.unusedVariables false
set_option maxRecDepth 100000
namespace Go.V.Ty
open Go.Proofs Go.RowKit Go.V.Lx Go.V.Gr
theorem HF(c:UInt8):lI Tryz.prog (bK Tryz.prog) [] Tryz.f295 [.int .u8 (c.toNat:Int)] (.bool (isLt c.toNat)):=by
 refine aw _ [.tmp 2] _ rfl rfl rfl aj ?_;repeat' (first|with_reducible refine ar (fun _=>?_) (fun _=>?_)|with_reducible refine an (fun _=>?_) (fun _=>?_)|simp(disch:=omega) only[go_sem, *])
 all_goals
  refine ab (congrArg D.bool ?_);rw[Bool.eq_iff_iff];simp[isLt, *]<;>omega
theorem uh(c:UInt8):aq Tryz.prog 295 [.int .u8 (c.toNat:Int)] (.bool (isLt c.toNat)):=av mixed (HF c) rfl aj rfl
theorem He(c:UInt8):lI Tryz.prog (bK Tryz.prog) [] Tryz.f326 [.int .u8 (c.toNat:Int)] (.bool (r7 c.toNat)):=by
 refine aw _ [.tmp 2] _ rfl rfl rfl aj ?_;repeat' (first|with_reducible refine ar (fun _=>?_) (fun _=>?_)|with_reducible refine an (fun _=>?_) (fun _=>?_)|simp(disch:=omega) only[go_sem, *])
 all_goals
  refine ab (congrArg D.bool ?_);rw[Bool.eq_iff_iff];simp[r7, *]<;>omega
theorem zI(c:UInt8):aq Tryz.prog 326 [.int .u8 (c.toNat:Int)] (.bool (r7 c.toNat)):=av mixed (He c) rfl aj rfl
theorem MH(c:UInt8):lI Tryz.prog (bK Tryz.prog) [] Tryz.f296 [.int .u8 (c.toNat:Int)] (.bool (eO c)):=by
 refine aw _ [.tmp 2] _ rfl rfl rfl aj ?_;repeat' (first|with_reducible refine ar (fun _=>?_) (fun _=>?_)|with_reducible refine an (fun _=>?_) (fun _=>?_)|with_reducible refine br (uh c) sG ?_|with_reducible refine bw (uh c) sG ?_|with_reducible refine br (zI c) sG ?_|with_reducible refine bw (zI c) sG ?_|simp(disch:=omega) only[go_sem, *])
 all_goals
  refine ab (congrArg D.bool ?_);rw[Bool.eq_iff_iff];simp[eO, *]<;>omega
theorem MG(c:UInt8):aq Tryz.prog 296 [.int .u8 (c.toNat:Int)] (.bool (eO c)):=av mixed (MH c) rfl aj rfl
theorem J6(s:List UInt8)(hs:s.length<=140737488355328):lI Tryz.prog (bK Tryz.prog) [] Tryz.f247 [.str s] (.bool (fc s)):=by
 refine aw _ [.tmp 2] _ rfl rfl rfl aj ?_
 match s,hs with
 |[],hs=>
  repeat' (first|with_reducible refine ar (fun _=>?_) (fun _=>?_)|with_reducible refine an (fun _=>?_) (fun _=>?_)|simp(disch:=omega) only[go_sem, *])
  all_goals exact ab (by simp_all[fc])
 |c::r,hs=>
  have hx:(c::r)[0]? =some c:=rfl;have hl:(c::r).length=r.length+1:=rfl;by_cases h32:32<(((c::r).length:Nat):Int)
  ·have hb:fc (c::r)=false:=by
    have:¬(c::r).length<=32:=oM;simp only[fc,this,decide_false,Bool.false_and]
   have h1:¬(((c::r).length:Nat):Int)<1:=oM;generalize hz:c::r=z at *;rw[hb];have h1':decide (((z.length:Nat):Int)<1)=false:=by simp;omega
   have h32':decide (32<((z.length:Nat):Int))=true:=by simp;omega
   simp(disch:=omega) only[go_sem,h1',h32'];exact ab rfl
  ·have h1:¬(((c::r).length:Nat):Int)<1:=oM;have hlt:=uh c;by_cases hc:isLt c.toNat=true
   ·rw[hc]at hlt;have hnb:fc (c::r)=(c::r).all eO:=by
     have:(c::r).length<=32:=oM;simp only[fc,this,decide_true,hc,Bool.true_and]
    rw[hnb];clear hnb;generalize hz:c::r=z at *;have h1':decide (((z.length:Nat):Int)<1)=false:=by simp;omega
    have h32':decide (32<((z.length:Nat):Int))=false:=by simp;omega
    simp(disch:=omega) only[go_sem,h1',h32',hx];refine au hlt sG ?_;simp(disch:=omega) only[go_sem,h1',h32',hx];refine aX z.length (fun k σ _=>σ 0= .str z/\σ 3= .int .i64 k/\(z.take k).all eO=true)
     ⟨by simp[go_sem,aR],by simp[go_sem],by simp⟩ ?_ ?_
    ·rintro k σ bx hk ⟨h0,h3,hb⟩;obtain⟨x,hx⟩:=aP hk;simp(disch:=omega) only[go_sem,h0,h3];refine rN oM ?_;simp(disch:=omega) only[go_sem,h0,h3,hx];refine au (MG x) sG ?_;simp(disch:=omega) only[go_sem,h0,h3,hx];refine an (fun hp=>?_) (fun hp=>?_)
     ·simp(disch:=omega) only[go_sem,h0,h3,hx];rw[aK oM];exact⟨rfl,iF eO hx hb hp⟩
     ·simp(disch:=omega) only[go_sem,h0,h3,hx];exact ab (by rw[kW eO hx hp])
    ·rintro σ bx ⟨h0,h3,hb⟩;simp(disch:=omega) only[go_sem,h0,h3];refine zx oM ?_;simp(disch:=omega) only[go_sem,h0,h3];rw[List.take_length]at hb;exact ab (by rw[hb])
   ·have hc:isLt c.toNat=false:=by simpa using hc
    rw[hc]at hlt;have hb:fc (c::r)=false:=by simp only[fc,hc,Bool.and_false,Bool.false_and]
    rw[hb];clear hb;generalize hz:c::r=z at *;have h1':decide (((z.length:Nat):Int)<1)=false:=by simp;omega
    have h32':decide (32<((z.length:Nat):Int))=false:=by simp;omega
    simp(disch:=omega) only[go_sem,h1',h32',hx];refine au hlt sG ?_;simp(disch:=omega) only[go_sem,h1',h32',hx];exact ab rfl
theorem CF(s:List UInt8)(hs:s.length<=140737488355328):aq Tryz.prog 247 [.str s] (.bool (fc s)):=av mixed (J6 s hs) rfl aj rfl
theorem Nh(s:ah):aq Tryz.prog 327 [.str s] (.bool (p9.contains s)):=by
 refine av mixed (fn:=Tryz.f327) (tab:=[]) ?_ rfl aj rfl;refine aw _ [.tmp 2] _ rfl rfl rfl aj ?_;repeat' (first|with_reducible refine ar (fun _=>?_) (fun _=>?_)|with_reducible refine an (fun _=>?_) (fun _=>?_)|simp(disch:=omega) only[go_sem, *])
 all_goals
  refine ab (congrArg D.bool ?_);rw[Bool.eq_iff_iff,List.contains_iff_mem];simp[p9,Bm,yq,Gu,Jh,Rp,Gt,Jf,Jg, *]
theorem nK(s:ah)(hs:s.length<=140737488355328):aq Tryz.prog 297 [.str s] (.bool (cq s)):=by
 refine av mixed (fn:=Tryz.f297) (tab:=[]) ?_ rfl aj rfl;refine aw _ [.tmp 2] _ rfl rfl rfl aj ?_;simp(disch:=omega) only[go_sem];refine au (CF s hs) sG ?_;cases h:fc s
 ·simp(disch:=omega) only[go_sem,h];exact ab (by simp[cq,h])
 ·simp(disch:=omega) only[go_sem,h];refine au (Nh s) sG ?_;simp(disch:=omega) only[go_sem,h];exact ab (by simp[cq,h])
def eV(l:List ah)(t:ah):Int:=if l.contains t then(l.idxOf t:Int)else -1
theorem jm(l:List ah)(t:ah)(hl:l.length<=140737488355328):aq Tryz.prog 255 [strs l,.str t] (.int .i64 (eV l t)):=by
 refine av mixed (fn:=Tryz.f255) (tab:=[]) ?_ rfl aj rfl;refine aw _ [.tmp 4] _ rfl rfl rfl aj ?_;simp(disch:=omega) only[go_sem,strs];refine aX l.length (fun k σ bx=>σ 0=strs l/\σ 1= .str t/\σ 5= .int .i64 k/\¬t∈l.take k) ?_ ?_ ?_
 ·simp[go_sem,aR,strs]
 ·rintro k σ bx hk ⟨h0,h1,h5,hn⟩;obtain⟨x,hx⟩:=aP hk;have hlt:(k:Int)<(l.length:Int):=oM;have hk1:IntKind.i64.wrap ((k:Int)+1)=((k+1:Nat):Int):=aK oM;simp(disch:=omega) only[go_sem,h0,h1,h5,hlt,strs,hx];refine ar (fun h2=>?_) (fun h2=>?_)
  ·simp(disch:=omega) only[go_sem,h5];subst h2;obtain⟨g1,g2⟩:=rY l k _ hx hn;exact ab (by rw[eV,if_pos (by simpa using g2),g1])
  ·simp(disch:=omega) only[go_sem,h0,h1,h5,hk1,strs];intro hm;rw[List.take_add_one,hx]at hm;simp at hm;rcases hm with hm|hm
   ·exact hn hm
   ·exact h2 hm.symm
 ·rintro σ bx ⟨h0,h1,h5,hn⟩;have hlt:¬(l.length:Int)<(l.length:Int):=oM;simp(disch:=omega) only[go_sem,h0,h1,h5,hlt,strs];rw[List.take_length]at hn;exact ab (by rw[eV,if_neg (by simpa using hn)])
theorem Cs(l:List ah)(t:ah):decide (0<=eV l t)=l.contains t:=by
 unfold eV;split
 ·rename_i h;rw[h];simp
 ·rename_i h;simp at h;simp[h]
theorem uX(g:aO)(s:ah)(hg:g.cats.length<=140737488355328):aq Tryz.prog 298 [g.d,.str s] (.bool (g.cats.contains s)):=by
 refine av mixed (fn:=Tryz.f298) (tab:=[]) ?_ rfl aj rfl;refine aw _ [.tmp 4] _ rfl rfl rfl aj ?_;simp(disch:=omega) only[go_sem,aO.d,strs];refine au (jm g.cats s hg) (by simp[go_sem,strs,cr]) ?_;simp(disch:=omega) only[go_sem];exact ab (by rw[Cs])
theorem Cb(n:Int):aq Tryz.prog 328 [.int .i64 n] (.bool (dJ 0 1000 n)):=by
 refine av mixed (fn:=Tryz.f328) (tab:=[]) ?_ rfl aj rfl;refine aw _ [.tmp 2] _ rfl rfl rfl aj ?_;repeat' (first|with_reducible refine ar (fun _=>?_) (fun _=>?_)|with_reducible refine an (fun _=>?_) (fun _=>?_)|simp(disch:=omega) only[go_sem, *])
 all_goals
  refine ab (congrArg D.bool ?_);rw[Bool.eq_iff_iff];simp[dJ, *]<;>omega
theorem GJ(x:aC)(hx:x.parts.length<=140737488355328):aq Tryz.prog 301 [x.d] (.bool (fG x).isSome):=by
 refine av mixed (fn:=Tryz.f301) (tab:=[]) ?_ rfl aj rfl;refine aw _ [.tmp 2] _ rfl rfl rfl aj ?_;simp(disch:=omega) only[go_sem,aC.d];by_cases h1:(x.parts.length:Int)=1
 ·obtain⟨q,hq⟩:=List.length_eq_one_iff.1 (show x.parts.length=1 by omega);have hq0:x.parts[0]? =some q:=by rw[hq];rfl
  have hqd:q.d= .agg [.str q.cat,.int .i64 q.no,.str q.text]:=rfl;simp(disch:=omega) only[go_sem,h1,decide_true,hq0,hqd];exact ab (by simp only[fG,hq];by_cases ht:q.text=[]<;>simp[ht])
 ·simp(disch:=omega) only[go_sem,h1,decide_false];refine ab (congrArg D.bool ?_);unfold fG;split
  ·rename_i q hq;rw[hq]at h1;exact(h1 rfl).elim
  ·rfl
def jP(g:aO)(x:Part):Bool:=if x.text=[]then g.cats.contains x.cat else decide (x.cat=[])&&cq x.text
theorem HT(g:aO)(x:Part):jP g x=jb g.cats.contains x:=by
 unfold jP jb;by_cases h:x.text=[]<;>simp[h]
theorem J_(g:aO)(x:Part)(hg:g.cats.length<=140737488355328)(hx:Ex x):aq Tryz.prog 329 [g.d,x.d] (.bool (jP g x)):=by
 refine av mixed (fn:=Tryz.f329) (tab:=[]) ?_ rfl aj rfl;refine aw _ [.tmp 4] _ rfl rfl rfl aj ?_;simp(disch:=omega) only[go_sem,aO.d,strs,Part.d];refine ar (fun h=>?_) (fun h=>?_)
 ·simp(disch:=omega) only[go_sem,h,aO.d,strs,Part.d];refine au (uX g x.cat hg) (show D.aF [g.d,.str x.cat]=true by simp[D.aF,D.pure,gO]) ?_;simp(disch:=omega) only[go_sem];exact ab (by simp[jP,h])
 ·simp(disch:=omega) only[go_sem,h,Part.d];refine ar (fun h2=>?_) (fun h2=>?_)
  ·simp(disch:=omega) only[go_sem,h,h2,decide_true,Part.d];refine au (nK x.text hx.text) sG ?_;simp(disch:=omega) only[go_sem,h2,decide_true];exact ab (by simp[jP,h,h2])
  ·simp(disch:=omega) only[go_sem,h2,decide_false];exact ab (by simp[jP,h,h2])
def h_(x:aC)(y:ct):Bool:=if y.text=[]then decide (0<=y.part/\y.part<x.parts.length)&&(x.parts[y.part.toNat]?).any (fun q=>decide (q.text=[]))else decide (y.part=0)&&cq y.text
theorem JF(x:aC)(y:ct)(hy:small y.text)(hx:x.parts.length<=140737488355328):aq Tryz.prog 330 [x.d,y.d] (.bool (h_ x y)):=by
 refine av mixed (fn:=Tryz.f330) (tab:=[]) ?_ rfl aj rfl;refine aw _ [.tmp 4] _ rfl rfl rfl aj ?_;simp(disch:=omega) only[go_sem,aC.d,ct.d];refine ar (fun h=>?_) (fun h=>?_)
 ·simp(disch:=omega) only[go_sem];refine ar (fun h1=>?_) (fun h1=>?_)
  rotate_left
  ·simp(disch:=omega) only[go_sem,h1,decide_false];exact ab (by simp[h_,h,h1])
  simp(disch:=omega) only[go_sem,h1,decide_true];refine ar (fun h2=>?_) (fun h2=>?_)
  rotate_left
  ·simp(disch:=omega) only[go_sem,h1,h2,decide_true,decide_false];exact ab (by simp[h_,h,h2])
  obtain⟨k,hk⟩:∃k:Nat,y.part=k:=⟨y.part.toNat,by omega⟩
  obtain⟨q,hq⟩:=aP (show k<x.parts.length by omega);have hqd:q.d= .agg [.str q.cat,.int .i64 q.no,.str q.text]:=rfl;rw[hk]at h1 h2;simp(disch:=omega) only[go_sem,hk,h1,h2,decide_true,hq,hqd];exact ab (by simp[h_,h,hk,h2,hq])
 ·simp(disch:=omega) only[go_sem];refine ar (fun h1=>?_) (fun h1=>?_)
  ·simp(disch:=omega) only[go_sem,h1,decide_true];refine au (nK y.text hy) sG ?_;simp(disch:=omega) only[go_sem,h1,decide_true];exact ab (by simp[h_,h,h1])
  ·simp(disch:=omega) only[go_sem,h1,decide_false];exact ab (by simp[h_,h,h1])
theorem Hn(x:aC)(k:Nat)(hx:x.gives.length<=140737488355328):aq Tryz.prog 331 [x.d,.int .i64 k] (.int .i64 (bM x.gives k)):=by
 refine av mixed (fn:=Tryz.f331) (tab:=[]) ?_ rfl aj rfl;refine aw _ [.tmp 4] _ rfl rfl rfl aj ?_;have hxd:x.d= .agg [.str x.cat,.int .i64 x.no,.sl 3 (x.parts.map Part.d),.sl 2 (x.gives.map ct.d),.int .i64 x.cost]:=rfl;simp(disch:=omega) only[go_sem,hxd];refine aX x.gives.length (fun i σ bx=>σ 1= .int .i64 k/\σ 2= .loc 2 1 0 0/\σ 6= .int .i64 i/\σ 5= .int .i64 (bM (x.gives.take i) k)/\bx 2=⟨1,1,5,142,[x.d]⟩) ?_ ?_ ?_
 ·simp(disch:=omega) only[go_sem,hxd,List.take_zero];rfl
 ·rintro i σ bx hi ⟨q1,q2,q6,q5,b2⟩;obtain⟨y,hy⟩:=aP hi;have hlt:(i:Int)<(x.gives.length:Int):=oM;have hi1:IntKind.i64.wrap ((i:Int)+1)=((i+1:Nat):Int):=aK oM;have htk:x.gives.take (i+1)=x.gives.take i++[y]:=by rw[List.take_add_one,hy];rfl
  have hyd:y.d= .agg [.int .i64 y.part,.str y.text]:=rfl;have hle:=EX (x.gives.take i) k;have hle2:(x.gives.take i).length<=x.gives.length:=List.length_take_le' ..;have hc1:IntKind.i64.wrap ((bM (x.gives.take i) k:Int)+1)=((bM (x.gives.take i) k+1:Nat):Int):=aK oM;by_cases ht:y.text=[]
  ·by_cases hp:y.part=(k:Int)
   ·have:bM (x.gives.take (i+1)) k=bM (x.gives.take i) k+1:=by rw[htk,nW,if_pos ⟨ht,hp⟩]
    simp(disch:=omega) only[go_sem,q1,q2,q5,q6,hlt,hi1,hy,hyd,b2,hxd,ht,hp,decide_true,hc1,this]
   ·have:bM (x.gives.take (i+1)) k=bM (x.gives.take i) k:=by rw[htk,nW,if_neg (by simp[hp])];rfl
    simp(disch:=omega) only[go_sem,q1,q2,q5,q6,hlt,hi1,hy,hyd,b2,hxd,ht,hp,decide_true,decide_false,this]
  ·have:bM (x.gives.take (i+1)) k=bM (x.gives.take i) k:=by rw[htk,nW,if_neg (by simp[ht])];rfl
   simp(disch:=omega) only[go_sem,q1,q2,q5,q6,hlt,hi1,hy,hyd,b2,hxd,ht,decide_true,decide_false,this]
 ·rintro σ bx ⟨q1,q2,q6,q5,b2⟩;have hlt:¬(x.gives.length:Int)<(x.gives.length:Int):=oM;simp(disch:=omega) only[go_sem,q1,q2,q5,q6,hlt,b2,hxd];rw[List.take_length];exact .refl _
theorem I8(g:aO)(s:ah):D.aF [g.d,.str s]=true:=by simp[D.aF,D.pure,gO]
theorem G7(g:aO)(x:Entry)(hg:g.cats.length<=140737488355328)(hx:Ew x):aq Tryz.prog 299 [g.d,x.d] (.bool (dO g.cats.contains x)):=by
 refine av mixed (fn:=Tryz.f299) (tab:=[]) ?_ rfl aj rfl;refine aw _ [.tmp 4] _ rfl rfl rfl aj ?_;have hxd:x.d= .agg [.str x.text,.str x.cat,.int .i64 x.no,.sl 1 (x.gives.map D.str),.int .i64 x.cost]:=rfl;have hgd:g.d= .agg [.str g.name,.sl 1 (g.cats.map D.str),.str g.start,.int .i64 g.no,.sl 5 (g.entries.map Entry.d),.sl 5 (g.rules.map aC.d)]:=rfl;have hgl:=hx.len;simp(disch:=omega) only[go_sem,hxd,hgd];refine au (nK x.text hx.text) sG ?_;cases h1:cq x.text
 ·simp(disch:=omega) only[go_sem,Bool.not_false];exact ab (by simp[dO,h1])
 simp(disch:=omega) only[go_sem,Bool.not_true,hgd];refine au (uX g x.cat hg) (I8 g x.cat) ?_;cases h2:g.cats.contains x.cat
 ·simp(disch:=omega) only[go_sem,Bool.not_false,Bool.not_true];exact ab (by simp only[dO,h1,h2,Bool.false_and,Bool.and_false])
 simp(disch:=omega) only[go_sem,Bool.not_true];by_cases h3:(x.gives.length:Int)<1
 ·simp(disch:=omega) only[go_sem,h3,decide_true,Bool.not_true];exact ab (by
   have:dJ 1 4 x.gives.length=false:=by simp[dJ];omega
   simp only[dO,this,Bool.false_and,Bool.and_false])
 by_cases h4:(4:Int)<(x.gives.length:Int)
 ·simp(disch:=omega) only[go_sem,h3,h4,decide_true,decide_false,Bool.not_true];exact ab (by
   have:dJ 1 4 x.gives.length=false:=by simp[dJ];omega
   simp only[dO,this,Bool.false_and,Bool.and_false])
 have h34:dJ 1 4 x.gives.length=true:=by simp[dJ];omega
 simp(disch:=omega) only[go_sem,h3,h4,decide_false,Bool.not_true];refine au (Cb x.cost) sG ?_;cases h5:dJ 0 1000 x.cost
 ·simp(disch:=omega) only[go_sem,h3,h4,decide_false,Bool.not_true,Bool.not_false];exact ab (by simp only[dO,h5,Bool.false_and,Bool.and_false])
 have he:dO g.cats.contains x=x.gives.all cq:=by simp only[dO,h1,h2,h34,h5,Bool.true_and,Bool.and_true]
 rw[he];simp(disch:=omega) only[go_sem,h3,h4,decide_false,Bool.not_true];refine aX x.gives.length (fun i σ bx=>σ 3= .loc 3 1 0 0/\σ 5= .int .i64 i/\bx 3=⟨1,1,5,138,[x.d]⟩/\(x.gives.take i).all cq=true) ?_ ?_ ?_
 ·simp(disch:=omega) only[go_sem,hxd,List.take_zero,List.all_nil]
 ·rintro i σ bx hi ⟨q3,q5,b3,hb⟩;obtain⟨y,hy⟩:=aP hi;have hlt:(i:Int)<(x.gives.length:Int):=oM;have hi1:IntKind.i64.wrap ((i:Int)+1)=((i+1:Nat):Int):=aK oM;simp(disch:=omega) only[go_sem,q3,q5,hlt,b3,hxd,hy];refine au (nK y (hx.gives y (List.mem_of_getElem? hy))) sG ?_;cases hf:cq y
  ·simp(disch:=omega) only[go_sem,Bool.not_false];exact ab (by rw[kW cq hy hf])
  ·simp(disch:=omega) only[go_sem,Bool.not_true,q3,q5,hi1,b3];exact iF cq hy hb hf
 ·rintro σ bx ⟨q3,q5,b3,hb⟩;have hlt:¬(x.gives.length:Int)<(x.gives.length:Int):=oM;rw[List.take_length]at hb;simp(disch:=omega) only[go_sem,q3,q5,hlt,b3,hxd];exact ab (by rw[hb])
def cR(x:aC)(i:Nat):Bool:=(x.parts[i]?).all fun q=> !decide (q.text=[])||decide (bM x.gives i=1)
def gm(g:aO)(x:aC):Bool:=g.cats.contains x.cat&&(dJ 1 4 x.parts.length&&(dJ 1 8 x.gives.length&&(dJ 0 1000 x.cost&&(x.parts.all (jP g)&&(x.gives.all (h_ x)&&(List.range x.parts.length).all (cR x))))))
theorem pp{a b:D}(ha:a.pure=true)(hb:b.pure=true):D.aF [a,b]=true:=by simp[D.aF,ha,hb]
theorem AN(x:aC):x.d.pure=true:=by simp[aC.d,D.pure,D.aF,iw,kO]
theorem ML(x:Entry):x.d.pure=true:=by simp[Entry.d,D.pure,D.aF,strs,cr]
set_option maxHeartbeats 4000000 in
theorem Kg(g:aO)(x:aC)(hg:g.cats.length<=140737488355328)(hx:BZ x):aq Tryz.prog 300 [g.d,x.d] (.bool (gm g x)):=by
 refine av mixed (fn:=Tryz.f300) (tab:=[]) ?_ rfl aj rfl;refine aw _ [.tmp 4] _ rfl rfl rfl aj ?_;have hxd:x.d= .agg [.str x.cat,.int .i64 x.no,.sl 3 (x.parts.map Part.d),.sl 2 (x.gives.map ct.d),.int .i64 x.cost]:=rfl;have hgd:g.d= .agg [.str g.name,.sl 1 (g.cats.map D.str),.str g.start,.int .i64 g.no,.sl 5 (g.entries.map Entry.d),.sl 5 (g.rules.map aC.d)]:=rfl;have hpl:=hx.plen;have hgl:=hx.glen;simp(disch:=omega) only[go_sem,hxd,hgd];refine au (uX g x.cat hg) (I8 g x.cat) ?_;cases h1:g.cats.contains x.cat
 ·simp(disch:=omega) only[go_sem,Bool.not_false];exact ab (by simp only[gm,h1,Bool.false_and])
 simp(disch:=omega) only[go_sem,Bool.not_true];by_cases h2:(x.parts.length:Int)<1
 ·simp(disch:=omega) only[go_sem,h2,decide_true,Bool.not_true];exact ab (by
   have:dJ 1 4 x.parts.length=false:=by simp[dJ];omega
   simp only[gm,this,Bool.false_and,Bool.and_false])
 by_cases h3:(4:Int)<(x.parts.length:Int)
 ·simp(disch:=omega) only[go_sem,h2,h3,decide_true,decide_false,Bool.not_true];exact ab (by
   have:dJ 1 4 x.parts.length=false:=by simp[dJ];omega
   simp only[gm,this,Bool.false_and,Bool.and_false])
 have h23:dJ 1 4 x.parts.length=true:=by simp[dJ];omega
 by_cases h4:(x.gives.length:Int)<1
 ·simp(disch:=omega) only[go_sem,h2,h3,h4,decide_true,decide_false,Bool.not_true];exact ab (by
   have:dJ 1 8 x.gives.length=false:=by simp[dJ];omega
   simp only[gm,this,Bool.false_and,Bool.and_false])
 by_cases h5:(8:Int)<(x.gives.length:Int)
 ·simp(disch:=omega) only[go_sem,h2,h3,h4,h5,decide_true,decide_false,Bool.not_true];exact ab (by
   have:dJ 1 8 x.gives.length=false:=by simp[dJ];omega
   simp only[gm,this,Bool.false_and,Bool.and_false])
 have h45:dJ 1 8 x.gives.length=true:=by simp[dJ];omega
 simp(disch:=omega) only[go_sem,h2,h3,h4,h5,decide_false,Bool.not_true];refine au (Cb x.cost) sG ?_;cases h6:dJ 0 1000 x.cost
 ·simp(disch:=omega) only[go_sem,h2,h3,h4,h5,decide_false,Bool.not_true,Bool.not_false];exact ab (by simp only[gm,h6,Bool.false_and,Bool.and_false])
 have he:gm g x=(x.parts.all (jP g)&&(x.gives.all (h_ x)&&(List.range x.parts.length).all (cR x))):=by simp only[gm,h1,h23,h45,h6,Bool.true_and]
 rw[he];simp(disch:=omega) only[go_sem,h2,h3,h4,h5,decide_false,Bool.not_true];refine aX x.parts.length (fun i σ bx=>σ 2= .loc 2 1 0 0/\σ 3= .loc 3 1 0 0/\σ 5= .int .i64 i/\bx 2=⟨1,1,6,81,[g.d]⟩/\bx 3=⟨1,1,5,142,[x.d]⟩/\(x.parts.take i).all (jP g)=true) ?_ ?_ ?_
 ·simp(disch:=omega) only[go_sem,hxd,hgd,List.take_zero,List.all_nil]
 ·rintro i σ bx hi ⟨q2,q3,q5,b2,b3,hb⟩;obtain⟨y,hy⟩:=aP hi;have hlt:(i:Int)<(x.parts.length:Int):=oM;have hi1:IntKind.i64.wrap ((i:Int)+1)=((i+1:Nat):Int):=aK oM;have hyd:y.d= .agg [.str y.cat,.int .i64 y.no,.str y.text]:=rfl;simp(disch:=omega) only[go_sem,q2,q3,q5,hlt,b2,b3,hxd,hgd,hy,hyd];refine au (J_ g y hg (hx.parts y (List.mem_of_getElem? hy))) (pp (gO g) rfl) ?_;cases hf:jP g y
  ·simp(disch:=omega) only[go_sem,Bool.not_false];exact ab (by rw[kW (jP g) hy hf,Bool.false_and])
  ·simp(disch:=omega) only[go_sem,Bool.not_true,q2,q3,q5,hi1,b2,b3];exact iF (jP g) hy hb hf
 ·rintro σ bx ⟨q2,q3,q5,b2,b3,hb⟩;have hlt:¬(x.parts.length:Int)<(x.parts.length:Int):=oM;rw[List.take_length]at hb;rw[hb,Bool.true_and];simp(disch:=omega) only[go_sem,q2,q3,q5,hlt,b3,hxd];refine aX x.gives.length (fun i σ bx=>σ 3= .loc 3 1 0 0/\σ 6= .int .i64 i/\bx 3=⟨1,1,5,142,[x.d]⟩/\(x.gives.take i).all (h_ x)=true) ?_ ?_ ?_
  ·simp(disch:=omega) only[go_sem,q3,b3,hxd,List.take_zero,List.all_nil]
  ·rintro i σ bx hi ⟨q3,q6,b3,hb⟩;obtain⟨y,hy⟩:=aP hi;have hlt:(i:Int)<(x.gives.length:Int):=oM;have hi1:IntKind.i64.wrap ((i:Int)+1)=((i+1:Nat):Int):=aK oM;have hyd:y.d= .agg [.int .i64 y.part,.str y.text]:=rfl;simp(disch:=omega) only[go_sem,q3,q6,hlt,b3,hxd,hy,hyd];refine au (JF x y (hx.gives y (List.mem_of_getElem? hy)) hpl) (pp (AN x) rfl) ?_;cases hf:h_ x y
   ·simp(disch:=omega) only[go_sem,Bool.not_false];exact ab (by rw[kW (h_ x) hy hf,Bool.false_and])
   ·simp(disch:=omega) only[go_sem,Bool.not_true,q3,q6,hi1,b3];exact iF (h_ x) hy hb hf
  ·rintro σ bx ⟨q3,q6,b3,hb⟩;have hlt:¬(x.gives.length:Int)<(x.gives.length:Int):=oM;rw[List.take_length]at hb;rw[hb,Bool.true_and];simp(disch:=omega) only[go_sem,q3,q6,hlt,b3,hxd];refine aX x.parts.length (fun i σ bx=>σ 3= .loc 3 1 0 0/\σ 7= .int .i64 i/\bx 3=⟨1,1,5,142,[x.d]⟩/\∀k,k<i->cR x k=true) ?_ ?_ ?_
   ·simp(disch:=omega) only[go_sem,q3,b3,hxd];exact fun k hk=>by omega
   ·rintro i σ bx hi ⟨q3,q7,b3,hb⟩;obtain⟨y,hy⟩:=aP hi;have hlt:(i:Int)<(x.parts.length:Int):=oM;have hi1:IntKind.i64.wrap ((i:Int)+1)=((i+1:Nat):Int):=aK oM;have hyd:y.d= .agg [.str y.cat,.int .i64 y.no,.str y.text]:=rfl;have hno:cR x i=false->(List.range x.parts.length).all (cR x)=false:=fun h=>by rw[List.all_eq_false];exact⟨i,List.mem_range.2 hi,by simp[h]⟩
    have hyes:cR x i=true->∀k,k<i+1->cR x k=true:=fun h k hk=>by
     by_cases e:k=i
     ·rw[e];exact h
     ·exact hb k oM
    by_cases ht:y.text=[]
    ·simp(disch:=omega) only[go_sem,q3,q7,hlt,b3,hxd,hy,hyd,ht,decide_true];refine au (Hn x i hgl) (pp (AN x) rfl) ?_;by_cases hc:(bM x.gives i:Int)=1
     ·have hcr:cR x i=true:=by simp only[cR,hy,Option.all_some,ht];simp;omega
      simp(disch:=omega) only[go_sem,hc,ht,decide_true,Bool.not_true,q3,q7,hi1,b3];exact hyes hcr
     ·have hcr:cR x i=false:=by simp only[cR,hy,Option.all_some,ht];simp;omega
      simp(disch:=omega) only[go_sem,hc,ht,decide_true,decide_false,Bool.not_false];exact ab (by rw[hno hcr])
    ·have hcr:cR x i=true:=by simp[cR,hy,ht]
     simp(disch:=omega) only[go_sem,q3,q7,hlt,b3,hxd,hy,hyd,ht,decide_false,hi1];exact hyes hcr
   ·rintro σ bx ⟨q3,q7,b3,hb⟩;have hlt:¬(x.parts.length:Int)<(x.parts.length:Int):=oM;simp(disch:=omega) only[go_sem,q3,q7,hlt,b3,hxd];exact ab (by rw[List.all_eq_true.2 fun k hk=>hb k (List.mem_range.1 hk)])
theorem H6(g:aO)(x:aC):gm g x=ft g.cats.contains x:=by
 have h1:x.parts.all (jP g)=x.parts.all (jb g.cats.contains):=by congr 1;funext q;exact HT g q
 have h2:(x.gives.all (h_ x)&&(List.range x.parts.length).all (cR x))=(x.gives.all (gG x.parts.length)&&ko x):=by
  rw[Bool.eq_iff_iff];simp only[Bool.and_eq_true,List.all_eq_true,ko,List.mem_range];constructor
  ·rintro⟨a,b⟩;refine⟨fun y hy=>?_,fun i hi=>?_⟩
   ·have:=a y hy;unfold h_ at this;unfold gG;split
    ·rename_i ht;rw[if_pos ht]at this;simp[dJ]at this⊢;omega
    ·rename_i ht;rw[if_neg ht]at this;exact this
   ·obtain⟨q,hq⟩:=aP hi;have hb:=b i hi;simp only[cR,hq,Option.all_some]at hb;rw[uV hq];by_cases ht:q.text=[]
    ·simp[ht]at hb;simp[ht,hb]
    ·have:bM x.gives i=0:=by
      rw[bM,List.countP_eq_zero];intro y hy hc;simp only[Bool.and_eq_true,decide_eq_true_eq]at hc;have:=a y hy;rw[h_,if_pos hc.1,hc.2,Int.toNat_natCast,hq]at this;simp[ht]at this
     simp[ht,this]
  ·rintro⟨a,b⟩;refine⟨fun y hy=>?_,fun i hi=>?_⟩
   ·have:=a y hy;unfold gG at this;unfold h_;split
    ·rename_i ht;rw[if_pos ht]at this;simp[dJ]at this;obtain⟨k,hk⟩:∃k:Nat,y.part=k:=⟨y.part.toNat,by omega⟩
     have hkl:k<x.parts.length:=oM;obtain⟨q,hq⟩:=aP hkl;have hb:=b k hkl;rw[uV hq]at hb;have hpos:0<bM x.gives k:=List.countP_pos_iff.2 ⟨y,hy,by simp[ht,hk]⟩;simp only[Bool.and_eq_true,decide_eq_true_eq,beq_iff_eq,decide_eq_decide]at hb;have hqt:=hb.2.1 oM;rw[hk,Int.toNat_natCast,hq];simp[hqt,hkl]
    ·rename_i ht;rw[if_neg ht]at this;exact this
   ·obtain⟨q,hq⟩:=aP hi;have hb:=b i hi;rw[uV hq]at hb;simp only[Bool.and_eq_true,decide_eq_true_eq,beq_iff_eq,decide_eq_decide]at hb;simp only[cR,hq,Option.all_some];by_cases ht:q.text=[]
    ·have:=hb.2.2 ht;simp[ht];omega
    ·simp[ht]
 simp only[gm,ft,h1,h2]
def nV(l:List ah)(i:Nat):Bool:=(l[i]?).all fun c=>cq c&&decide (eV l c=(i:Int))
def j8(g:aO):Bool:=cq g.name&&(decide (0<g.cats.length)&&(g.cats.contains g.start&&((List.range g.cats.length).all (nV g.cats)&&(g.entries.all (dO g.cats.contains)&&g.rules.all (gm g)))))
set_option maxHeartbeats 4000000 in
theorem Iv(g:aO)(hg:iZ g):aq Tryz.prog 254 [g.d] (.bool (j8 g)):=by
 refine av mixed (fn:=Tryz.f254) (tab:=[]) ?_ rfl aj rfl;refine aw _ [.tmp 2] _ rfl rfl rfl aj ?_;have hgd:g.d= .agg [.str g.name,.sl 1 (g.cats.map D.str),.str g.start,.int .i64 g.no,.sl 5 (g.entries.map Entry.d),.sl 5 (g.rules.map aC.d)]:=rfl;have hcl:=hg.clen;have hel:=hg.elen;have hrl:=hg.rlen;simp(disch:=omega) only[go_sem,hgd];refine au (nK g.name hg.name) sG ?_;cases h1:cq g.name
 ·simp(disch:=omega) only[go_sem,Bool.not_false];exact ab (by simp only[j8,h1,Bool.false_and])
 simp(disch:=omega) only[go_sem,Bool.not_true,hgd];by_cases h2:(g.cats.length:Int)<1
 ·simp(disch:=omega) only[go_sem,h2,decide_true,Bool.not_true];exact ab (by rw[j8,decide_eq_false (show ¬0<g.cats.length by omega),Bool.false_and,Bool.and_false])
 have h2':decide (0<g.cats.length)=true:=decide_eq_true oM;simp(disch:=omega) only[go_sem,h2,decide_false,Bool.not_true,hgd];refine au (uX g g.start hcl) (I8 g g.start) ?_;cases h3:g.cats.contains g.start
 ·simp(disch:=omega) only[go_sem,h2,decide_false,Bool.not_true,Bool.not_false];exact ab (by simp only[j8,h3,Bool.false_and,Bool.and_false])
 have he:j8 g=((List.range g.cats.length).all (nV g.cats)&&(g.entries.all (dO g.cats.contains)&&g.rules.all (gm g))):=by simp only[j8,h1,h2',h3,Bool.true_and]
 rw[he];simp(disch:=omega) only[go_sem,h2,decide_false,Bool.not_true];refine aX g.cats.length (fun i σ bx=>σ 1= .loc 1 1 0 0/\σ 3= .int .i64 i/\bx 1=⟨1,1,6,81,[g.d]⟩/\∀k,k<i->nV g.cats k=true) ?_ ?_ ?_
 ·simp(disch:=omega) only[go_sem,hgd];exact fun k hk=>by omega
 ·rintro i σ bx hi ⟨q1,q3,b1,hb⟩;obtain⟨y,hy⟩:=aP hi;have hlt:(i:Int)<(g.cats.length:Int):=oM;have hi1:IntKind.i64.wrap ((i:Int)+1)=((i+1:Nat):Int):=aK oM;have hno:nV g.cats i=false->(List.range g.cats.length).all (nV g.cats)=false:=fun h=>by rw[List.all_eq_false];exact⟨i,List.mem_range.2 hi,by simp[h]⟩
  simp(disch:=omega) only[go_sem,q1,q3,hlt,b1,hgd,hy];refine au (nK y (hg.cats y (List.mem_of_getElem? hy))) sG ?_;cases hf:cq y
  ·simp(disch:=omega) only[go_sem,Bool.not_false];exact ab (by rw[hno (by simp[nV,hy,hf]),Bool.false_and])
  simp(disch:=omega) only[go_sem,Bool.not_true,q1,q3,hlt,b1,hgd,hy];refine au (jm g.cats y hcl) (by simp[go_sem,strs,cr]) ?_;by_cases hx:eV g.cats y=(i:Int)
  ·simp(disch:=omega) only[go_sem,hx,decide_true,Bool.not_true,q1,q3,hi1,b1,hgd];intro k hk;by_cases e:k=i
   ·rw[e];simp[nV,hy,hf,hx]
   ·exact hb k oM
  ·simp(disch:=omega) only[go_sem,hx,q3,decide_false,Bool.not_false,Bool.not_true];exact ab (by rw[hno (by simp[nV,hy,hf,hx]),Bool.false_and])
 ·rintro σ bx ⟨q1,q3,b1,hb⟩;have hlt:¬(g.cats.length:Int)<(g.cats.length:Int):=oM;rw[List.all_eq_true.2 fun k hk=>hb k (List.mem_range.1 hk),Bool.true_and];simp(disch:=omega) only[go_sem,q1,q3,hlt,b1,hgd];refine aX g.entries.length (fun i σ bx=>σ 1= .loc 1 1 0 0/\σ 4= .int .i64 i/\bx 1=⟨1,1,6,81,[g.d]⟩/\(g.entries.take i).all (dO g.cats.contains)=true) ?_ ?_ ?_
  ·simp(disch:=omega) only[go_sem,q1,b1,hgd,List.take_zero,List.all_nil]
  ·rintro i σ bx hi ⟨q1,q4,b1,hb⟩;obtain⟨y,hy⟩:=aP hi;have hlt:(i:Int)<(g.entries.length:Int):=oM;have hi1:IntKind.i64.wrap ((i:Int)+1)=((i+1:Nat):Int):=aK oM;have hyd:y.d= .agg [.str y.text,.str y.cat,.int .i64 y.no,.sl 1 (y.gives.map D.str),.int .i64 y.cost]:=rfl;simp(disch:=omega) only[go_sem,q1,q4,hlt,b1,hgd,hy,hyd];refine au (G7 g y hcl (hg.ents y (List.mem_of_getElem? hy))) (pp (gO g) (ML y)) ?_;cases hf:dO g.cats.contains y
   ·simp(disch:=omega) only[go_sem,Bool.not_false];exact ab (by rw[kW (dO g.cats.contains) hy hf,Bool.false_and])
   ·simp(disch:=omega) only[go_sem,Bool.not_true,q1,q4,hi1,b1,hgd];exact iF (dO g.cats.contains) hy hb hf
  ·rintro σ bx ⟨q1,q4,b1,hb⟩;have hlt:¬(g.entries.length:Int)<(g.entries.length:Int):=oM;rw[List.take_length]at hb;rw[hb,Bool.true_and];simp(disch:=omega) only[go_sem,q1,q4,hlt,b1,hgd];refine aX g.rules.length (fun i σ bx=>σ 1= .loc 1 1 0 0/\σ 5= .int .i64 i/\bx 1=⟨1,1,6,81,[g.d]⟩/\(g.rules.take i).all (gm g)=true) ?_ ?_ ?_
   ·simp(disch:=omega) only[go_sem,q1,b1,hgd,List.take_zero,List.all_nil]
   ·rintro i σ bx hi ⟨q1,q5,b1,hb⟩;obtain⟨y,hy⟩:=aP hi;have hlt:(i:Int)<(g.rules.length:Int):=oM;have hi1:IntKind.i64.wrap ((i:Int)+1)=((i+1:Nat):Int):=aK oM;have hyd:y.d= .agg [.str y.cat,.int .i64 y.no,.sl 3 (y.parts.map Part.d),.sl 2 (y.gives.map ct.d),.int .i64 y.cost]:=rfl;simp(disch:=omega) only[go_sem,q1,q5,hlt,b1,hgd,hy,hyd];refine au (Kg g y hcl (hg.rules y (List.mem_of_getElem? hy))) (pp (gO g) (AN y)) ?_;cases hf:gm g y
    ·simp(disch:=omega) only[go_sem,Bool.not_false];exact ab (by rw[kW (gm g) hy hf])
    ·simp(disch:=omega) only[go_sem,Bool.not_true,q1,q5,hi1,b1,hgd];exact iF (gm g) hy hb hf
   ·rintro σ bx ⟨q1,q5,b1,hb⟩;have hlt:¬(g.rules.length:Int)<(g.rules.length:Int):=oM;rw[List.take_length]at hb;simp(disch:=omega) only[go_sem,q1,q5,hlt,b1,hgd];exact ab (by rw[hb])
theorem Js(l:List ah):(List.range l.length).all (nV l)=(decide l.Nodup&&l.all cq):=by
 rw[Bool.eq_iff_iff];simp only[Bool.and_eq_true,List.all_eq_true,decide_eq_true_eq,List.mem_range];constructor
 ·intro h;have hi:∀(i:Nat) c,l[i]? =some c->cq c=true/\l.idxOf c=i:=fun i c hc=>by
   have:=h i (List.getElem?_eq_some_iff.1 hc).1;simp only[nV,hc,Option.all_some,Bool.and_eq_true,decide_eq_true_eq,eV,List.contains_iff_mem.2 (List.mem_of_getElem? hc),if_true]at this;exact⟨this.1,by omega⟩
  refine⟨?_,fun c hc=>?_⟩
  ·refine List.pairwise_iff_getElem.2 fun i j hil hjl hij he=>?_;have h1:=(hi j l[j] (List.getElem?_eq_getElem hjl)).2;have h2:=(hi i l[i] (List.getElem?_eq_getElem hil)).2;rw[he]at h2;omega
  ·obtain⟨i,hc⟩:=List.mem_iff_getElem?.1 hc;exact(hi i c hc).1
 ·rintro⟨h1,h2⟩ i hi;obtain⟨c,hc⟩:=aP hi;have:=(rY l i c hc (Aq h1 hc)).1;simp only[nV,hc,Option.all_some,Bool.and_eq_true,decide_eq_true_eq,eV,List.contains_iff_mem.2 (List.mem_of_getElem? hc),if_true];exact⟨h2 c (List.mem_of_getElem? hc),by omega⟩
theorem Gl(g:aO):j8 g=(decide g.cats.Nodup&&eA g.cats.contains g):=by
 have h1:g.rules.all (gm g)=g.rules.all (ft g.cats.contains):=by congr 1;funext x;exact H6 g x
 simp only[j8,eA,Js,h1];cases cq g.name<;>cases decide (0<g.cats.length)<;>cases g.cats.contains g.start<;>cases decide g.cats.Nodup<;>cases g.cats.all cq<;>simp
end Go.V.Ty
