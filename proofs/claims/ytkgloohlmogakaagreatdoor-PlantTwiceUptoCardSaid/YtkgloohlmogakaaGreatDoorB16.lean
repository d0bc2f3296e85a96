/- Types: the reference's equality and smallness. -/
import Derived.Test.YtkgloohlmogakaaGreatDoorB15
import Derived.Test.YtkgloohlmogakaaGreatDoorVE
set_option linter.unusedSimpArgs false
set_option linter.unusedVariables false
set_option maxRecDepth 100000
namespace Go.V.Ty
open Go.Proofs Go.RowKit Go.V.Lx Go.V.Gr
set_option maxHeartbeats 1000000
theorem pX{α:Type}{l m:List α}{k:Nat}{x y:α}(hx:l[k]? =some x)(hy:m[k]? =some y)(h:¬x=y):¬l=m:=fun e=>by
 rw[e,hy]at hx;exact h (Option.some.inj hx).symm
theorem Ha(l m:List ah)(hl:l.length<=140737488355328)(hm:m.length<=140737488355328):lI Tryz.prog (bK Tryz.prog) [] Tryz.f116 [strs l,strs m] (.bool (decide (l=m))):=by
 refine aw _ [.tmp 4] _ rfl rfl rfl aj ?_;simp(disch:=omega) only[go_sem,strs];refine ar (fun h1=>?_) (fun h1=>?_)
 ·have h1:l.length=m.length:=oM;simp(disch:=omega) only[go_sem];refine aX l.length (fun k σ bx=>σ 0=strs l/\σ 1=strs m/\σ 5= .int .i64 k/\l.take k=m.take k) ?_ ?_ ?_
  ·simp[go_sem,aR,strs]
  ·rintro k σ bx hk ⟨h0,h1',h8,hn⟩;obtain⟨x,hx⟩:=aP hk;obtain⟨y,hy⟩:=aP (show k<m.length by omega);have hlt:(k:Int)<(l.length:Int):=oM;have hlt2:(k:Int)<(m.length:Int):=oM;repeat' (first|with_reducible refine ar (fun _=>?_) (fun _=>?_)|with_reducible refine an (fun _=>?_) (fun _=>?_)|simp(disch:=omega) only[go_sem, *,h0,h1',h8,hlt,hlt2,strs,hx,hy])
   ·rename_i hxy;rw[aK oM];exact⟨rfl,nP hx hy hn hxy⟩
   ·rename_i hxy;exact ab (congrArg D.bool (decide_eq_false (pX hx hy hxy)).symm)
  ·rintro σ bx ⟨h0,h1',h8,hn⟩;have hlt:¬(l.length:Int)<(l.length:Int):=oM;simp(disch:=omega) only[go_sem,h0,h1',h8,hlt,strs];rw[List.take_length,h1,List.take_length]at hn;exact ab (congrArg D.bool (decide_eq_true hn).symm)
 ·have:¬l=m:=fun e=>h1 (by rw[e]);exact ab (congrArg D.bool (decide_eq_false this).symm)
theorem zG(l m:List ah)(hl:l.length<=140737488355328)(hm:m.length<=140737488355328):aq Tryz.prog 116 [strs l,strs m] (.bool (decide (l=m))):=av mixed (Ha l m hl hm) rfl aj rfl
theorem H_(x y:Entry)(hx:x.gives.length<=140737488355328)(hy:y.gives.length<=140737488355328):lI Tryz.prog (bK Tryz.prog) [] Tryz.f117 [x.d,y.d] (.bool (decide (x=y))):=by
 refine aw _ [.tmp 4] _ rfl rfl rfl aj ?_;have hq:=zG x.gives y.gives hx hy;simp only[strs]at hq;obtain⟨a,b,c,d,e⟩:=x;obtain⟨a',b',c',d',e'⟩:=y;simp only at hq hx hy;repeat' (first|with_reducible refine ar (fun _=>?_) (fun _=>?_)|with_reducible refine an (fun _=>?_) (fun _=>?_)|with_reducible refine br (hq) sG ?_|with_reducible refine bw (hq) sG ?_|simp(disch:=omega) only[go_sem, *,Entry.d,strs])
 all_goals (refine ab (congrArg D.bool ?_);simp[*];done)
theorem H9(x y:Entry)(hx:x.gives.length<=140737488355328)(hy:y.gives.length<=140737488355328):aq Tryz.prog 117 [x.d,y.d] (.bool (decide (x=y))):=av mixed (H_ x y hx hy) rfl aj rfl
theorem Ib(x y:aC)(hx:x.parts.length<=140737488355328/\x.gives.length<=140737488355328)(hy:y.parts.length<=140737488355328/\y.gives.length<=140737488355328):lI Tryz.prog (bK Tryz.prog) [] Tryz.f118 [x.d,y.d] (.bool (decide (x=y))):=by
 refine aw _ [.tmp 4] _ rfl rfl rfl aj ?_;obtain⟨a,b,c,d,e⟩:=x;obtain⟨a',b',c',d',e'⟩:=y;simp only at hx hy;repeat' (first|with_reducible refine ar (fun _=>?_) (fun _=>?_)|with_reducible refine an (fun _=>?_) (fun _=>?_)|simp(disch:=omega) only[go_sem, *,aC.d])
 case refine_1.refine_1.refine_1.refine_1.refine_1=>
  rename_i e1 e2 e3 e4 e5;have e4:c.length=c'.length:=oM;have e5:d.length=d'.length:=oM;refine aX c.length (fun k σ bx=>σ 2= .loc 2 1 0 0/\σ 3= .loc 3 1 0 0/\σ 5= .int .i64 k/\bx 2=⟨1,1,5,142,[.agg [.str a,.int .i64 b,.sl 3 (c.map Part.d),.sl 2 (d.map ct.d),.int .i64 e]]⟩/\bx 3=⟨1,1,5,142,[.agg [.str a',.int .i64 b',.sl 3 (c'.map Part.d),.sl 2 (d'.map ct.d),.int .i64 e']]⟩/\c.take k=c'.take k) ?_ ?_ ?_
  ·simp[go_sem,aR,ao,Bx.none]
  ·rintro k σ bx hk ⟨h2,h3,h5,b2,b3,hn⟩;obtain⟨x,hx⟩:=aP hk;obtain⟨y,hy⟩:=aP (show k<c'.length by omega);have hlt:(k:Int)<(c.length:Int):=oM;have hlt2:(k:Int)<(c'.length:Int):=oM;obtain⟨x1,x2,x3⟩:=x;obtain⟨y1,y2,y3⟩:=y;repeat' (first|with_reducible refine ar (fun _=>?_) (fun _=>?_)|with_reducible refine an (fun _=>?_) (fun _=>?_)|simp(disch:=omega) only[go_sem, *,h2,h3,h5,b2,b3,hlt,hx,hy,Part.d])
   ·rename_i hxy;rw[aK oM];exact⟨rfl,nP hx hy hn (by simpa using hxy)⟩
   ·rename_i hxy;refine ab (congrArg D.bool (decide_eq_false fun e=>pX hx hy (fun h=>?_) (by injection e)).symm);injection h
    subst_vars
    simp at hxy
  ·rintro σ bx ⟨h2,h3,h5,b2,b3,hn⟩;have hlt:¬(c.length:Int)<(c.length:Int):=oM;rw[List.take_length,e4,List.take_length]at hn;simp(disch:=omega) only[go_sem,h2,h3,h5,b2,b3,hlt];refine aX d.length (fun k σ bx=>σ 2= .loc 2 1 0 0/\σ 3= .loc 3 1 0 0/\σ 6= .int .i64 k/\bx 2=⟨1,1,5,142,[.agg [.str a,.int .i64 b,.sl 3 (c.map Part.d),.sl 2 (d.map ct.d),.int .i64 e]]⟩/\bx 3=⟨1,1,5,142,[.agg [.str a',.int .i64 b',.sl 3 (c'.map Part.d),.sl 2 (d'.map ct.d),.int .i64 e']]⟩/\d.take k=d'.take k) ?_ ?_ ?_
   ·simp[go_sem,aR,ao,Bx.none,h2,h3,b2,b3]
   ·rintro k σ bx hk ⟨h2,h3,h5,b2,b3,hn'⟩;obtain⟨x,hx⟩:=aP hk;obtain⟨y,hy⟩:=aP (show k<d'.length by omega);have hlt:(k:Int)<(d.length:Int):=oM;have hlt2:(k:Int)<(d'.length:Int):=oM;obtain⟨x1,x2⟩:=x;obtain⟨y1,y2⟩:=y;repeat' (first|with_reducible refine ar (fun _=>?_) (fun _=>?_)|with_reducible refine an (fun _=>?_) (fun _=>?_)|simp(disch:=omega) only[go_sem, *,h2,h3,h5,b2,b3,hlt,hx,hy,ct.d])
    ·rename_i hxy;rw[aK oM];exact⟨rfl,nP hx hy hn' (by simpa using hxy)⟩
    ·rename_i hxy;refine ab (congrArg D.bool (decide_eq_false fun e=>pX hx hy (fun h=>?_) (by injection e)).symm);injection h
     subst_vars
     simp at hxy
   ·rintro σ bx ⟨h2,h3,h5,b2,b3,hn'⟩;have hlt:¬(d.length:Int)<(d.length:Int):=oM;rw[List.take_length,e5,List.take_length]at hn';simp(disch:=omega) only[go_sem,h2,h3,h5,b2,b3,hlt];exact ab (congrArg D.bool (decide_eq_true (by rw[e1,e2,e3,hn,hn'])).symm)
 all_goals
  refine ab (congrArg D.bool (decide_eq_false ?_).symm);intro e;injection e;simp_all
theorem Ia(x y:aC)(hx:x.parts.length<=140737488355328/\x.gives.length<=140737488355328)(hy:y.parts.length<=140737488355328/\y.gives.length<=140737488355328):aq Tryz.prog 118 [x.d,y.d] (.bool (decide (x=y))):=av mixed (Ib x y hx hy) rfl aj rfl
set_option maxHeartbeats 4000000 in
theorem Kh(x y:aO)(hx:Sz x)(hy:Sz y):lI Tryz.prog (bK Tryz.prog) [] Tryz.f68 [x.d,y.d] (.bool (decide (x=y))):=by
 refine aw _ [.tmp 4] _ rfl rfl rfl aj ?_;have hq:=zG x.cats y.cats hx.cats hy.cats;simp only[strs]at hq;obtain⟨a,b,c,d,e,f⟩:=x;obtain⟨a',b',c',d',e',f'⟩:=y;obtain⟨u1,u2,u3,u4,u5⟩:=hx;obtain⟨v1,v2,v3,v4,v5⟩:=hy;simp only at hq u1 u2 u3 u4 u5 v1 v2 v3 v4 v5;repeat' (first|with_reducible refine ar (fun _=>?_) (fun _=>?_)|with_reducible refine an (fun _=>?_) (fun _=>?_)|with_reducible refine br (hq) sG ?_|with_reducible refine bw (hq) sG ?_|simp(disch:=omega) only[go_sem, *,aO.d,strs])
 case refine_1.refine_1.refine_1.refine_1.refine_1.refine_1=>
  rename_i e1 e2 e3 e4 e5 e6;have e5:e.length=e'.length:=oM;have e6:f.length=f'.length:=oM;refine aX e.length (fun k σ bx=>σ 2= .loc 2 1 0 0/\σ 3= .loc 3 1 0 0/\σ 5= .int .i64 k/\bx 2=⟨1,1,6,81,[.agg [.str a,.sl 1 (b.map D.str),.str c,.int .i64 d,.sl 5 (e.map Entry.d),.sl 5 (f.map aC.d)]]⟩/\bx 3=⟨1,1,6,81,[.agg [.str a',.sl 1 (b'.map D.str),.str c',.int .i64 d',.sl 5 (e'.map Entry.d),.sl 5 (f'.map aC.d)]]⟩/\e.take k=e'.take k) ?_ ?_ ?_
  ·simp[go_sem,aR,ao,Bx.none]
  ·rintro k σ bx hk ⟨h2,h3,h5,b2,b3,hn⟩;obtain⟨x,hx⟩:=aP hk;obtain⟨y,hy⟩:=aP (show k<e'.length by omega);have hlt:(k:Int)<(e.length:Int):=oM;have hc:=H9 x y (u4 x (List.mem_of_getElem? hx)) (v4 y (List.mem_of_getElem? hy));have hxd:x.d= .agg [.str x.text,.str x.cat,.int .i64 x.no,strs x.gives,.int .i64 x.cost]:=rfl;have hyd:y.d= .agg [.str y.text,.str y.cat,.int .i64 y.no,strs y.gives,.int .i64 y.cost]:=rfl;rw[hxd,hyd]at hc;simp only[strs]at hxd hyd hc;simp(disch:=omega) only[go_sem,h2,h3,h5,b2,b3,hlt,hx,hy,hxd,hyd];refine au hc sG ?_;simp(disch:=omega) only[go_sem,h2,h3,h5,b2,b3];refine ar (fun hv=>?_) (fun hv=>?_)
   ·simp(disch:=omega) only[go_sem,h2,h3,h5,b2,b3];rw[aK oM];exact⟨rfl,nP hx hy hn hv⟩
   ·simp(disch:=omega) only[go_sem,h2,h3,h5,b2,b3];exact ab (congrArg D.bool (decide_eq_false fun e=>pX hx hy hv (by injection e)).symm)
  ·rintro σ bx ⟨h2,h3,h5,b2,b3,hn⟩;have hlt:¬(e.length:Int)<(e.length:Int):=oM;rw[List.take_length,e5,List.take_length]at hn;simp(disch:=omega) only[go_sem,h2,h3,h5,b2,b3,hlt];refine aX f.length (fun k σ bx=>σ 2= .loc 2 1 0 0/\σ 3= .loc 3 1 0 0/\σ 6= .int .i64 k/\bx 2=⟨1,1,6,81,[.agg [.str a,.sl 1 (b.map D.str),.str c,.int .i64 d,.sl 5 (e.map Entry.d),.sl 5 (f.map aC.d)]]⟩/\bx 3=⟨1,1,6,81,[.agg [.str a',.sl 1 (b'.map D.str),.str c',.int .i64 d',.sl 5 (e'.map Entry.d),.sl 5 (f'.map aC.d)]]⟩/\f.take k=f'.take k) ?_ ?_ ?_
   ·simp[go_sem,aR,ao,Bx.none,h2,h3,b2,b3]
   ·rintro k σ bx hk ⟨h2,h3,h5,b2,b3,hn'⟩;obtain⟨x,hx⟩:=aP hk;obtain⟨y,hy⟩:=aP (show k<f'.length by omega);have hlt:(k:Int)<(f.length:Int):=oM;have hc:=Ia x y (u5 x (List.mem_of_getElem? hx)) (v5 y (List.mem_of_getElem? hy));have hxd:x.d= .agg [.str x.cat,.int .i64 x.no,.sl 3 (x.parts.map Part.d),.sl 2 (x.gives.map ct.d),.int .i64 x.cost]:=rfl;have hyd:y.d= .agg [.str y.cat,.int .i64 y.no,.sl 3 (y.parts.map Part.d),.sl 2 (y.gives.map ct.d),.int .i64 y.cost]:=rfl;rw[hxd,hyd]at hc;simp(disch:=omega) only[go_sem,h2,h3,h5,b2,b3,hlt,hx,hy,hxd,hyd];refine au hc (by simp[D.aF,D.pure,iw,kO]) ?_;simp(disch:=omega) only[go_sem,h2,h3,h5,b2,b3];refine ar (fun hv=>?_) (fun hv=>?_)
    ·simp(disch:=omega) only[go_sem,h2,h3,h5,b2,b3];rw[aK oM];exact⟨rfl,nP hx hy hn' hv⟩
    ·simp(disch:=omega) only[go_sem,h2,h3,h5,b2,b3];exact ab (congrArg D.bool (decide_eq_false fun e=>pX hx hy hv (by injection e)).symm)
   ·rintro σ bx ⟨h2,h3,h5,b2,b3,hn'⟩;have hlt:¬(f.length:Int)<(f.length:Int):=oM;rw[List.take_length,e6,List.take_length]at hn';simp(disch:=omega) only[go_sem,h2,h3,h5,b2,b3,hlt];exact ab (congrArg D.bool (decide_eq_true (by rw[e1,e2,e3,e4,hn,hn'])).symm)
 all_goals
  refine ab (congrArg D.bool (decide_eq_false ?_).symm);intro e;injection e;simp_all
theorem CQ(x y:aO)(hx:Sz x)(hy:Sz y):aq Tryz.prog 68 [x.d,y.d] (.bool (decide (x=y))):=av mixed (Kh x y hx hy) rfl aj rfl
def uc(x:Entry):Bool:=decide (x.gives.length<=10)
def rS(x:aC):Bool:=decide (x.parts.length<=10)&&decide (x.gives.length<=20)
def BW(g:aO):Prop:=40<g.cats.length\/(40<g.entries.length/\g.entries.length<=512)\/600<g.entries.length\/(20<g.rules.length/\g.rules.length<=128)\/200<g.rules.length
instance(g:aO):Decidable (BW g):=by unfold BW;infer_instance
def n6(g:aO):Bool:= !decide (BW g)&&(g.entries.all uc&&g.rules.all rS)
set_option maxHeartbeats 4000000 in
theorem OA(g:aO):lI Tryz.prog (bK Tryz.prog) [] Tryz.f30 [g.d] (.bool (n6 g)):=by
 refine aw _ [.tmp 2] _ rfl rfl rfl aj ?_;have hgd:g.d= .agg [.str g.name,strs g.cats,.str g.start,.int .i64 g.no,.sl 5 (g.entries.map Entry.d),.sl 5 (g.rules.map aC.d)]:=rfl;rw[hgd];by_cases hbig:BW g
 ·have hf:n6 g=false:=by unfold n6;rw[decide_eq_true hbig];rfl
  rw[hf];unfold BW at hbig;repeat' (first|with_reducible refine ar (fun _=>?_) (fun _=>?_)|with_reducible refine an (fun _=>?_) (fun _=>?_)|simp(disch:=omega) only[go_sem, *,strs])
  all_goals first
   |exact .refl _
   |(exfalso;omega)
 ·have hf:n6 g=(g.entries.all uc&&g.rules.all rS):=by unfold n6;rw[decide_eq_false hbig];rfl
  rw[hf];unfold BW at hbig;repeat' (first|with_reducible refine ar (fun _=>?_) (fun _=>?_)|with_reducible refine an (fun _=>?_) (fun _=>?_)|simp(disch:=omega) only[go_sem, *,strs])
  all_goals first
   |(exfalso;omega)
   |skip
  all_goals
   refine aX g.entries.length (fun k σ bx=>σ 1= .loc 1 1 0 0/\σ 3= .int .i64 k/\bx 1=⟨1,1,6,81,[.agg [.str g.name,.sl 1 (g.cats.map D.str),.str g.start,.int .i64 g.no,.sl 5 (g.entries.map Entry.d),.sl 5 (g.rules.map aC.d)]]⟩/\(g.entries.take k).all uc=true) ?_ ?_ ?_
   ·simp[go_sem,aR,ao,Bx.none]
   ·rintro k σ bx hk ⟨h1,h3,b1,hn⟩;obtain⟨x,hx⟩:=aP hk;have hlt:(k:Int)<(g.entries.length:Int):=oM;have hxd:x.d= .agg [.str x.text,.str x.cat,.int .i64 x.no,.sl 1 (x.gives.map D.str),.int .i64 x.cost]:=rfl;simp(disch:=omega) only[go_sem,h1,h3,b1,hlt,hx,hxd];refine ar (fun hv=>?_) (fun hv=>?_)
    ·simp(disch:=omega) only[go_sem,h1,h3,b1];rw[kW uc hx (by simp[uc];omega)];exact .refl _
    ·simp(disch:=omega) only[go_sem,h1,h3,b1];rw[aK oM];exact⟨rfl,iF uc hx hn (by simp[uc];omega)⟩
   ·rintro σ bx ⟨h1,h3,b1,hn⟩;have hlt:¬(g.entries.length:Int)<(g.entries.length:Int):=oM;rw[List.take_length]at hn;rw[hn,Bool.true_and];simp(disch:=omega) only[go_sem,h1,h3,b1,hlt];refine aX g.rules.length (fun k σ bx=>σ 1= .loc 1 1 0 0/\σ 4= .int .i64 k/\bx 1=⟨1,1,6,81,[.agg [.str g.name,.sl 1 (g.cats.map D.str),.str g.start,.int .i64 g.no,.sl 5 (g.entries.map Entry.d),.sl 5 (g.rules.map aC.d)]]⟩/\(g.rules.take k).all rS=true) ?_ ?_ ?_
    ·simp[go_sem,aR,ao,Bx.none,h1,b1]
    ·rintro k σ bx hk ⟨h1,h3,b1,hn⟩;obtain⟨x,hx⟩:=aP hk;have hlt:(k:Int)<(g.rules.length:Int):=oM;have hxd:x.d= .agg [.str x.cat,.int .i64 x.no,.sl 3 (x.parts.map Part.d),.sl 2 (x.gives.map ct.d),.int .i64 x.cost]:=rfl;repeat' (first|with_reducible refine ar (fun _=>?_) (fun _=>?_)|with_reducible refine an (fun _=>?_) (fun _=>?_)|simp(disch:=omega) only[go_sem, *,h1,h3,b1,hlt,hx,hxd])
     all_goals first
      |(rw[kW rS hx (by simp only[rS,Bool.and_eq_false_iff,decide_eq_false_iff_not];omega)];exact .refl _)
      |(rw[aK oM];exact⟨rfl,iF rS hx hn (by simp only[rS,Bool.and_eq_true,decide_eq_true_eq];omega)⟩)
    ·rintro σ bx ⟨h1,h3,b1,hn⟩;have hlt:¬(g.rules.length:Int)<(g.rules.length:Int):=oM;rw[List.take_length]at hn;rw[hn];simp(disch:=omega) only[go_sem,h1,h3,b1,hlt];exact .refl _
theorem Oz(g:aO)(h:Sz g)(hn:g.name.length<=140737488355328)(hs:g.start.length<=140737488355328):aq Tryz.prog 30 [g.d] (.bool (n6 g)):=av mixed (OA g) rfl aj rfl
theorem i1:((1:Nat):Int)=1:=rfl
theorem i2:((2:Nat):Int)=2:=rfl
theorem i3:((3:Nat):Int)=3:=rfl
mutual
theorem sr(bx:ae):∀d:D,d.pure=true->bf bx d=some d/\names d=[]
 | .loc ..,h| .osl ..,h| .csl ..,h| .omap ..,h=>by cases h
 | .agg ds,h=>by have:=kN bx ds h;simp[bf,names,this]
 | .tup ds,h=>by have:=kN bx ds h;simp[bf,names,this]
 | .fn f ds,h=>by have:=kN bx ds h;simp[bf,names,this]
 | .bfn f ds,h=>by have:=kN bx ds h;simp[bf,names,this]
 | .ifc t d,h=>by have:=sr bx d h;simp[bf,names,this]
 | .undef,_| .int ..,_| .bool _,_| .str _,_| .raw _,_| .nilsl,_| .sl ..,_| .clp ..,_| .cref ..,_| .any _,_| .glo,_| .abool,_=>⟨by simp[bf],by simp[names]⟩
theorem kN(bx:ae):∀ds:List D,D.aF ds=true->cg bx ds=some ds/\bq ds=[]
 |[],_=>⟨by simp[cg],by simp[bq]⟩
 |d::ds,h=>by
  simp only[D.aF,Bool.and_eq_true]at h;have h1:=sr bx d h.1;have h2:=kN bx ds h.2;exact⟨by rw[cQ,h1.1,h2.1];rfl,by simp[bq,h1.2,h2.2]⟩
end
theorem AH{bx:ae}{d d':D}(hd:bf bx d=some d'):∀(l l':List D),cg bx l=some l'->cg bx (l++[d])=some (l'++[d'])
 |[],l',h=>by simp only[kx,Option.some.injEq]at h;subst h;rw[List.nil_append,cQ,hd,kx];rfl
 |x::l,l',h=>by
  rw[cQ]at h;obtain⟨y,ys,h1,h2,rfl⟩:=kJ h;rw[List.cons_append,cQ,h1,AH hd l ys h2];rfl
theorem xR:∀(l m:List D),bq (l++m)=bq l++bq m
 |[],m=>rfl
 |x::l,m=>by simp only[List.cons_append,bq,xR l m,List.append_assoc]
theorem ya:∀(l m:List D),D.aF (l++m)=(D.aF l&&D.aF m)
 |[],m=>by simp[D.aF]
 |x::l,m=>by simp only[List.cons_append,D.aF,ya l m,Bool.and_assoc]
structure pH(l m:List D):Prop where
 len:l.length=m.length
 cells:∀(i:Nat) x x',l[i]? =some x->m[i]? =some x'->x.cells.length=x'.cells.length
 pF:∀(i:Nat) x x' (j:Nat) c c',l[i]? =some x->m[i]? =some x'->x.cells[j]? =some c->x'.cells[j]? =some c'->bk c c'
theorem pH.sl{l m:List D}(h:pH l m)(sz:Nat):bk (.sl sz l) (.sl sz m):=.sl h.len h.cells h.pF
theorem pH.nil:pH [] []:=⟨rfl,by simp,by simp⟩
theorem pH.snoc{l m:List D}{d d':D}(h:pH l m)(h1:d.cells.length=d'.cells.length)(h2:∀(j:Nat) c c',d.cells[j]? =some c->d'.cells[j]? =some c'->bk c c'):pH (l++[d]) (m++[d']):=by
 have hl:=h.len;have at_:∀(i:Nat) x x',(l++[d])[i]? =some x->(m++[d'])[i]? =some x'->(l[i]? =some x/\m[i]? =some x')\/(x=d/\x'=d'):=by
  intro i x x' hx hx';by_cases hi:i<l.length
  ·rw[List.getElem?_append_left hi]at hx;rw[List.getElem?_append_left oM]at hx';exact .inl ⟨hx,hx'⟩
  ·have:i=l.length:=by
    have:=(List.getElem?_eq_some_iff.1 hx).1;simp at this;omega
   subst this;rw[List.getElem?_append_right oM]at hx;rw[List.getElem?_append_right oM,hl]at hx';simp at hx hx';exact .inr ⟨hx.symm,hx'.symm⟩
 refine⟨by simp[hl],fun i x x' hx hx'=>?_,fun i x x' j c c' hx hx' hc hc'=>?_⟩
 ·rcases at_ i x x' hx hx' with⟨g1,g2⟩|⟨rfl,rfl⟩
  ·exact h.cells i x x' g1 g2
  ·exact h1
 ·rcases at_ i x x' hx hx' with⟨g1,g2⟩|⟨rfl,rfl⟩
  ·exact h.pF i x x' j c c' g1 g2 hc hc'
  ·exact h2 j c c' hc hc'
def oK(s t el:Nat)(x:D)(m:List D)(bx:ae):Prop:=
 (x= .nilsl/\m=[])\/∃e es l,x= .osl s e 5 0 es.length/\bx s=⟨e,1,5,el,es⟩/\cg bx es=some l/\pH l m/\D.aF l=true/\∀q∈bq es,q=t
theorem oK.len{s t el:Nat}{x:D}{m:List D}{bx:ae}(h:oK s t el x m bx):x.cells=[x]/\x.one=true/\∀c,dz x 0 [c]=some c:=by rcases h with⟨rfl,rfl⟩|⟨e,es,l,rfl,h⟩<;>exact⟨rfl,rfl,fun c=>by simp[dz,D.cells]⟩
theorem oK.dF{s t el:Nat}{x:D}{m:List D}{bx:ae}(h:oK s t el x m bx)(hst:s≠t):
 ∃bx0,(bx0=bx\/∃l,(bx s).k=1/\cg bx (bx s).es=some l/\bx0=Go.V.dF bx s l)/\(∀q,q≠s->q≠t->bx0 q=bx q)/\∃l,aW bx0 [s] el 5 x l/\pH l m/\D.aF l=true:=by
 rcases h with⟨rfl,rfl⟩|⟨e,es,l,rfl,h1,h2,h3,h4,h5⟩
 ·exact⟨bx,.inl rfl,fun _ _ _=>rfl,[],.nil _ _ _ _,.nil,rfl⟩
 ·have hes:(bx s).es=es:=by rw[h1]
  have hf:cv bx es s=bx s:=by rw[dI,if_neg (fun hm=>hst (h5 _ hm))]
  refine⟨_,.inr ⟨l,by rw[h1],by rw[hes];exact h2,rfl⟩,fun q hq hq2=>?_,l,.inr ⟨s,e,by simp,?_,?_⟩,h3,h4⟩
  ·unfold Go.V.dF;rw[hes,aA hq,dI,if_neg (fun hm=>hq2 (h5 _ hm))]
  ·rw[(ot _ _ h2).1]
  ·unfold Go.V.dF;rw[hes,cO,hf,h1]
theorem oK.add{s t el e:Nat}{l m:List D}{d d' dm:D}{bx:ae}(hw:pH l m)(hp:D.aF l=true)(hb:bx s=⟨e,1,5,el,l++[d]⟩)(hd:bf bx d=some d')(hd':d'.pure=true)(h1:d'.cells.length=dm.cells.length)
 (h2:∀(j:Nat) c c',d'.cells[j]? =some c->dm.cells[j]? =some c'->bk c c') (hn:∀q∈names d,q=t):oK s t el (.osl s e 5 0 (l++[d]).length) (m++[dm]) bx:=by
 obtain⟨o1,o2⟩:=kN bx l hp;refine .inr ⟨e,_,_,rfl,hb,AH hd _ _ o1,hw.snoc h1 h2,by rw[ya,hp];simp[D.aF,hd'],fun q hq=>?_⟩;rw[xR,o2]at hq;simp[bq]at hq;exact hn q hq
theorem aW.names{ts:List Nat}{bx:ae}{el esz:Nat}{x:D}{xs:List D}(h:aW bx ts el esz x xs):∀q∈Go.V.names x,q∈ts:=by
 rcases h with⟨rfl,_⟩|⟨t,e,ht,rfl,_⟩
 ·intro q hq;simp[Go.V.names]at hq
 ·intro q hq;simp[Go.V.names]at hq;subst hq;exact ht
theorem um{ts:List Nat}{bx:ae}{el esz:Nat}{x:D}{xs:List D}(h:aW bx ts el esz x xs)(hp:D.aF xs=true){m:List D}(hw:pH xs m):∃r,bf bx x=some r/\bk r (.sl esz m)/\r.pure=true:=by
 rcases h with⟨rfl,rfl⟩|⟨t,e,_,rfl,hb⟩
 ·have:m=[]:=List.eq_nil_of_length_eq_zero (by rw[<-hw.len];rfl);subst this;exact⟨_,qG,.nil _,rfl⟩
 ·exact⟨_,by rw[jv,hb];exact cU _ _ _ _ _ _ (by decide) rfl hp,hw.sl _,rfl⟩
theorem pH.refl(l:List D):pH l l:=⟨rfl,fun i x x' h h'=>by rw[h]at h';injection h' with h';rw[h'],fun i x x' j c c' h h' hc hc'=>by rw[h]at h';injection h' with h';subst h';rw[hc]at hc';injection hc' with hc';subst hc';exact .refl _⟩
end Go.V.Ty
namespace Go.V.Ty
open Go.Proofs Go.RowKit Go.V.Lx Go.V.Gr
def IH(n:Int)(x:Entry):Entry:={x with no:=n}
def Oc(n:Int)(x:Part):Part:={x with no:=n}
def yH(n:Int)(x:aC):aC:={x with no:=n,parts:=x.parts.map (Oc n)}
def uP(g:aO)(n:Int):aO:={g with no:=n,entries:=g.entries.map (IH n),rules:=g.rules.map (yH n)}
theorem uF{α β:Type}{f:α->β}{l:List α}{k:Nat}{x:α}(h:l[k]? =some x):(l.map f).take (k+1)=(l.map f).take k++[f x]:=by rw[List.take_add_one,List.getElem?_map,h];rfl
theorem E2{bx:ae}{t e esz ty:Nat}{d:D}(h:bx t=⟨e,1,esz,ty,[d]⟩):ff bx esz (.osl t e esz 0 1)=some [d]:=by simp[ff,h,lv]
theorem A7(g:aO)(n:Int):dA (uP g n)=dA g:=by
 have h1:(g.entries.map (IH n)).map (lA g.cats)=g.entries.map (lA g.cats):=by rw[List.map_map];rfl
 have h2:(g.rules.map (yH n)).map (gz g.cats)=g.rules.map (gz g.cats):=by
  rw[List.map_map];refine List.map_congr_left fun x _=>?_;simp only[Function.comp,gz,yH,List.map_map]
  congr 1
 simp only[dA,uP,h1,h2]
theorem GC(g:aO)(n:Int):uP (dA g) n=uP g n:=by
 simp only[uP,dA,List.map_map]
 congr 1
 refine List.map_congr_left fun x _=>?_;simp only[Function.comp,yH,gz,List.map_map]
 congr 1
theorem set_set(g:aO):dA (dA g)=dA g:=by rw[<-A7 (dA g) 0,GC,A7]
theorem yZ{α:Type}(f:α->α)(p:α->α->Bool)(l:List α):iU p (l.map f) l=l.all fun x=>p (f x) x:=by
 have:∀l:List α,((l.map f).zip l).all (fun q=>p q.1 q.2)=l.all fun x=>p (f x) x:=by
  intro l;induction l with
  |nil=>rfl
  |cons x l ih=>simp only[List.map_cons,List.zip_cons_cons,List.all_cons,ih]
 rw[iU,this];simp
theorem ET{g:aO}(h:(bX g).2=0):(fT g=0<->dA g=g)/\(fT g=0\/fT g=260):=by
 have hr:=qT h;have hck:fT g=if decide ((dA g).no=g.no)&&(iU (fun x y=>decide (x.no=y.no)) (dA g).entries g.entries&&iU (fun x y=>decide (x.no=y.no)&&decide (x.parts=y.parts)) (dA g).rules g.rules)then 0 else 260:=by rw[fT,if_neg (by simp[h]),hr]
 refine⟨?_,by rw[hck];split<;>simp⟩;rw[hck,show(dA g).entries=g.entries.map (lA g.cats)from rfl,show(dA g).rules=g.rules.map (gz g.cats)from rfl,yZ,yZ];constructor
 ·intro hc;split at hc
  ·rename_i h1;simp only[Bool.and_eq_true,decide_eq_true_eq,List.all_eq_true]at h1;obtain⟨h1,h2,h3⟩:=h1;have e1:g.entries.map (lA g.cats)=g.entries:=by
    conv=>rhs;rw[<-List.map_id g.entries]
    refine List.map_congr_left fun x hx=>?_;have:=h2 x hx;obtain⟨a,b,c,d,e⟩:=x;simp only[lA,id]at this⊢;rw[this]
   have e2:g.rules.map (gz g.cats)=g.rules:=by
    conv=>rhs;rw[<-List.map_id g.rules]
    refine List.map_congr_left fun x hx=>?_;have:=h3 x hx;obtain⟨a,b,c,d,e⟩:=x;simp only[gz,id]at this⊢;rw[this.1,this.2]
   obtain⟨a,b,c,d,e,f⟩:=g;simp only[dA]at h1 e1 e2⊢;rw[h1,e1,e2]
  ·cases hc
 ·intro hs;rw[if_pos];simp only[Bool.and_eq_true,decide_eq_true_eq,List.all_eq_true];refine⟨by rw[hs],fun x hx=>?_,fun x hx=>?_⟩
  ·have e1:g.entries.map (lA g.cats)=g.entries:=congrArg aO.entries hs;obtain⟨i,hi⟩:=List.mem_iff_getElem?.1 hx;have:=congrArg (·[i]?) e1;simp only[List.getElem?_map,hi,Option.map_some,Option.some.injEq]at this;rw[this]
  ·have e1:g.rules.map (gz g.cats)=g.rules:=congrArg aO.rules hs;obtain⟨i,hi⟩:=List.mem_iff_getElem?.1 hx;have:=congrArg (·[i]?) e1;simp only[List.getElem?_map,hi,Option.map_some,Option.some.injEq]at this;rw[this];exact⟨rfl,rfl⟩
theorem GL{g:aO}(h:(bX g).2≠0):fT g=(bX g).2:=by rw[fT,if_pos h]
theorem iZ.sz{g:aO}(h:iZ g):Sz g:=⟨h.clen,h.elen,h.rlen,fun x hx=>(h.ents x hx).len,fun x hx=>⟨(h.rules x hx).plen,(h.rules x hx).glen⟩⟩
theorem Kl{g:aO}(h:iZ g):iZ (dA g):=by
 refine⟨h.name,h.start,h.clen,by simpa[dA]using h.elen,by simpa[dA]using h.rlen,h.cats,fun x hx=>?_,fun x hx=>?_⟩
 ·obtain⟨y,hy,rfl⟩:=List.mem_map.1 hx;exact⟨(h.ents y hy).text,(h.ents y hy).cat,(h.ents y hy).len,(h.ents y hy).gives⟩
 ·obtain⟨y,hy,rfl⟩:=List.mem_map.1 hx;refine⟨(h.rules y hy).cat,by simpa[gz]using(h.rules y hy).plen,(h.rules y hy).glen,fun q hq=>?_,(h.rules y hy).gives⟩;obtain⟨r,hr,rfl⟩:=List.mem_map.1 hq;exact⟨((h.rules y hy).parts r hr).text,((h.rules y hy).parts r hr).cat⟩
theorem pg(g:aO):D.aF [g.d]=true:=by simp[D.aF,gO]
theorem Vq(g h:aO):D.aF [g.d,h.d]=true:=by simp[D.aF,gO]
theorem lP{α:Type}{es:List D}{f:α->D}{p:α->Prop}(h:∀x∈es,∃a,x=f a/\p a):∃l:List α,es=l.map f/\∀x∈l,p x:=by
 induction es with
 |nil=>exact⟨[],rfl,fun x hx=>by cases hx⟩
 |cons x es ih=>
  obtain⟨a,rfl,ha⟩:=h x sI;obtain⟨l,rfl,hl⟩:=ih fun y hy=>h y (by simp[hy]);exact⟨a::l,rfl,fun y hy=>by
   rcases List.mem_cons.1 hy with rfl|hy
   ·exact ha
   ·exact hl y hy⟩
theorem ea{n:Nat}(h:n<=reachBytes):n<=140737488355328:=by unfold reachBytes at h;show n<=140737488355328;omega
def oC:Sh:=.slice 1 .str
def pU:Sh:=.slice 1 (.int .u8)
def v_:Sh:=.agg [.str,.int .i64,.str]
def v8:Sh:=.agg [.int .i64,.str]
def th:Sh:=.agg [.str,.str,.int .i64,oC,.int .i64]
def wb:Sh:=.agg [.str,.int .i64,.slice 3 v_,.slice 2 v8,.int .i64]
def sK:Sh:=.agg [.str,oC,.str,.int .i64,.slice 5 th,.slice 5 wb]
theorem n7{ys:List D}(h:oC.bB ys):∃l:List ah,ys=[strs l]/\l.length<=140737488355328/\∀s∈l,s.length<=140737488355328:=by
 simp only[oC,Sh.bB]at h;obtain⟨es,rfl,hl,h⟩:=h;obtain⟨l,rfl,hp⟩:=lP (f:=D.str) (p:=fun s=>s.length<=140737488355328) (es:=es) fun x hx=>by
  obtain⟨zs,rfl,s,rfl,hs⟩:=h x hx;exact⟨s,rfl,ea hs⟩
 exact⟨l,rfl,by rw[List.length_map]at hl;exact ea hl,hp⟩
theorem Ht{ys:List D}(h:v_.bB ys):∃x:Part,v_.pack ys=x.d/\Ex x:=by
 simp only[v_,Sh.bB,Sh.fI]at h;obtain⟨a,b,rfl,⟨m,rfl,h1⟩,c,e,rfl,⟨s,rfl,_⟩,c2,e2,rfl,⟨n,rfl,h2⟩,rfl⟩:=h;exact⟨⟨m,s,n⟩,rfl,ea h2,ea h1⟩
theorem Hq{ys:List D}(h:v8.bB ys):∃x:ct,v8.pack ys=x.d/\small x.text:=by
 simp only[v8,Sh.bB,Sh.fI]at h;obtain⟨a,b,rfl,⟨m,rfl,h1⟩,c,e,rfl,⟨s,rfl,h2⟩,rfl⟩:=h;exact⟨⟨m,s⟩,rfl,ea h2⟩
theorem Fs{ys:List D}(h:th.bB ys):∃x:Entry,th.pack ys=x.d/\Ew x:=by
 simp only[th,Sh.bB,Sh.fI]at h;obtain⟨a,b,rfl,⟨t,rfl,h1⟩,c,e,rfl,⟨s,rfl,h2⟩,c2,e2,rfl,⟨n,rfl,_⟩,c3,e3,rfl,h3,c4,e4,rfl,⟨k,rfl,_⟩,rfl⟩:=h;obtain⟨l,rfl,hl,hp⟩:=n7 h3;exact⟨⟨t,s,n,l,k⟩,rfl,ea h1,ea h2,hl,hp⟩
theorem Hv{ys:List D}(h:wb.bB ys):∃x:aC,wb.pack ys=x.d/\BZ x:=by
 simp only[wb,Sh.bB,Sh.fI]at h;obtain⟨a,b,rfl,⟨t,rfl,h1⟩,c,e,rfl,⟨s,rfl,_⟩,c2,e2,rfl,⟨ps,rfl,hpl,h2⟩,c3,e3,rfl,⟨gs,rfl,hgl,h3⟩,c4,e4,rfl,⟨k,rfl,_⟩,rfl⟩:=h;obtain⟨l,rfl,hp⟩:=lP (f:=Part.d) (p:=Ex) (es:=ps) fun x hx=>by
  obtain⟨zs,rfl,hz⟩:=h2 x hx;exact Ht hz
 obtain⟨m,rfl,hq⟩:=lP (f:=ct.d) (p:=fun x=>small x.text) (es:=gs) fun x hx=>by
  obtain⟨zs,rfl,hz⟩:=h3 x hx;exact Hq hz
 rw[List.length_map]at hpl hgl;exact⟨⟨t,s,l,m,k⟩,rfl,ea h1,ea hpl,ea hgl,hp,hq⟩
theorem Hr{d:D}(h:sK.has d):∃g:aO,d=g.d/\iZ g:=by
 obtain⟨ys,rfl,h⟩:=h;simp only[sK,Sh.bB,Sh.fI]at h;obtain⟨a,b,rfl,⟨t,rfl,h1⟩,c,e,rfl,h2,c2,e2,rfl,⟨s,rfl,h3⟩,c3,e3,rfl,⟨n,rfl,_⟩,c4,e4,rfl,⟨es,rfl,hel,h4⟩,c5,e5,rfl,⟨rs,rfl,hrl,h5⟩,rfl⟩:=h;obtain⟨l,rfl,hl,hp⟩:=n7 h2;obtain⟨m,rfl,hm⟩:=lP (f:=Entry.d) (p:=Ew) (es:=es) fun x hx=>by
  obtain⟨zs,rfl,hz⟩:=h4 x hx;exact Fs hz
 obtain⟨k,rfl,hk⟩:=lP (f:=aC.d) (p:=BZ) (es:=rs) fun x hx=>by
  obtain⟨zs,rfl,hz⟩:=h5 x hx;exact Hv hz
 rw[List.length_map]at hel hrl;exact⟨⟨t,l,s,n,m,k⟩,rfl,ea h1,ea h3,hl,ea hel,ea hrl,hp,hm,hk⟩
theorem L2{d:D}(h:(Sh.int .u8).has d):∃n,d= .int .u8 n/\0<=n/\n<=255:=by
 obtain⟨ys,rfl,h⟩:=h;simp only[Sh.bB]at h;obtain⟨n,rfl,hw⟩:=h;refine⟨n,rfl,?_⟩;simp[Lit.wf,IntKind.min,IntKind.max,IntKind.signed,IntKind.bits]at hw;omega
structure Typed(g:aO):Prop where
 start:g.cats.contains g.start=true
 ent:∀x∈g.entries,g.cats.contains x.cat=true
 rul:∀x∈g.rules,g.cats.contains x.cat=true
 part:∀x∈g.rules,∀q∈x.parts,q.text=[]->g.cats.contains q.cat=true
theorem Iw{g:aO}(h:eA g.cats.contains g=true):Typed g:=by
 simp only[eA,Bool.and_eq_true,List.all_eq_true]at h;obtain⟨h1,h2,h3,h4,h5,h6⟩:=h;refine⟨h4,fun x hx=>?_,fun x hx=>?_,fun x hx q hq ht=>?_⟩
 ·have:=h5 x hx;simp only[dO,Bool.and_eq_true]at this;exact this.2.1
 ·have:=h6 x hx;simp only[ft,Bool.and_eq_true]at this;exact this.1
 ·have:=h6 x hx;simp only[ft,Bool.and_eq_true,List.all_eq_true]at this;have:=this.2.2.2.2.1 q hq;simpa[jb,ht]using this
theorem Mx{l:List ah}{s:ah}(h:l.contains s=true):∃k:Nat,num l s=k/\l[k]? =some s:=by
 have hm:s∈l:=List.contains_iff_mem.1 h;have hlt:=List.idxOf_lt_length_of_mem hm;exact⟨l.idxOf s,by simp only[num,h,if_true],by rw[List.getElem?_eq_getElem hlt,List.getElem_idxOf]⟩
end Go.V.Ty
