/- Sittings: fonts, the checks. -/
import Derived.Test.YtkgloohlmogakaaGreatDoorB23
import Derived.Test.YtkgloohlmogakaaGreatDoorS7
import Derived.Test.YtkgloohlmogakaaGreatDoorB21
set_option linter.unusedSimpArgs false
set_option linter.unusedVariables false
set_option maxRecDepth 100000
namespace Go.V.St
open Go.Proofs Go.RowKit Go.V.Lx Go.V.Gr Go.V.Ty
theorem y6{α:Type}{p:α->Bool}{l:List α}{j:Nat}{x:α}(hx:l[j]? =some x):(l.take (j+1)).all p=((l.take j).all p&&p x):=by rw[List.take_add_one,hx];simp only[Option.toList_some,List.all_append,List.all_cons,List.all_nil,Bool.and_true]
theorem Ho(g:dM):dC g=(aL g.f 0 g.t&&decide (g.t<=1114111)&&aL g.w 0 4096):=by unfold dC aL;rw[Bool.eq_iff_iff];simp;omega
set_option maxHeartbeats 2000000 in
theorem Fj(f:b_):aq Tryz.prog 388 [f.d] (I (gj f)):=by
 refine av mixed (fn:=Tryz.f388) (tab:=[]) ?_ rfl aj rfl;refine aw _ [.tmp 2] _ rfl rfl rfl aj ?_;simp(disch:=omega) only[go_sem,b_.d,b_.l];have big:(1024<f.gs.length\/1024<f.ks.length)->bk (I 2) (I (gj f)):=fun h=>ab (congrArg I (by unfold gj;rw[if_pos h]));refine ar (fun c1=>?_) (fun c1=>?_)
 ·simp(disch:=omega) only[go_sem,c1,decide_true];exact big (.inl oM)
 simp(disch:=omega) only[go_sem,c1,decide_false,b_.d,b_.l];refine ar (fun c2=>?_) (fun c2=>?_)
 ·simp(disch:=omega) only[go_sem,c2,decide_true];exact big (.inr oM)
 have e:gj f=if aL f.o 0 4096&&f.gs.all dC&&dD gH f.gs&&f.ks.all e_&&dD gM f.ks then 0 else 110:=by unfold gj;rw[if_neg oM]
 have no:(aL f.o 0 4096&&f.gs.all dC&&dD gH f.gs&&f.ks.all e_&&dD gM f.ks)=false->bk (I 110) (I (gj f)):=fun h=>ab (congrArg I (by rw[e,h];rfl));have yes:(aL f.o 0 4096&&f.gs.all dC&&dD gH f.gs&&f.ks.all e_&&dD gM f.ks)=true->bk (I 0) (I (gj f)):=fun h=>ab (congrArg I (by rw[e,h];rfl));clear e big;generalize gj f=r at *;simp(disch:=omega) only[go_sem,c2,decide_false,b_.d,b_.l];refine au (mz _ _ _) sG ?_;simp(disch:=omega) only[go_sem,c2,decide_false,b_.d,b_.l];refine aX f.gs.length (fun j σ bx=>σ 1= .loc 1 1 0 0/\bx 1=⟨1,1,3,127,[f.d]⟩/\σ 22= .sl 3 (f.gs.map dM.d)/\σ 23=I f.gs.length/\σ 24=I j/\σ 3= .bool (aL f.o 0 4096&&(f.gs.take j).all dC)) ?_ ?_ ?_
 ·simp[go_sem,aR,ao,Bx.none]
 ·rintro j σ bx hj ⟨h1,b1,h22,h23,h24,h3⟩;obtain⟨x,hx⟩:=aP hj;have hlt:(j:Int)<(f.gs.length:Int):=oM;have hw:IntKind.i64.wrap ((j:Int)+1)=((j+1:Nat):Int):=aK oM;rw[y6 hx,<-Bool.and_assoc];generalize(aL f.o 0 4096&&(f.gs.take j).all dC)=b at *;clear no yes;repeat' (first|with_reducible refine ar (fun _=>?_) (fun _=>?_)|with_reducible refine an (fun _=>?_) (fun _=>?_)|with_reducible refine br (mz _ _ _) sG ?_|with_reducible refine bw (mz _ _ _) sG ?_|simp(disch:=omega) only[go_sem, *,dM.d])
  all_goals exact congrArg D.bool (by simp_all[Ho]<;>(intro h;omega))
 rintro σ bx ⟨h1,b1,h22,h23,h24,h3⟩;have hlt:¬(f.gs.length:Int)<(f.gs.length:Int):=oM;rw[List.take_length]at h3;simp(disch:=omega) only[go_sem,h1,b1,h22,h23,h24,h3,hlt,b_.d,b_.l];refine aX f.ks.length (fun j σ bx=>σ 1= .loc 1 1 0 0/\bx 1=⟨1,1,3,127,[f.d]⟩/\σ 48= .sl 3 (f.ks.map eU.d)/\σ 49=I f.ks.length/\σ 50=I j/\σ 3= .bool (aL f.o 0 4096&&f.gs.all dC&&(f.ks.take j).all e_)) ?_ ?_ ?_
 ·simp[go_sem,aR,ao,h1,b1,h3]
 ·rintro j σ bx hj ⟨h1,b1,h22,h23,h24,h3⟩;obtain⟨x,hx⟩:=aP hj;have hlt:(j:Int)<(f.ks.length:Int):=oM;have hw:IntKind.i64.wrap ((j:Int)+1)=((j+1:Nat):Int):=aK oM;rw[y6 hx,<-Bool.and_assoc];generalize(aL f.o 0 4096&&f.gs.all dC&&(f.ks.take j).all e_)=b at *;clear no yes;repeat' (first|with_reducible refine ar (fun _=>?_) (fun _=>?_)|with_reducible refine an (fun _=>?_) (fun _=>?_)|with_reducible refine br (mz _ _ _) sG ?_|with_reducible refine bw (mz _ _ _) sG ?_|simp(disch:=omega) only[go_sem, *,eU.d])
  all_goals exact congrArg D.bool (by simp_all[e_])
 rintro σ bx ⟨h1,b1,h22,h23,h24,h3⟩;have hlt:¬(f.ks.length:Int)<(f.ks.length:Int):=oM;rw[List.take_length]at h3;simp(disch:=omega) only[go_sem,h1,b1,h22,h23,h24,h3,hlt,b_.d,b_.l];refine an (fun c3=>?_) (fun c3=>?_)
 rotate_left
 ·simp(disch:=omega) only[go_sem,c3];exact no (by revert c3;cases aL f.o 0 4096<;>cases f.gs.all dC<;>cases f.ks.all e_<;>simp)
 simp only[Bool.and_eq_true]at c3;obtain⟨⟨c3,c4⟩,c5⟩:=c3;simp(disch:=omega) only[go_sem,h1,b1,c3,c4,c5,Bool.and_self,b_.d,b_.l];refine au (BM f.gs oM E7) sG ?_;simp(disch:=omega) only[go_sem,h1,b1,c3,c4,c5,Bool.and_self,b_.d,b_.l];refine an (fun c6=>?_) (fun c6=>?_)
 rotate_left
 ·simp(disch:=omega) only[go_sem,c3,c4,c5,c6,Bool.and_self];exact no (by rw[c6];simp)
 simp(disch:=omega) only[go_sem,h1,b1,c3,c4,c5,c6,Bool.and_self,b_.d,b_.l];refine au (Ee f.ks oM E8) sG ?_;simp(disch:=omega) only[go_sem,h1,b1,c3,c4,c5,c6,Bool.and_self,b_.d,b_.l];refine an (fun c7=>?_) (fun c7=>?_)
 ·simp(disch:=omega) only[go_sem,c3,c4,c5,c6,c7,Bool.and_self];exact yes (by rw[c3,c4,c5,c6,c7];rfl)
 ·simp(disch:=omega) only[go_sem,c3,c4,c5,c6,c7,Bool.and_self];exact no (by rw[c7];simp)
theorem fL(n:Int):aq Tryz.prog 304 [I n] (.bool (aL n 0 4096)):=by
 refine av mixed (fn:=Tryz.f304) (tab:=[]) ?_ rfl aj rfl;refine aw _ [.tmp 2] _ rfl rfl rfl aj ?_;repeat' (first|with_reducible refine ar (fun _=>?_) (fun _=>?_)|with_reducible refine an (fun _=>?_) (fun _=>?_)|simp(disch:=omega) only[go_sem, *])
 all_goals first|exact .refl _|(refine ab (congrArg D.bool ?_);first|(simp(disch:=omega) [*,aL];done)|(simp[aL]at *;omega)|(rw[Bool.eq_iff_iff];simp[aL]at *;omega))
theorem gP(n:Int):aq Tryz.prog 305 [I n] (.bool (aL n 0 1114111)):=by
 refine av mixed (fn:=Tryz.f305) (tab:=[]) ?_ rfl aj rfl;refine aw _ [.tmp 2] _ rfl rfl rfl aj ?_;repeat' (first|with_reducible refine ar (fun _=>?_) (fun _=>?_)|with_reducible refine an (fun _=>?_) (fun _=>?_)|simp(disch:=omega) only[go_sem, *])
 all_goals first|exact .refl _|(refine ab (congrArg D.bool ?_);first|(simp(disch:=omega) [*,aL];done)|(simp[aL]at *;omega)|(rw[Bool.eq_iff_iff];simp[aL]at *;omega))
theorem zW{x:dM}(h:aL x.f 0 1114111=false\/aL x.t 0 1114111=false\/x.t<x.f\/aL x.w 0 4096=false):dC x=false:=by
 unfold dC;rcases h with h|h|h|h
 ·simp[h]
 ·simp[h]
 ·rw[decide_eq_false oM];simp
 ·simp[h]
theorem xG{x:dM}(h1:aL x.f 0 1114111=true)(h2:aL x.t 0 1114111=true)(h3:¬x.t<x.f)(h4:aL x.w 0 4096=true):dC x=true:=by unfold dC;rw[h1,h2,h4,decide_eq_true oM];rfl
theorem Cz{x:eU}(h:aL x.a 0 1114111=false\/aL x.b 0 1114111=false\/x.y< -4096\/4096<x.y):e_ x=false:=by
 unfold e_;rcases h with h|h|h|h
 ·simp[h]
 ·simp[h]
 ·simp[aL];intros;omega
 ·simp[aL];intros;omega
theorem Ab{x:eU}(h1:aL x.a 0 1114111=true)(h2:aL x.b 0 1114111=true)(h3:¬x.y< -4096)(h4:¬4096<x.y):e_ x=true:=by unfold e_;rw[h1,h2];simp[aL];omega
set_option maxHeartbeats 4000000 in
theorem D1(f:b_):aq Tryz.prog 259 [f.d] (I (gj f)):=by
 refine av mixed (fn:=Tryz.f259) (tab:=[]) ?_ rfl aj rfl;refine aw _ [.tmp 2] _ rfl rfl rfl aj ?_;simp(disch:=omega) only[go_sem,b_.d,b_.l];have big:(1024<f.gs.length\/1024<f.ks.length)->bk (I 2) (I (gj f)):=fun h=>ab (congrArg I (by unfold gj;rw[if_pos h]));refine ar (fun c1=>?_) (fun c1=>?_)
 ·simp(disch:=omega) only[go_sem,c1,decide_true];exact big (.inl oM)
 simp(disch:=omega) only[go_sem,c1,decide_false,b_.d,b_.l];refine ar (fun c2=>?_) (fun c2=>?_)
 ·simp(disch:=omega) only[go_sem,c2,decide_true];exact big (.inr oM)
 have e:gj f=if aL f.o 0 4096&&f.gs.all dC&&dD gH f.gs&&f.ks.all e_&&dD gM f.ks then 0 else 110:=by unfold gj;rw[if_neg oM]
 have no:(aL f.o 0 4096&&f.gs.all dC&&dD gH f.gs&&f.ks.all e_&&dD gM f.ks)=false->bk (I 110) (I (gj f)):=fun h=>ab (congrArg I (by rw[e,h];rfl));have yes:(aL f.o 0 4096&&f.gs.all dC&&dD gH f.gs&&f.ks.all e_&&dD gM f.ks)=true->bk (I 0) (I (gj f)):=fun h=>ab (congrArg I (by rw[e,h];rfl));clear e big;generalize gj f=r at *;simp(disch:=omega) only[go_sem,c2,decide_false,b_.d,b_.l];refine au (fL _) sG ?_;simp(disch:=omega) only[go_sem,c2,decide_false,b_.d,b_.l];refine an (fun c3=>?_) (fun c3=>?_)
 rotate_left
 ·simp(disch:=omega) only[go_sem,c3];exact no (by rw[c3];rfl)
 have no1:f.gs.all dC=false->bk (I 110) (I r):=fun h=>no (by rw[h];simp);have no2:dD gH f.gs=false->bk (I 110) (I r):=fun h=>no (by rw[h];simp);have no3:f.ks.all e_=false->bk (I 110) (I r):=fun h=>no (by rw[h];simp);have no4:dD gM f.ks=false->bk (I 110) (I r):=fun h=>no (by rw[h];simp);have yes':f.gs.all dC=true->dD gH f.gs=true->f.ks.all e_=true->dD gM f.ks=true->bk (I 0) (I r):=fun h1 h2 h3 h4=>yes (by rw[c3,h1,h2,h3,h4];rfl);clear no yes;simp(disch:=omega) only[go_sem,c3,b_.d,b_.l];refine aX f.gs.length (fun j σ bx=>σ 1= .loc 1 1 0 0/\bx 1=⟨1,1,3,127,[f.d]⟩/\σ 3=I j/\(f.gs.take j).all dC=true/\dD gH (f.gs.take j)=true) ?_ ?_ ?_
 ·simp[go_sem,aR,ao,Bx.none,dD]
 ·rintro j σ bx hj ⟨h1,b1,h3,hn,hu⟩;obtain⟨x,hx⟩:=aP hj;have hlt:(j:Int)<(f.gs.length:Int):=oM;have nox:dC x=false->bk (I 110) (I r):=fun h=>no1 (mi hx h);have hall:dC x=true->(f.gs.take (j+1)).all dC=true:=fun h=>jg hx hn h;clear hn no1 no3 no4 yes';rcases j with _|j
  ·have h3:σ 3=I 0:=h3;have hlt:(0:Int)<(f.gs.length:Int):=oM;clear hu no2;repeat' (first|with_reducible refine ar (fun _=>?_) (fun _=>?_)|with_reducible refine an (fun _=>?_) (fun _=>?_)|with_reducible refine br (fL _) sG ?_|with_reducible refine bw (fL _) sG ?_|with_reducible refine br (gP _) sG ?_|with_reducible refine bw (gP _) sG ?_|simp(disch:=omega) only[go_sem, *,dM.d,b_.d,b_.l])
   all_goals first|exact nox (zW (by first|exact .inl (by assumption)|exact .inr (.inl (by assumption))|exact .inr (.inr (.inl (by assumption)))|exact .inr (.inr (.inr (by assumption)))))|exact⟨congrArg I (wr 1 oM oM),hall (xG (by assumption) (by assumption) (by assumption) (by assumption)),qc _⟩
  ·obtain⟨y,hy⟩:=aP (show j<f.gs.length by omega);have hw:IntKind.i64.wrap (((j+1:Nat):Int) - 1)=(j:Int):=by rw[wr _ oM oM];omega
   have hp:(0:Int)<((j+1:Nat):Int):=oM;have hadj:gH y x=true->dD gH (f.gs.take (j+1+1))=true:=fun h=>oN hy hx hu h;have noa:gH y x=false->bk (I 110) (I r):=fun h=>no2 (sX hy hx h);clear hu no2;repeat' (first|with_reducible refine ar (fun _=>?_) (fun _=>?_)|with_reducible refine an (fun _=>?_) (fun _=>?_)|with_reducible refine br (fL _) sG ?_|with_reducible refine bw (fL _) sG ?_|with_reducible refine br (gP _) sG ?_|with_reducible refine bw (gP _) sG ?_|simp(disch:=omega) only[go_sem, *,dM.d,b_.d,b_.l])
   all_goals first|exact nox (zW (by first|exact .inl (by assumption)|exact .inr (.inl (by assumption))|exact .inr (.inr (.inl (by assumption)))|exact .inr (.inr (.inr (by assumption)))))|exact noa (decide_eq_false oM)|(rw[aK oM];exact⟨rfl,hall (xG (by assumption) (by assumption) (by assumption) (by assumption)),hadj (decide_eq_true oM)⟩)
 rintro σ bx ⟨h1,b1,h3,hn,hu⟩;have hlt:¬(f.gs.length:Int)<(f.gs.length:Int):=oM;rw[List.take_length]at hn hu;have yes2:=yes' hn hu;clear yes' no1 no2;simp(disch:=omega) only[go_sem,h1,b1,h3,hlt,b_.d,b_.l];clear hn hu;refine aX f.ks.length (fun j σ bx=>σ 1= .loc 1 1 0 0/\bx 1=⟨1,1,3,127,[f.d]⟩/\σ 5=I j/\(f.ks.take j).all e_=true/\dD gM (f.ks.take j)=true) ?_ ?_ ?_
 ·simp[go_sem,aR,ao,h1,b1,dD]
 ·rintro j σ bx hj ⟨h1,b1,h5,hn,hu⟩;obtain⟨x,hx⟩:=aP hj;have hlt:(j:Int)<(f.ks.length:Int):=oM;have nox:e_ x=false->bk (I 110) (I r):=fun h=>no3 (mi hx h);have hall:e_ x=true->(f.ks.take (j+1)).all e_=true:=fun h=>jg hx hn h;clear hn no3 yes2;rcases j with _|j
  ·have h5:σ 5=I 0:=h5;have hlt:(0:Int)<(f.ks.length:Int):=oM;clear hu no4;repeat' (first|with_reducible refine ar (fun _=>?_) (fun _=>?_)|with_reducible refine an (fun _=>?_) (fun _=>?_)|with_reducible refine br (fL _) sG ?_|with_reducible refine bw (fL _) sG ?_|with_reducible refine br (gP _) sG ?_|with_reducible refine bw (gP _) sG ?_|simp(disch:=omega) only[go_sem, *,eU.d,b_.d,b_.l])
   all_goals first|exact nox (Cz (by first|exact .inl (by assumption)|exact .inr (.inl (by assumption))|exact .inr (.inr (.inl (by assumption)))|exact .inr (.inr (.inr (by assumption)))))|exact⟨congrArg I (wr 1 oM oM),hall (Ab (by assumption) (by assumption) (by assumption) (by assumption)),qc _⟩
  ·obtain⟨y,hy⟩:=aP (show j<f.ks.length by omega);have hw:IntKind.i64.wrap (((j+1:Nat):Int) - 1)=(j:Int):=by rw[wr _ oM oM];omega
   have hp:(0:Int)<((j+1:Nat):Int):=oM;have hadj:gM y x=true->dD gM (f.ks.take (j+1+1))=true:=fun h=>oN hy hx hu h;have noa:gM y x=false->bk (I 110) (I r):=fun h=>no4 (sX hy hx h);clear hu no4;repeat' (first|with_reducible refine ar (fun _=>?_) (fun _=>?_)|with_reducible refine an (fun _=>?_) (fun _=>?_)|with_reducible refine br (fL _) sG ?_|with_reducible refine bw (fL _) sG ?_|with_reducible refine br (gP _) sG ?_|with_reducible refine bw (gP _) sG ?_|simp(disch:=omega) only[go_sem, *,eU.d,b_.d,b_.l])
   all_goals first|exact nox (Cz (by first|exact .inl (by assumption)|exact .inr (.inl (by assumption))|exact .inr (.inr (.inl (by assumption)))|exact .inr (.inr (.inr (by assumption)))))|exact noa (by unfold gM;rw[Bool.eq_false_iff];simp;omega)|(rw[aK oM];exact⟨rfl,hall (Ab (by assumption) (by assumption) (by assumption) (by assumption)),hadj (by unfold gM;simp;omega)⟩)
 rintro σ bx ⟨h1,b1,h5,hn,hu⟩;have hlt:¬(f.ks.length:Int)<(f.ks.length:Int):=oM;rw[List.take_length]at hn hu;simp(disch:=omega) only[go_sem,h1,b1,h5,hlt,b_.d,b_.l];exact yes2 hn hu
theorem Nb(n a b:Int):aq Tryz.prog 241 [I n,I a,I b] (.bool (aL n a b)):=by
 refine av mixed (fn:=Tryz.f241) (tab:=[]) ?_ rfl aj rfl;refine aw _ [.tmp 6] _ rfl rfl rfl aj ?_;repeat' (first|with_reducible refine ar (fun _=>?_) (fun _=>?_)|with_reducible refine an (fun _=>?_) (fun _=>?_)|simp(disch:=omega) only[go_sem, *])
 all_goals first|exact .refl _|(refine ab (congrArg D.bool ?_);first|(simp(disch:=omega) [*,aL];done)|(simp[aL]at *;omega)|(rw[Bool.eq_iff_iff];simp[aL]at *;omega))
theorem Cx(n:Int):aq Tryz.prog 383 [I n] (.bool (aL n 0 63)):=by
 refine av mixed (fn:=Tryz.f383) (tab:=[]) ?_ rfl aj rfl;refine aw _ [.tmp 2] _ rfl rfl rfl aj ?_;repeat' (first|with_reducible refine ar (fun _=>?_) (fun _=>?_)|with_reducible refine an (fun _=>?_) (fun _=>?_)|simp(disch:=omega) only[go_sem, *])
 all_goals first|exact .refl _|(refine ab (congrArg D.bool ?_);first|(simp(disch:=omega) [*,aL];done)|(simp[aL]at *;omega)|(rw[Bool.eq_iff_iff];simp[aL]at *;omega))
theorem M_(l:List Bool)(hl:l.length<=140737488355328):aq Tryz.prog 242 [.sl 1 (l.map D.bool)] (.bool (l.all id)):=by
 refine av mixed (fn:=Tryz.f242) (tab:=[]) ?_ rfl aj rfl;refine aw _ [.tmp 2] _ rfl rfl rfl aj ?_;simp(disch:=omega) only[go_sem];refine aX l.length (fun j σ bx=>σ 5= .sl 1 (l.map D.bool)/\σ 6=I l.length/\σ 7=I j/\(l.take j).all id=true) ?_ ?_ ?_
 ·simp[go_sem,aR]
 ·rintro j σ bx hj ⟨h5,h6,h7,hn⟩;obtain⟨x,hx⟩:=aP hj;have hlt:(j:Int)<(l.length:Int):=oM;have hw:IntKind.i64.wrap ((j:Int)+1)=((j+1:Nat):Int):=aK oM;simp(disch:=omega) only[go_sem,h5,h6,h7,hlt,hx];refine an (fun c=>?_) (fun c=>?_)
  ·simp(disch:=omega) only[go_sem,h5,h6,h7,hw,c];exact jg hx hn c
  ·simp(disch:=omega) only[go_sem,c];exact ab (congrArg D.bool (mi (p:=id) hx c).symm)
 ·rintro σ bx ⟨h5,h6,h7,hn⟩;have hlt:¬(l.length:Int)<(l.length:Int):=oM;simp(disch:=omega) only[go_sem,h5,h6,h7,hlt];rw[List.take_length]at hn;exact ab (congrArg D.bool hn.symm)
theorem Jy(n:Int):aq Tryz.prog 384 [I n,.cref (.fn (.func 383) []) 0] (.bool (!aL n 0 63)):=by
 refine av mixed (fn:=Tryz.f384) (tab:=[]) ?_ rfl aj rfl;refine aw _ [.tmp 3] _ rfl rfl rfl aj ?_;repeat' (first|with_reducible refine ar (fun _=>?_) (fun _=>?_)|with_reducible refine an (fun _=>?_) (fun _=>?_)|with_reducible refine br (Cx _) sG ?_|with_reducible refine bw (Cx _) sG ?_|simp(disch:=omega) only[go_sem, *])
 all_goals first|exact .refl _|(refine ab (congrArg D.bool ?_);first|(simp(disch:=omega) [*,];done)|(simp[]at *;omega)|(rw[Bool.eq_iff_iff];simp[]at *;omega))
theorem Lt(l:List Int)(hl:l.length<=140737488355328):aq Tryz.prog 382 [ints l,.fn (.func 383) []] (.bool (l.all fun n=>aL n 0 63)):=by
 have hc:=Fo (f:=384) (caps:=[.cref (.fn (.func 383) []) 0]) (p:=fun n=> !aL n 0 63) l hl (fun n _=>Jy n) (fun x=>rfl) rfl;refine av mixed (fn:=Tryz.f382) (tab:=[]) ?_ rfl aj rfl;refine aw _ [.tmp 4] _ rfl rfl rfl aj ?_;simp(disch:=omega) only[go_sem,ints];refine mu hc (by simp[go_sem,qF,D.cells,D.aF,D.pure,D.one,iB,ao,cg,lv,I]) rfl ?_;simp(disch:=omega) only[go_sem,lJ];exact .refl _
def uA(v:bL):Bool:=aL v.room 1 1099511627776&&decide (gj v.font=0)&&decide (v.fe.length=0)
theorem Im(v:bL):aq Tryz.prog 385 [v.d] (.bool (uA v)):=by
 have hc:=Fj v.font;refine av mixed (fn:=Tryz.f385) (tab:=[]) ?_ rfl aj rfl;refine aw _ [.tmp 2] _ rfl rfl rfl aj ?_;repeat' (first|with_reducible refine ar (fun _=>?_) (fun _=>?_)|with_reducible refine an (fun _=>?_) (fun _=>?_)|with_reducible refine br (hc) sG ?_|with_reducible refine bw (hc) sG ?_|simp(disch:=omega) only[go_sem, *,bL.d,b_.d,b_.l])
 all_goals (refine ab (congrArg D.bool ?_);unfold uA aL;first|(simp[*];done)|(rw[Bool.eq_iff_iff];simp[*];omega))
theorem E_:zN= .agg ((List.range 256).map fun c=>D.int .u8 (Lib.firstT c)):=aj
theorem C2:wG= .agg ((List.range 32).map fun c=>D.int .u8 ((if c % 2=0 then Lib.accLo (c / 2)else Lib.accHi (c / 2):Nat):Int)):=aj
theorem zq{w:World}{S:Nat->Prop}{v:Value}{b n:Nat}{f:Nat->Nat}(h:ba w S .glo v)(hg:ue b=some (.agg ((List.range n).map fun c=>D.int .u8 (f c)))):∀c,c<n->w.cell? ⟨b,c,none⟩=some (.int .u8 (f c)):=by
 intro c hc';have h:=glo_at h hg;cases h with
 |@cref _ _ _ off _ us hS hp hc h1 hr=>
  obtain rfl:off=0:=oM;have hx:(D.agg ((List.range n).map fun c=>D.int .u8 (f c))).cells[c]? =some (.int .u8 (f c)):=by simp[D.cells,hc']
  have h2:=hc c _ hx;have h3:=cy (hr c _ hx);rw[h3]at h2;simpa using h2
theorem Kt{w:World}{S:Nat->Prop}{v:Value}(h:ba w S .glo v):Lib.Utf8Tabs 3 4 w:=by
 have h3:=zq (b:=3) (n:=256) h (congrArg some E_);have h4:=zq (b:=4) (n:=32) h (congrArg some C2);refine⟨h3,fun i hi=>⟨?_,?_⟩⟩
 ·have:=h4 (2 * i) oM;rw[if_pos oM,show 2 * i / 2=i by omega]at this;exact this
 ·have:=h4 (2 * i+1) oM;rw[if_neg oM,show(2 * i+1) / 2=i by omega]at this;exact this
def bh(s:ah)(i:Nat):Nat:=(s[i]?.getD 0).toNat
def cM(s:ah):Nat×Nat:=if s.length=0 then(65533,0)else Lib.decodeN s.length (bh s 0) (bh s 1) (bh s 2) (bh s 3)
theorem TZ{w:World}{S:Nat->Prop}{u v:Value}{x y:D}(h1:ba w S x u)(h2:ba w S y v):ba w S (.tup [x,y]) (.tuple #[u,v]):=by
 refine .tup rfl fun i d v hd hv=>?_;rcases i with _|_|i
 ·simp at hd hv;subst hd;subst hv;exact h1
 ·simp at hd hv;subst hd;subst hv;exact h2
 ·simp at hd
theorem G0(s:ah):aq Tryz.prog 350 [.str s] (.tup [.int .i32 (cM s).1,I (cM s).2]):=by
 intro w S vs hS hg hl hv;obtain⟨u,rfl,hu⟩:=arg1 hl hv;rw[fl hu];have hd:Lib.decodeGo ⟨s.toArray⟩=cM s:=by
  have hz:(⟨s.toArray⟩:ByteArray).size=s.length:=by simp[ByteArray.size]
  have hb:∀i,((⟨s.toArray⟩:ByteArray).get! i).toNat=bh s i:=fun i=>by
   simp only[ByteArray.get!,bh];rw[getElem!_def];simp;cases s[i]?<;>rfl
  unfold Lib.decodeGo cM;rw[hz];split
  ·rfl
  ·rw[Lib.decode_at,hz,hb,hb,hb,hb];simp
 refine .inl ⟨Go.MuLone.run_callFunc_enter (fn:=Tryz.f350) rfl aj rfl _ w,Calls.mono (Any.utf8_DecodeRuneInString Tryz.lays197 ⟨s.toArray⟩ w (Kt hg)) fun e w' ⟨h1,h2⟩=>⟨_,h1,?_,h2⟩⟩;rw[hd];exact TZ (.int _ _) (.int _ _)
def jh(s:ah):Bool:=decide ((cM s).1=65533)&&decide ((cM s).2<2)
theorem iC{s:ah}(h:s≠[]):1<=(cM s).2:=by
 unfold cM;rw[if_neg (by simpa using h)];unfold Lib.decodeN;repeat' split
 all_goals simp
theorem wL{s:ah}(h:s≠[])(hb:jh s=false):(cM s).2<=s.length:=by
 have hl:0<s.length:=List.length_pos_iff.2 h;unfold jh at hb;unfold cM at hb⊢;rw[if_neg oM]at hb⊢;unfold Lib.decodeN at hb⊢;repeat' split
 all_goals first|(simp;omega)|(simp at hb;done)|(simp_all;omega)
def oy:Nat->ah->Option (List Int)
 |_,[]=>some []
 |0,_=>none
 |n+1,s=>if jh s then none else(oy n (s.drop (cM s).2)).map fun l=>((cM s).1:Int)::l
def jA(s:ah):Option (List Int):=oy s.length s
theorem tR:∀ {n m:Nat} {s:ah},s.length<=n->n<=m->oy m s=oy n s
 |n,m,[],_,_=>by cases n<;>cases m<;>rfl
 |0,m,b::s,h,_=>by simp at h
 |n+1,0,b::s,_,h=>by omega
 |n+1,m+1,b::s,h,hm=>by
  have hp:=iC (s:=b::s) sI;simp only[oy];rw[tR (n:=n) (m:=m) (by rw[List.length_drop];simp at h⊢;omega) oM]
theorem tQ{s:ah}(h:s≠[]):jA s=if jh s then none else(jA (s.drop (cM s).2)).map fun l=>((cM s).1:Int)::l:=by
 cases s with
 |nil=>exact absurd rfl h
 |cons b s=>
  have hp:=iC (s:=b::s) sI;unfold jA;simp only[List.length_cons,oy];rw[tR (n:=((b::s).drop (cM (b::s)).2).length) (m:=s.length) (Nat.le_refl _) (by rw[List.length_drop];simp;omega)]
def eT(n:Int):Bool:=decide (0<=n)&&decide (n<=1114111)&&(decide (n<55296)||decide (57343<n))
def fp(b:Int):Int×Int:=if b<128 then(1,b)else if 192<=b/\b<224 then(2,b - 192)else if 224<=b/\b<240 then(3,b - 224)else if 240<=b/\b<248 then(4,b - 240)else(0,0)
def ey(n:Int):Bool:=decide (n=9)||decide (n=10)||decide (n=13)||decide (n=32)
def sd(n:Int):Bool:=aL n 65 90||aL n 97 122||(aL n 192 591&& !decide (n=215)&& !decide (n=247))||aL n 880 1279
def ia(n:Int):Int:=if eT n=false then 0 else if ey n then 1 else if aL n 48 57 then 2 else if sd n then 3 else if aL n 1424 1983 then 4 else 0
theorem CL(n:Int):aq Tryz.prog 356 [I n] (.bool (eT n)):=by
 refine av mixed (fn:=Tryz.f356) (tab:=[]) ?_ rfl aj rfl;refine aw _ [.tmp 2] _ rfl rfl rfl aj ?_;repeat' (first|with_reducible refine ar (fun _=>?_) (fun _=>?_)|with_reducible refine an (fun _=>?_) (fun _=>?_)|simp(disch:=omega) only[go_sem, *])
 all_goals first|exact .refl _|(refine ab (congrArg D.bool ?_);first|(simp(disch:=omega) [*,eT];done)|(simp[eT]at *;omega)|(rw[Bool.eq_iff_iff];simp[eT]at *;omega))
theorem Mn(b:Int)(h0:0<=b)(h1:b<256):aq Tryz.prog 355 [I b] (.tup [I (fp b).1,I (fp b).2]):=by
 have w1:IntKind.i64.wrap (b - 192)=b - 192:=wr _ oM oM;have w2:IntKind.i64.wrap (b - 224)=b - 224:=wr _ oM oM;have w3:IntKind.i64.wrap (b - 240)=b - 240:=wr _ oM oM;refine av mixed (fn:=Tryz.f355) (tab:=[]) ?_ rfl aj rfl;refine aw _ [.tmp 2,.tmp 3] _ rfl rfl rfl aj ?_;repeat' (first|with_reducible refine ar (fun _=>?_) (fun _=>?_)|with_reducible refine an (fun _=>?_) (fun _=>?_)|simp(disch:=omega) only[go_sem, *])
 all_goals (
  refine ab ?_;unfold fp;first
   |(rw[if_pos oM];done)
   |(rw[if_neg oM,if_pos oM];done)
   |(rw[if_neg oM,if_neg oM,if_pos oM];done)
   |(rw[if_neg oM,if_neg oM,if_neg oM,if_pos oM];done)
   |(rw[if_neg oM,if_neg oM,if_neg oM,if_neg oM];done))
theorem Da(n:Int):aq Tryz.prog 342 [I n] (.bool (ey n)):=by
 refine av mixed (fn:=Tryz.f342) (tab:=[]) ?_ rfl aj rfl;refine aw _ [.tmp 2] _ rfl rfl rfl aj ?_;repeat' (first|with_reducible refine ar (fun _=>?_) (fun _=>?_)|with_reducible refine an (fun _=>?_) (fun _=>?_)|simp(disch:=omega) only[go_sem, *])
 all_goals first|exact .refl _|(refine ab (congrArg D.bool ?_);first|(simp(disch:=omega) [*,ey];done)|(simp[ey]at *;omega)|(rw[Bool.eq_iff_iff];simp[ey]at *;omega))
set_option maxHeartbeats 4000000 in
theorem Mh(n:Int):aq Tryz.prog 346 [I n] (.tup [I (ia n),I (if eT n then 0 else 90)]):=by
 have k0:eT n=false->ia n=0:=fun h=>by unfold ia;rw[if_pos h]
 have k1:eT n=true->ey n=true->ia n=1:=fun h h1=>by unfold ia;rw[if_neg (by simp[h]),if_pos h1]
 have k2:eT n=true->ey n=false->aL n 48 57=true->ia n=2:=fun h h1 h2=>by unfold ia;rw[if_neg (by simp[h]),if_neg (by simp[h1]),if_pos h2]
 have k3:eT n=true->ey n=false->aL n 48 57=false->sd n=true->ia n=3:=fun h h1 h2 h3=>by unfold ia;rw[if_neg (by simp[h]),if_neg (by simp[h1]),if_neg (by simp[h2]),if_pos h3]
 have k4:eT n=true->ey n=false->aL n 48 57=false->sd n=false->aL n 1424 1983=true->ia n=4:=fun h h1 h2 h3 h4=>by unfold ia;rw[if_neg (by simp[h]),if_neg (by simp[h1]),if_neg (by simp[h2]),if_neg (by simp[h3]),if_pos h4]
 have k5:eT n=true->ey n=false->aL n 48 57=false->sd n=false->aL n 1424 1983=false->ia n=0:=fun h h1 h2 h3 h4=>by unfold ia;rw[if_neg (by simp[h]),if_neg (by simp[h1]),if_neg (by simp[h2]),if_neg (by simp[h3]),if_neg (by simp[h4])]
 generalize hk:ia n=k at *;clear hk;refine av mixed (fn:=Tryz.f346) (tab:=[]) ?_ rfl aj rfl;refine aw _ [.tmp 2,.tmp 3] _ rfl rfl rfl aj ?_;simp(disch:=omega) only[go_sem];refine au (CL n) sG ?_;simp(disch:=omega) only[go_sem];refine an (fun c=>?_) (fun c=>?_)
 rotate_left
 ·simp(disch:=omega) only[go_sem,c];exact ab (by rw[k0 c])
 clear k0;rw[if_pos c];replace k1:=k1 c;replace k2:=k2 c;replace k3:=k3 c;replace k4:=k4 c;replace k5:=k5 c;cases hs:ey n with
 |true=>
  replace k1:=k1 hs;clear k2 k3 k4 k5;subst k1;simp only[ey,Bool.or_eq_true,decide_eq_true_eq]at hs;rcases hs with((hs|hs)|hs)|hs<;>subst hs<;>simp(disch:=omega) only[go_sem,c,decide_true,decide_false]<;>exact .refl _
 |false=>
  replace k2:=k2 hs;replace k3:=k3 hs;replace k4:=k4 hs;replace k5:=k5 hs;simp only[ey,Bool.or_eq_false_iff,decide_eq_false_iff_not]at hs;obtain⟨⟨⟨a1,a2⟩,a3⟩,a4⟩:=hs;have key:∀m:Int,(aL n 48 57=true/\m=2\/aL n 48 57=false/\sd n=true/\m=3\/aL n 48 57=false/\sd n=false/\aL n 1424 1983=true/\m=4\/aL n 48 57=false/\sd n=false/\aL n 1424 1983=false/\m=0)->bk (.tup [I m,I 0]) (.tup [I k,I 0]):=by
   rintro m (⟨h1,rfl⟩|⟨h1,h2,rfl⟩|⟨h1,h2,h3,rfl⟩|⟨h1,h2,h3,rfl⟩)
   ·rw[k2 h1];exact .refl _
   ·rw[k3 h1 h2];exact .refl _
   ·rw[k4 h1 h2 h3];exact .refl _
   ·rw[k5 h1 h2 h3];exact .refl _
  clear k1 k2 k3 k4 k5;simp(disch:=omega) only[go_sem,c,a1,a2,a3,a4,decide_false];repeat' (first|with_reducible refine ar (fun _=>?_) (fun _=>?_)|simp(disch:=omega) only[go_sem,c,a1,a2,a3,a4,decide_true,decide_false,not_true_eq_false,not_false_eq_true, *])
  all_goals (refine key _ ?_;simp[aL,sd];omega)
theorem J1(n:Int):decide (ia n=1)=ey n:=by
 unfold ia;cases hs:ey n with
 |true=>
  have hp:eT n=true:=by
   simp only[ey,Bool.or_eq_true,decide_eq_true_eq]at hs;rcases hs with((h|h)|h)|h<;>subst h<;>rfl
  rw[if_neg (by simp[hp]),if_pos rfl];rfl
 |false=>
  rw[if_neg (show ¬false=true by simp)];repeat' split
  all_goals rfl
theorem Km(n:Int):aq Tryz.prog 325 [I n] (.bool (ey n)):=by
 refine av mixed (fn:=Tryz.f325) (tab:=[]) ?_ rfl aj rfl;refine aw _ [.tmp 2] _ rfl rfl rfl aj ?_;simp(disch:=omega) only[go_sem];refine au (Mh n) sG ?_;simp(disch:=omega) only[go_sem];rw[<-J1];exact .refl _
def fB(n:Nat):ah:=if n<128 then[UInt8.ofNat n]else if n<2048 then[UInt8.ofNat (192+n / 64),UInt8.ofNat (128+n % 64)]else if n<65536 then[UInt8.ofNat (224+n / 4096),UInt8.ofNat (128+n / 64 % 64),UInt8.ofNat (128+n % 64)]else[UInt8.ofNat (240+n / 262144),UInt8.ofNat (128+n / 4096 % 64),UInt8.ofNat (128+n / 64 % 64),UInt8.ofNat (128+n % 64)]
theorem w8(x:Int)(m:Nat)(hx:x=m)(hm:m<256):D.int .u8 (IntKind.u8.wrap x)= .int .u8 ((UInt8.ofNat m).toNat:Int):=by
 subst hx;have h1:(UInt8.ofNat m).toNat=m:=by simp;omega
 rw[h1];rw[IntWalk.u8_in (m:Int) ⟨by omega,by omega⟩]
theorem Jq(n:Nat)(hn:n<=1114111):aq Tryz.prog 357 [I n] (.sl 1 ((fB n).map fun b=>D.int .u8 (b.toNat:Int))):=by
 have td:∀k:Nat,0<k->IntKind.i64.wrap ((n:Int).tdiv (k:Int))=((n / k:Nat):Int):=fun k hk=>by
  rw[show(n:Int).tdiv (k:Int)=((n / k:Nat):Int)from(Int.ofNat_tdiv n k).symm];have:n / k<=n:=Nat.div_le_self _ _;generalize n / k=q at this⊢;exact wr _ oM oM
 have t1:IntKind.i64.wrap ((n:Int).tdiv 64)=((n / 64:Nat):Int):=td 64 oM;have t2:IntKind.i64.wrap ((n:Int).tdiv 4096)=((n / 4096:Nat):Int):=td 4096 oM;have t3:IntKind.i64.wrap ((n:Int).tdiv 262144)=((n / 262144:Nat):Int):=td 262144 oM;have m0:(n:Int).tmod 64=((n % 64:Nat):Int):=Int.ofNat_tmod n 64;have m1:((n / 64:Nat):Int).tmod 64=((n / 64 % 64:Nat):Int):=Int.ofNat_tmod _ 64;have m2:((n / 4096:Nat):Int).tmod 64=((n / 4096 % 64:Nat):Int):=Int.ofNat_tmod _ 64;have a:∀(c m:Nat),c<=240->m<=1114111->IntKind.i64.wrap ((c:Int)+(m:Int))=((c+m:Nat):Int):=fun c m h1 h2=>by rw[wr _ oM oM];omega
 have b:∀c m:Nat,c<=240->m<64->c+m<256->D.int .u8 (IntKind.u8.wrap (IntKind.i64.wrap ((c:Int)+(m:Int))))= .int .u8 ((UInt8.ofNat (c+m)).toNat:Int):=fun c m h1 h2 h3=>w8 _ _ (a c m h1 oM) h3;have b128:∀m:Nat,m<64->D.int .u8 (IntKind.u8.wrap (IntKind.i64.wrap (128+(m:Int))))= .int .u8 ((UInt8.ofNat (128+m)).toNat:Int):=fun m h=>b 128 m oM h oM;have b192:∀m:Nat,m<32->D.int .u8 (IntKind.u8.wrap (IntKind.i64.wrap (192+(m:Int))))= .int .u8 ((UInt8.ofNat (192+m)).toNat:Int):=fun m h=>b 192 m oM oM oM;have b224:∀m:Nat,m<16->D.int .u8 (IntKind.u8.wrap (IntKind.i64.wrap (224+(m:Int))))= .int .u8 ((UInt8.ofNat (224+m)).toNat:Int):=fun m h=>b 224 m oM oM oM;have b240:∀m:Nat,m<8->D.int .u8 (IntKind.u8.wrap (IntKind.i64.wrap (240+(m:Int))))= .int .u8 ((UInt8.ofNat (240+m)).toNat:Int):=fun m h=>b 240 m oM oM oM;clear td b a;refine av mixed (fn:=Tryz.f357) (tab:=[]) ?_ rfl aj rfl;refine aw _ [.tmp 2] _ rfl rfl rfl aj ?_;repeat' (first|with_reducible refine ar (fun _=>?_) (fun _=>?_)|with_reducible refine an (fun _=>?_) (fun _=>?_)|simp(disch:=omega) only[go_sem, *])
 ·refine ab (congrArg (D.sl 1) ?_);rw[show fB n=[UInt8.ofNat n] by unfold fB;rw[if_pos oM]];simp only[List.map_cons,List.map_nil];rw[w8 _ n rfl oM]
 ·refine ab (congrArg (D.sl 1) ?_);rw[show fB n=[UInt8.ofNat (192+n / 64),UInt8.ofNat (128+n % 64)] by unfold fB;rw[if_neg oM,if_pos oM]];simp only[List.map_cons,List.map_nil]
 ·refine ab (congrArg (D.sl 1) ?_);rw[show fB n=[UInt8.ofNat (224+n / 4096),UInt8.ofNat (128+n / 64 % 64),UInt8.ofNat (128+n % 64)] by unfold fB;rw[if_neg oM,if_neg oM,if_pos oM]];simp only[List.map_cons,List.map_nil]
 ·refine ab (congrArg (D.sl 1) ?_);rw[show fB n=[UInt8.ofNat (240+n / 262144),UInt8.ofNat (128+n / 4096 % 64),UInt8.ofNat (128+n / 64 % 64),UInt8.ofNat (128+n % 64)] by unfold fB;rw[if_neg oM,if_neg oM,if_neg oM]];simp only[List.map_cons,List.map_nil]
end Go.V.St
