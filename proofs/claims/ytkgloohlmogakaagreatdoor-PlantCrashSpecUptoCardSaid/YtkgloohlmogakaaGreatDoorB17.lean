/- Plain laws: B17. -/
import Derived.Test.YtkgloohlmogakaaGreatDoorB16
import Derived.Test.YtkgloohlmogakaaGreatDoorS7
set_option linter.all false
set_option maxHeartbeats 8000000
set_option maxRecDepth 100000
namespace Go.V.St
open Go.Proofs Go.Proofs.Tryz Go.RowKit Go.V.Lx Go.V.Gr Go.V.Ty
def fu{α:Type}(r:α->α->Bool):List α->Bool
 |[]=>true
 |[_]=>true
 |x::y::l=>r x y&&fu r (y::l)
theorem wC{α:Type}{r:α->α->Bool}:∀ {l:List α},fu r l=true<->∀i x y,l[i]? =some x->l[i+1]? =some y->r x y=true
 |[]=>⟨fun _ i x y h=>by simp at h,fun _=>rfl⟩
 |[a]=>⟨fun _ i x y _ h=>by simp at h,fun _=>rfl⟩
 |a::b::l=>by
  rw[fu,bA,wC (l:=b::l)];constructor
  ·rintro⟨h1,h2⟩ i x y hx hy;cases i with
   |zero=>simp at hx hy;subst hx;subst hy;exact h1
   |succ i=>exact h2 i x y (by simpa using hx) (by simpa using hy)
  ·intro h;exact⟨h 0 a b rfl rfl,fun i x y hx hy=>h (i+1) x y (by simpa using hx) (by simpa using hy)⟩
theorem Aa{α:Type}{r:α->α->Bool}{l:List α}{j:Nat}{x y:α}(hx:l[j]? =some x)(hy:l[j+1]? =some y)(h:r x y=false):fu r l=false:=by
 cases hb:fu r l with
 |false=>rfl
 |true=>rw[wC.1 hb j x y hx hy]at h;cases h
def uE{α:Type}{r:α->α->Bool}{l:List α}{j:Nat}{x y:α}(hx:l[j]? =some x)(hy:l[j+1]? =some y)(h1:fu r (l.take (j+1))=true)(h:r x y=true):fu r (l.take (j+1+1))=true:=by
 refine wC.2 fun i a b ha hb=>?_;have hl:=(gS.1 hb).1;rw[List.length_take]at hl;rw[List.getElem?_take_of_lt oM]at ha hb;by_cases hi:i=j
 ·subst hi;rw[hx]at ha;rw[hy]at hb;injection ha with ha;injection hb with hb;subst ha;subst hb;exact h
 ·exact wC.1 h1 i a b (by rw[List.getElem?_take_of_lt oM];exact ha) (by rw[List.getElem?_take_of_lt oM];exact hb)
theorem wE{α:Type}{r:α->α->Bool}(l:List α):fu r (l.take 1)=true:=by
 cases l with
 |nil=>rfl
 |cons a l=>rfl
def fq(g:fM):Bool:=aO g.f 0 1114111&&aO g.t 0 1114111&&decide (g.f<=g.t)&&aO g.w 0 4096
def iF(k:iK):Bool:=aO k.a 0 1114111&&aO k.b 0 1114111&&aO k.y (-4096) 4096
def kI(x y:fM):Bool:=decide (x.t<y.f)
def kU(x y:iK):Bool:=decide (x.a<y.a)||decide (x.a=y.a)&&decide (x.b<y.b)
def j6(f:fX):Int:=if 1024<f.gs.length\/1024<f.ks.length then 2 else if aO f.o 0 4096&&f.gs.all fq&&fu kI f.gs&&f.ks.all iF&&fu kU f.ks then 0 else 110
def rH(n a b:Int):ao prog 389 [I n,I a,I b] (.bool (aO n a b)):=by
 refine aw mixed (fn:=f389) (tab:=[]) ?_ rfl ak rfl;refine ax _ [.tmp 6] _ rfl rfl rfl ak ?_;repeat' (first|with_reducible apply zJ<;>intro _|simp(disch:=omega) only[go_sem, *])
 all_goals first|exact .refl _|(refine ab (congrArg D.bool ?_);first|(simp(disch:=omega) [*,aO];done)|(simp[aO]at *;omega)|(rw[Bool.eq_iff_iff];simp[aO]at *;omega))
def SS(n:Int):ao prog 396 [I n] (.bool false):=by
 refine aw mixed (fn:=f396) (tab:=[]) ?_ rfl ak rfl;refine ax _ [.tmp 2] _ rfl rfl rfl ak ?_;repeat' (first|with_reducible apply zJ<;>intro _|simp(disch:=omega) only[go_sem, *])
 all_goals first|exact .refl _|exact ab (congrArg D.bool sI)
def PL(a b:Int):Int:=if a<b then -1 else if b<a then 1 else 0
def EI(a b:Int):ao prog 395 [I a,I b] (I (PL a b)):=by
 refine aw mixed (fn:=f395) (tab:=[]) ?_ rfl ak rfl;refine ax _ [.tmp 4] _ rfl rfl rfl ak ?_;repeat' (first|with_reducible apply zJ<;>intro _|with_reducible refine bY (SS _) sG ?_|with_reducible refine bZ (SS _) sG ?_|simp(disch:=omega) only[go_sem, *])
 all_goals exact ab (congrArg I (by unfold PL;simp[*]))
def XO(a b:Int):ao prog 394 [.sl 1 [I a,I b]] (I (if a=0 then b else a)):=by
 refine aw mixed (fn:=f394) (tab:=[]) ?_ rfl ak rfl;refine ax _ [.tmp 2] _ rfl rfl rfl ak ?_;simp(disch:=omega) only[go_sem];refine bo 2 (fun j σ bx=>σ 3=I 0/\σ 6= .sl 1 [I a,I b]/\σ 7=I 2/\σ 8=I j/\(0<j->a=0)/\(1<j->b=0)) ?_ ?_ ?_
 ·simp[go_sem,bF]
 ·rintro j σ bx hj ⟨h3,h6,h7,h8,ha,hb⟩;obtain rfl|rfl:j=0\/j=1:=oM
  ·have h8:σ 8=I 0:=h8;clear ha hb;repeat' (first|with_reducible apply zJ<;>intro _|simp(disch:=omega) only[go_sem, *,h3,h6,h7,h8])
   all_goals first|exact ab (congrArg I (by simp[*]))|exact⟨congrArg I (wr 1 oM oM),fun _=>by assumption,fun h=>by omega⟩|simp_all[wr]
  ·have h8:σ 8=I 1:=h8;have ha:=ha oM;clear hb;subst ha;repeat' (first|with_reducible apply zJ<;>intro _|simp(disch:=omega) only[go_sem, *,h3,h6,h7,h8])
   all_goals first|exact ab (congrArg I (by simp[*]))|exact⟨congrArg I (wr 2 oM oM),fun _=>rfl,fun _=>by assumption⟩|simp_all[wr]
 ·rintro σ bx ⟨h3,h6,h7,h8,ha,hb⟩;have h8:σ 8=I 2:=h8;have ha:=ha oM;have hb:=hb oM;simp(disch:=omega) only[go_sem,h3,h7,h8];exact ab (congrArg I (by simp[ha,hb]))
def Nv(x y:fM):ao prog 391 [x.d,y.d] (.bool (kI x y)):=by
 refine aw mixed (fn:=f391) (tab:=[]) ?_ rfl ak rfl;refine ax _ [.tmp 4] _ rfl rfl rfl ak ?_;repeat' (first|with_reducible apply zJ<;>intro _|simp(disch:=omega) only[go_sem, *,fM.d])
 exact .refl _
def Nw(x y:iK):ao prog 393 [x.d,y.d] (.bool (kU x y)):=by
 refine aw mixed (fn:=f393) (tab:=[(1,[(9,7),(9,5)])]) ?_ rfl ak rfl;refine ax _ [.tmp 4] _ rfl rfl rfl ak ?_;repeat' (first|with_reducible apply zJ<;>intro _|with_reducible refine bY (EI _ _) sG ?_|with_reducible refine bZ (EI _ _) sG ?_|with_reducible refine bY (XO _ _) sG ?_|with_reducible refine bZ (XO _ _) sG ?_|simp(disch:=omega) only[go_sem, *,iK.d])
 refine ab (congrArg D.bool ?_);unfold PL kU;by_cases h1:x.a<y.a
 ·simp[h1]
 ·by_cases h2:x.a=y.a
  ·simp[h2];by_cases h3:x.b<y.b
   ·simp[h3]
   ·simp[h3];split<;>decide
  ·have h3:y.a<x.a:=oM;simp[h1,h2,h3]
def Jv{f:FuncId}{r:fM->fM->Bool}(l:List fM)(hl:l.length<=140737488355328)(hf:∀x y:fM,ao prog f [x.d,y.d] (.bool (r x y))):ao prog 390 [.sl 3 (l.map fM.d),.fn (.func f) []] (.bool (fu r l)):=by
 refine aw mixed (fn:=f390) (tab:=[]) ?_ rfl ak rfl;refine ax _ [.tmp 4] _ rfl rfl rfl ak ?_;simp(disch:=omega) only[go_sem];refine bo (l.length - 1) (fun j σ bx=>σ 0= .sl 3 (l.map fM.d)/\σ 1= .fn (.func f) []/\σ 5=I ((j:Int)+1)/\fu r (l.take (j+1))=true) ?_ ?_ ?_
 ·simp[go_sem,bF,wE]
 ·rintro j σ bx hj ⟨h0,h1,h5,hn⟩;obtain⟨x,hx⟩:=ba (show j<l.length by omega);obtain⟨y,hy⟩:=ba (show j+1<l.length by omega);have ar:(j:Int)+1<(l.length:Int):=oM;have hw:IntKind.i64.wrap ((j:Int)+1 - 1)=(j:Int):=by rw[wr _ oM oM];omega
  have hZ:IntKind.i64.wrap ((j:Int)+1+1)=(j:Int)+1+1:=wr _ oM oM;have oB:l[((j:Int)+1).toNat]? =some y:=by rw[show((j:Int)+1).toNat=j+1 by omega];exact hy
  have kK:=hf x y;simp(disch:=omega) only[go_sem,h0,h1,h5,ar,hw,hx,oB,fM.d];refine av kK sG ?_;simp(disch:=omega) only[go_sem];refine aZ (fun c=>?_) (fun c=>?_)
  ·simp(disch:=omega) only[go_sem,h0,h1,h5,hZ,c];exact⟨congrArg I oM,uE hx hy hn c⟩
  ·simp(disch:=omega) only[go_sem,c];exact ab (congrArg D.bool (Aa hx hy c).symm)
 ·rintro σ bx ⟨h0,h1,h5,hn⟩;have ar:¬((l.length - 1:Nat):Int)+1<(l.length:Int):=oM;simp(disch:=omega) only[go_sem,h0,h5,ar];rw[List.take_of_length_le oM]at hn;exact ab (congrArg D.bool hn.symm)
def Mv{f:FuncId}{r:iK->iK->Bool}(l:List iK)(hl:l.length<=140737488355328)(hf:∀x y:iK,ao prog f [x.d,y.d] (.bool (r x y))):ao prog 392 [.sl 3 (l.map iK.d),.fn (.func f) []] (.bool (fu r l)):=by
 refine aw mixed (fn:=f392) (tab:=[]) ?_ rfl ak rfl;refine ax _ [.tmp 4] _ rfl rfl rfl ak ?_;simp(disch:=omega) only[go_sem];refine bo (l.length - 1) (fun j σ bx=>σ 0= .sl 3 (l.map iK.d)/\σ 1= .fn (.func f) []/\σ 5=I ((j:Int)+1)/\fu r (l.take (j+1))=true) ?_ ?_ ?_
 ·simp[go_sem,bF,wE]
 ·rintro j σ bx hj ⟨h0,h1,h5,hn⟩;obtain⟨x,hx⟩:=ba (show j<l.length by omega);obtain⟨y,hy⟩:=ba (show j+1<l.length by omega);have ar:(j:Int)+1<(l.length:Int):=oM;have hw:IntKind.i64.wrap ((j:Int)+1 - 1)=(j:Int):=by rw[wr _ oM oM];omega
  have hZ:IntKind.i64.wrap ((j:Int)+1+1)=(j:Int)+1+1:=wr _ oM oM;have oB:l[((j:Int)+1).toNat]? =some y:=by rw[show((j:Int)+1).toNat=j+1 by omega];exact hy
  have kK:=hf x y;simp(disch:=omega) only[go_sem,h0,h1,h5,ar,hw,hx,oB,iK.d];refine av kK sG ?_;simp(disch:=omega) only[go_sem];refine aZ (fun c=>?_) (fun c=>?_)
  ·simp(disch:=omega) only[go_sem,h0,h1,h5,hZ,c];exact⟨congrArg I oM,uE hx hy hn c⟩
  ·simp(disch:=omega) only[go_sem,c];exact ab (congrArg D.bool (Aa hx hy c).symm)
 ·rintro σ bx ⟨h0,h1,h5,hn⟩;have ar:¬((l.length - 1:Nat):Int)+1<(l.length:Int):=oM;simp(disch:=omega) only[go_sem,h0,h5,ar];rw[List.take_of_length_le oM]at hn;exact ab (congrArg D.bool hn.symm)
def Gi{α:Type}{p:α->Bool}{l:List α}{j:Nat}{x:α}(hx:l[j]? =some x):(l.take (j+1)).all p=((l.take j).all p&&p x):=by rw[List.take_add_one,hx];simp only[Option.toList_some,List.all_append,List.all_cons,List.all_nil,Bool.and_true]
def Ql(g:fM):fq g=(aO g.f 0 g.t&&decide (g.t<=1114111)&&aO g.w 0 4096):=by unfold fq aO;rw[Bool.eq_iff_iff];simp;omega
def NH(f:fX):ao prog 388 [f.d] (I (j6 f)):=by
 refine aw mixed (fn:=f388) (tab:=[]) ?_ rfl ak rfl;refine ax _ [.tmp 2] _ rfl rfl rfl ak ?_;simp(disch:=omega) only[go_sem,fX.d,fX.l];have big:(1024<f.gs.length\/1024<f.ks.length)->bN (I 2) (I (j6 f)):=fun h=>ab (congrArg I (by unfold j6;rw[if_pos h]));refine bh (fun c1=>?_) (fun c1=>?_)
 ·simp(disch:=omega) only[go_sem,c1,decide_true];exact big (.inl oM)
 simp(disch:=omega) only[go_sem,c1,decide_false];refine bh (fun c2=>?_) (fun c2=>?_)
 ·simp(disch:=omega) only[go_sem,c2,decide_true];exact big (.inr oM)
 have e:j6 f=if aO f.o 0 4096&&f.gs.all fq&&fu kI f.gs&&f.ks.all iF&&fu kU f.ks then 0 else 110:=by unfold j6;rw[if_neg oM]
 have no:(aO f.o 0 4096&&f.gs.all fq&&fu kI f.gs&&f.ks.all iF&&fu kU f.ks)=false->bN (I 110) (I (j6 f)):=fun h=>ab (congrArg I (by rw[e,h];rfl));have yes:(aO f.o 0 4096&&f.gs.all fq&&fu kI f.gs&&f.ks.all iF&&fu kU f.ks)=true->bN (I 0) (I (j6 f)):=fun h=>ab (congrArg I (by rw[e,h];rfl));clear e big;generalize j6 f=r at *;simp(disch:=omega) only[go_sem,c2,decide_false];refine av (rH _ _ _) sG ?_;simp(disch:=omega) only[go_sem,c2,decide_false];refine bo f.gs.length (fun j σ bx=>σ 1= .loc 1 1 0 0/\bx 1=⟨1,1,3,127,[f.d]⟩/\σ 22= .sl 3 (f.gs.map fM.d)/\σ 23=I f.gs.length/\σ 24=I j/\σ 3= .bool (aO f.o 0 4096&&(f.gs.take j).all fq)) ?_ ?_ ?_
 ·simp[go_sem,aj,Bx.none]
 ·rintro j σ bx hj ⟨h1,b1,VV,G5,NM,h3⟩;obtain⟨x,hx⟩:=ba hj;have ar:(j:Int)<(f.gs.length:Int):=oM;have hw:IntKind.i64.wrap ((j:Int)+1)=((j+1:Nat):Int):=aE oM;rw[Gi hx,<-Bool.and_assoc];generalize(aO f.o 0 4096&&(f.gs.take j).all fq)=b at *;clear no yes;repeat' (first|with_reducible apply zJ<;>intro _|with_reducible refine bY (rH _ _ _) sG ?_|with_reducible refine bZ (rH _ _ _) sG ?_|simp(disch:=omega) only[go_sem, *,fM.d])
  all_goals exact congrArg D.bool (by simp_all[Ql]<;>(intro h;omega))
 rintro σ bx ⟨h1,b1,VV,G5,NM,h3⟩;have ar:¬(f.gs.length:Int)<(f.gs.length:Int):=oM;rw[tL]at h3;simp(disch:=omega) only[go_sem,h1,b1,G5,NM,ar,fX.d,fX.l];refine bo f.ks.length (fun j σ bx=>σ 1= .loc 1 1 0 0/\bx 1=⟨1,1,3,127,[f.d]⟩/\σ 48= .sl 3 (f.ks.map iK.d)/\σ 49=I f.ks.length/\σ 50=I j/\σ 3= .bool (aO f.o 0 4096&&f.gs.all fq&&(f.ks.take j).all iF)) ?_ ?_ ?_
 ·simp[go_sem,aj,h1,b1,h3]
 ·rintro j σ bx hj ⟨h1,b1,VV,G5,NM,h3⟩;obtain⟨x,hx⟩:=ba hj;have ar:(j:Int)<(f.ks.length:Int):=oM;have hw:IntKind.i64.wrap ((j:Int)+1)=((j+1:Nat):Int):=aE oM;rw[Gi hx,<-Bool.and_assoc];generalize(aO f.o 0 4096&&f.gs.all fq&&(f.ks.take j).all iF)=b at *;clear no yes;repeat' (first|with_reducible apply zJ<;>intro _|with_reducible refine bY (rH _ _ _) sG ?_|with_reducible refine bZ (rH _ _ _) sG ?_|simp(disch:=omega) only[go_sem, *,iK.d])
  all_goals exact congrArg D.bool (by simp_all[iF])
 rintro σ bx ⟨h1,b1,VV,G5,NM,h3⟩;have ar:¬(f.ks.length:Int)<(f.ks.length:Int):=oM;rw[tL]at h3;simp(disch:=omega) only[go_sem,G5,NM,h3,ar];refine aZ (fun c3=>?_) (fun c3=>?_)
 rotate_left
 ·simp(disch:=omega) only[go_sem,c3];exact no (by revert c3;cases aO f.o 0 4096<;>cases f.gs.all fq<;>cases f.ks.all iF<;>simp)
 simp only[bA]at c3;obtain⟨⟨c3,c4⟩,c5⟩:=c3;simp(disch:=omega) only[go_sem,h1,b1,c3,c4,c5,Bool.and_self,fX.d,fX.l];refine av (Jv f.gs oM Nv) sG ?_;simp(disch:=omega) only[go_sem,c3,c4,c5,Bool.and_self];refine aZ (fun c6=>?_) (fun c6=>?_)
 rotate_left
 ·simp(disch:=omega) only[go_sem,c3,c4,c5,c6,Bool.and_self];exact no (by rw[c6];simp)
 simp(disch:=omega) only[go_sem,h1,b1,c3,c4,c5,c6,Bool.and_self,fX.d,fX.l];refine av (Mv f.ks oM Nw) sG ?_;simp(disch:=omega) only[go_sem,c3,c4,c5,c6,Bool.and_self];refine aZ (fun c7=>?_) (fun c7=>?_)
 ·simp(disch:=omega) only[go_sem,c3,c4,c5,c6,c7,Bool.and_self];exact yes (by rw[c3,c4,c5,c6,c7];rfl)
 ·simp(disch:=omega) only[go_sem,c3,c4,c5,c6,c7,Bool.and_self];exact no (by rw[c7];simp)
def jB(n:Int):ao prog 304 [I n] (.bool (aO n 0 4096)):=by
 refine aw mixed (fn:=f304) (tab:=[]) ?_ rfl ak rfl;refine ax _ [.tmp 2] _ rfl rfl rfl ak ?_;repeat' (first|with_reducible apply zJ<;>intro _|simp(disch:=omega) only[go_sem, *])
 all_goals first|exact .refl _|(refine ab (congrArg D.bool ?_);first|(simp(disch:=omega) [*,aO];done)|(simp[aO]at *;omega)|(rw[Bool.eq_iff_iff];simp[aO]at *;omega))
def kX(n:Int):ao prog 305 [I n] (.bool (aO n 0 1114111)):=by
 refine aw mixed (fn:=f305) (tab:=[]) ?_ rfl ak rfl;refine ax _ [.tmp 2] _ rfl rfl rfl ak ?_;repeat' (first|with_reducible apply zJ<;>intro _|simp(disch:=omega) only[go_sem, *])
 all_goals first|exact .refl _|(refine ab (congrArg D.bool ?_);first|(simp(disch:=omega) [*,aO];done)|(simp[aO]at *;omega)|(rw[Bool.eq_iff_iff];simp[aO]at *;omega))
def G2{x:fM}(h:aO x.f 0 1114111=false\/aO x.t 0 1114111=false\/x.t<x.f\/aO x.w 0 4096=false):fq x=false:=by
 unfold fq;rcases h with h|h|h|h
 ·simp[h]
 ·simp[h]
 ·rw[decide_eq_false oM];simp
 ·simp[h]
def EV{x:fM}(h1:aO x.f 0 1114111=true)(h2:aO x.t 0 1114111=true)(h3:¬x.t<x.f)(h4:aO x.w 0 4096=true):fq x=true:=by unfold fq;rw[h1,h2,h4,decide_eq_true oM];rfl
def Ku{x:iK}(h:aO x.a 0 1114111=false\/aO x.b 0 1114111=false\/x.y< -4096\/4096<x.y):iF x=false:=by
 unfold iF;rcases h with h|h|h|h
 ·simp[h]
 ·simp[h]
 ·simp[aO];intros;omega
 ·simp[aO];intros;omega
def HF{x:iK}(h1:aO x.a 0 1114111=true)(h2:aO x.b 0 1114111=true)(h3:¬x.y< -4096)(h4:¬4096<x.y):iF x=true:=by unfold iF;rw[h1,h2];simp[aO];omega
def Mg(f:fX):ao prog 259 [f.d] (I (j6 f)):=by
 refine aw mixed (fn:=f259) (tab:=[]) ?_ rfl ak rfl;refine ax _ [.tmp 2] _ rfl rfl rfl ak ?_;simp(disch:=omega) only[go_sem,fX.d,fX.l];have big:(1024<f.gs.length\/1024<f.ks.length)->bN (I 2) (I (j6 f)):=fun h=>ab (congrArg I (by unfold j6;rw[if_pos h]));refine bh (fun c1=>?_) (fun c1=>?_)
 ·simp(disch:=omega) only[go_sem,c1,decide_true];exact big (.inl oM)
 simp(disch:=omega) only[go_sem,c1,decide_false];refine bh (fun c2=>?_) (fun c2=>?_)
 ·simp(disch:=omega) only[go_sem,c2,decide_true];exact big (.inr oM)
 have e:j6 f=if aO f.o 0 4096&&f.gs.all fq&&fu kI f.gs&&f.ks.all iF&&fu kU f.ks then 0 else 110:=by unfold j6;rw[if_neg oM]
 have no:(aO f.o 0 4096&&f.gs.all fq&&fu kI f.gs&&f.ks.all iF&&fu kU f.ks)=false->bN (I 110) (I (j6 f)):=fun h=>ab (congrArg I (by rw[e,h];rfl));have yes:(aO f.o 0 4096&&f.gs.all fq&&fu kI f.gs&&f.ks.all iF&&fu kU f.ks)=true->bN (I 0) (I (j6 f)):=fun h=>ab (congrArg I (by rw[e,h];rfl));clear e big;generalize j6 f=r at *;simp(disch:=omega) only[go_sem,c2,decide_false];refine av (jB _) sG ?_;simp(disch:=omega) only[go_sem,c2,decide_false];refine aZ (fun c3=>?_) (fun c3=>?_)
 rotate_left
 ·simp(disch:=omega) only[go_sem,c3];exact no (by rw[c3];rfl)
 have XB:f.gs.all fq=false->bN (I 110) (I r):=fun h=>no (by rw[h];simp);have SU:fu kI f.gs=false->bN (I 110) (I r):=fun h=>no (by rw[h];simp);have XC:f.ks.all iF=false->bN (I 110) (I r):=fun h=>no (by rw[h];simp);have SV:fu kU f.ks=false->bN (I 110) (I r):=fun h=>no (by rw[h];simp);have RQ:f.gs.all fq=true->fu kI f.gs=true->f.ks.all iF=true->fu kU f.ks=true->bN (I 0) (I r):=fun h1 h2 h3 h4=>yes (by rw[c3,h1,h2,h3,h4];rfl);clear no yes;simp(disch:=omega) only[go_sem];refine bo f.gs.length (fun j σ bx=>σ 1= .loc 1 1 0 0/\bx 1=⟨1,1,3,127,[f.d]⟩/\σ 3=I j/\(f.gs.take j).all fq=true/\fu kI (f.gs.take j)=true) ?_ ?_ ?_
 ·simp[go_sem,aj,Bx.none,fu]
 ·rintro j σ bx hj ⟨h1,b1,h3,hn,hu⟩;obtain⟨x,hx⟩:=ba hj;have ar:(j:Int)<(f.gs.length:Int):=oM;have nox:fq x=false->bN (I 110) (I r):=fun h=>XB (ry hx h);have eH:fq x=true->(f.gs.take (j+1)).all fq=true:=fun h=>m_ hx hn h;clear hn XB XC SV RQ;rcases j with _|j
  ·have h3:σ 3=I 0:=h3;have ar:(0:Int)<(f.gs.length:Int):=oM;clear hu SU;repeat' (first|with_reducible apply zJ<;>intro _|with_reducible refine bY (jB _) sG ?_|with_reducible refine bZ (jB _) sG ?_|with_reducible refine bY (kX _) sG ?_|with_reducible refine bZ (kX _) sG ?_|simp(disch:=omega) only[go_sem, *,fM.d,fX.d,fX.l])
   all_goals first|exact nox (G2 (by first|exact .inl (by assumption)|exact .inr (.inl (by assumption))|exact .inr (.inr (.inl (by assumption)))|exact .inr (.inr (.inr (by assumption)))))|exact⟨congrArg I (wr 1 oM oM),eH (EV (by assumption) (by assumption) (by assumption) (by assumption)),wE _⟩
  ·obtain⟨y,hy⟩:=ba (show j<f.gs.length by omega);have hw:IntKind.i64.wrap (((j+1:Nat):Int) - 1)=(j:Int):=by rw[wr _ oM oM];omega
   have hp:(0:Int)<((j+1:Nat):Int):=oM;have Qq:kI y x=true->fu kI (f.gs.take (j+1+1))=true:=fun h=>uE hy hx hu h;have noa:kI y x=false->bN (I 110) (I r):=fun h=>SU (Aa hy hx h);clear hu SU;repeat' (first|with_reducible apply zJ<;>intro _|with_reducible refine bY (jB _) sG ?_|with_reducible refine bZ (jB _) sG ?_|with_reducible refine bY (kX _) sG ?_|with_reducible refine bZ (kX _) sG ?_|simp(disch:=omega) only[go_sem, *,fM.d,fX.d,fX.l])
   all_goals first|exact nox (G2 (by first|exact .inl (by assumption)|exact .inr (.inl (by assumption))|exact .inr (.inr (.inl (by assumption)))|exact .inr (.inr (.inr (by assumption)))))|exact noa (decide_eq_false oM)|(rw[aE oM];exact⟨rfl,eH (EV (by assumption) (by assumption) (by assumption) (by assumption)),Qq (decide_eq_true oM)⟩)
 rintro σ bx ⟨h1,b1,h3,hn,hu⟩;have ar:¬(f.gs.length:Int)<(f.gs.length:Int):=oM;rw[tL]at hn hu;have YB:=RQ hn hu;clear RQ XB SU;simp(disch:=omega) only[go_sem,h1,b1,h3,ar,fX.d,fX.l];clear hn hu;refine bo f.ks.length (fun j σ bx=>σ 1= .loc 1 1 0 0/\bx 1=⟨1,1,3,127,[f.d]⟩/\σ 5=I j/\(f.ks.take j).all iF=true/\fu kU (f.ks.take j)=true) ?_ ?_ ?_
 ·simp[go_sem,aj,h1,b1,fu]
 ·rintro j σ bx hj ⟨h1,b1,h5,hn,hu⟩;obtain⟨x,hx⟩:=ba hj;have ar:(j:Int)<(f.ks.length:Int):=oM;have nox:iF x=false->bN (I 110) (I r):=fun h=>XC (ry hx h);have eH:iF x=true->(f.ks.take (j+1)).all iF=true:=fun h=>m_ hx hn h;clear hn XC YB;rcases j with _|j
  ·have h5:σ 5=I 0:=h5;have ar:(0:Int)<(f.ks.length:Int):=oM;clear hu SV;repeat' (first|with_reducible apply zJ<;>intro _|with_reducible refine bY (jB _) sG ?_|with_reducible refine bZ (jB _) sG ?_|with_reducible refine bY (kX _) sG ?_|with_reducible refine bZ (kX _) sG ?_|simp(disch:=omega) only[go_sem, *,iK.d,fX.d,fX.l])
   all_goals first|exact nox (Ku (by first|exact .inl (by assumption)|exact .inr (.inl (by assumption))|exact .inr (.inr (.inl (by assumption)))|exact .inr (.inr (.inr (by assumption)))))|exact⟨congrArg I (wr 1 oM oM),eH (HF (by assumption) (by assumption) (by assumption) (by assumption)),wE _⟩
  ·obtain⟨y,hy⟩:=ba (show j<f.ks.length by omega);have hw:IntKind.i64.wrap (((j+1:Nat):Int) - 1)=(j:Int):=by rw[wr _ oM oM];omega
   have hp:(0:Int)<((j+1:Nat):Int):=oM;have Qq:kU y x=true->fu kU (f.ks.take (j+1+1))=true:=fun h=>uE hy hx hu h;have noa:kU y x=false->bN (I 110) (I r):=fun h=>SV (Aa hy hx h);clear hu SV;repeat' (first|with_reducible apply zJ<;>intro _|with_reducible refine bY (jB _) sG ?_|with_reducible refine bZ (jB _) sG ?_|with_reducible refine bY (kX _) sG ?_|with_reducible refine bZ (kX _) sG ?_|simp(disch:=omega) only[go_sem, *,iK.d,fX.d,fX.l])
   all_goals first|exact nox (Ku (by first|exact .inl (by assumption)|exact .inr (.inl (by assumption))|exact .inr (.inr (.inl (by assumption)))|exact .inr (.inr (.inr (by assumption)))))|exact noa (by unfold kU;rw[Bool.eq_false_iff];simp;omega)|(rw[aE oM];exact⟨rfl,eH (HF (by assumption) (by assumption) (by assumption) (by assumption)),Qq (by unfold kU;simp;omega)⟩)
 rintro σ bx ⟨h1,b1,h5,hn,hu⟩;have ar:¬(f.ks.length:Int)<(f.ks.length:Int):=oM;rw[tL]at hn hu;simp(disch:=omega) only[go_sem,h1,b1,h5,ar,fX.d,fX.l];exact YB hn hu
def Yv(n a b:Int):ao prog 241 [I n,I a,I b] (.bool (aO n a b)):=by
 refine aw mixed (fn:=f241) (tab:=[]) ?_ rfl ak rfl;refine ax _ [.tmp 6] _ rfl rfl rfl ak ?_;repeat' (first|with_reducible apply zJ<;>intro _|simp(disch:=omega) only[go_sem, *])
 all_goals first|exact .refl _|(refine ab (congrArg D.bool ?_);first|(simp(disch:=omega) [*,aO];done)|(simp[aO]at *;omega)|(rw[Bool.eq_iff_iff];simp[aO]at *;omega))
def Ks(n:Int):ao prog 383 [I n] (.bool (aO n 0 63)):=by
 refine aw mixed (fn:=f383) (tab:=[]) ?_ rfl ak rfl;refine ax _ [.tmp 2] _ rfl rfl rfl ak ?_;repeat' (first|with_reducible apply zJ<;>intro _|simp(disch:=omega) only[go_sem, *])
 all_goals first|exact .refl _|(refine ab (congrArg D.bool ?_);first|(simp(disch:=omega) [*,aO];done)|(simp[aO]at *;omega)|(rw[Bool.eq_iff_iff];simp[aO]at *;omega))
def Yt(l:List Bool)(hl:l.length<=140737488355328):ao prog 242 [.sl 1 (l.map D.bool)] (.bool (l.all id)):=by
 refine aw mixed (fn:=f242) (tab:=[]) ?_ rfl ak rfl;refine ax _ [.tmp 2] _ rfl rfl rfl ak ?_;simp(disch:=omega) only[go_sem];refine bo l.length (fun j σ bx=>σ 5= .sl 1 (l.map D.bool)/\σ 6=I l.length/\σ 7=I j/\(l.take j).all id=true) ?_ ?_ ?_
 ·simp[go_sem,bF]
 ·rintro j σ bx hj ⟨h5,h6,h7,hn⟩;obtain⟨x,hx⟩:=ba hj;have ar:(j:Int)<(l.length:Int):=oM;have hw:IntKind.i64.wrap ((j:Int)+1)=((j+1:Nat):Int):=aE oM;simp(disch:=omega) only[go_sem,h5,h6,h7,ar,hx];refine aZ (fun c=>?_) (fun c=>?_)
  ·simp(disch:=omega) only[go_sem,h5,h6,h7,hw,c];exact m_ hx hn c
  ·simp(disch:=omega) only[go_sem,c];exact ab (congrArg D.bool (ry (p:=id) hx c).symm)
 ·rintro σ bx ⟨h5,h6,h7,hn⟩;have ar:¬(l.length:Int)<(l.length:Int):=oM;simp(disch:=omega) only[go_sem,h6,h7,ar];rw[tL]at hn;exact ab (congrArg D.bool hn.symm)
def Tw(n:Int):ao prog 384 [I n,.cG (.fn (.func 383) []) 0] (.bool (!aO n 0 63)):=by
 refine aw mixed (fn:=f384) (tab:=[]) ?_ rfl ak rfl;refine ax _ [.tmp 3] _ rfl rfl rfl ak ?_;repeat' (first|with_reducible apply zJ<;>intro _|with_reducible refine bY (Ks _) sG ?_|with_reducible refine bZ (Ks _) sG ?_|simp(disch:=omega) only[go_sem, *])
 all_goals first|exact .refl _|(refine ab (congrArg D.bool ?_);first|(simp(disch:=omega) [*,];done)|(simp[]at *;omega)|(rw[Bool.eq_iff_iff];simp[]at *;omega))
def VA(l:List Int)(hl:l.length<=140737488355328):ao prog 382 [ints l,.fn (.func 383) []] (.bool (l.all fun n=>aO n 0 63)):=by
 have hc:=NR (f:=384) (caps:=[.cG (.fn (.func 383) []) 0]) (p:=fun n=> !aO n 0 63) l hl (fun n _=>Tw n) (fun x=>rfl) rfl;refine aw mixed (fn:=f382) (tab:=[]) ?_ rfl ak rfl;refine ax _ [.tmp 4] _ rfl rfl rfl ak ?_;simp(disch:=omega) only[go_sem,ints];refine pA hc (by simp[go_sem,D.aF,D.pure,lD,aj,cY]) rfl ?_;simp(disch:=omega) only[go_sem,qI];exact .refl _
def BV(v:cM):Bool:=aO v.room 1 1099511627776&&decide (j6 v.jw=0)&&decide (v.iJ.length=0)
def Rq(v:cM):ao prog 385 [v.d] (.bool (BV v)):=by
 have hc:=NH v.jw;refine aw mixed (fn:=f385) (tab:=[]) ?_ rfl ak rfl;refine ax _ [.tmp 2] _ rfl rfl rfl ak ?_;repeat' (first|with_reducible apply zJ<;>intro _|with_reducible refine bY (hc) sG ?_|with_reducible refine bZ (hc) sG ?_|simp(disch:=omega) only[go_sem, *,cM.d,fX.d,fX.l])
 all_goals (refine ab (congrArg D.bool ?_);unfold BV aO;first|(simp[*];done)|(rw[Bool.eq_iff_iff];simp[*];omega))
def Nx:GS= .agg ((List.range 256).map fun c=>D.int .u8 (Lib.firstT c)):=ak
def KY:DV= .agg ((List.range 32).map fun c=>D.int .u8 ((if c % 2=0 then Lib.accLo (c / 2)else Lib.accHi (c / 2):Nat):Int)):=ak
def GA{w:World}{S:Nat->Prop}{v:Value}{b n:Nat}{f:Nat->Nat}(h:bB w S .fK v)(hg:Bt b=some (.agg ((List.range n).map fun c=>D.int .u8 (f c)))):∀c,c<n->w.cell? ⟨b,c,none⟩=some (.int .u8 (f c)):=by
 intro c fT;have h:=glo_at h hg;cases h with
 |@cG _ _ _ off _ us hS hp hc h1 hr=>
  obtain rfl:off=0:=oM;have hx:(D.agg ((List.range n).map fun c=>D.int .u8 (f c))).cells[c]? =some (.int .u8 (f c)):=by simp[D.cells,fT]
  have h2:=hc c _ hx;have h3:=ed (hr c _ hx);rw[h3]at h2;simpa using h2
def Uw{w:World}{S:Nat->Prop}{v:Value}(h:bB w S .fK v):Lib.Utf8Tabs 3 4 w:=by
 have h3:=GA (b:=3) (n:=256) h (congrArg some Nx);have h4:=GA (b:=4) (n:=32) h (congrArg some KY);refine⟨h3,fun i hi=>⟨?_,?_⟩⟩
 ·have:=h4 (2 * i) oM;rw[if_pos oM,show 2 * i / 2=i by omega]at this;exact this
 ·have:=h4 (2 * i+1) oM;rw[if_neg oM,show(2 * i+1) / 2=i by omega]at this;exact this
def bI(s:ah)(i:Nat):Nat:=(s[i]?.getD 0).toNat
def eC(s:ah):Nat×Nat:=if s.length=0 then(65533,0)else Lib.decodeN s.length (bI s 0) (bI s 1) (bI s 2) (bI s 3)
def agU{w:World}{S:Nat->Prop}{u v:Value}{x y:D}(h1:bB w S x u)(h2:bB w S y v):bB w S (.aI [x,y]) (.tuple #[u,v]):=by
 refine .aI rfl fun i d v hd hv=>?_;rcases i with _|_|i
 ·simp at hd hv;subst hd;subst hv;exact h1
 ·simp at hd hv;subst hd;subst hv;exact h2
 ·simp at hd
def PT(s:ah):ao prog 350 [.str s] (.aI [.int .i32 (eC s).1,I (eC s).2]):=by
 intro w S vs hS hg hl hv;obtain⟨u,rfl,hu⟩:=Vg hl hv;rw[iW hu];have hd:Lib.decodeGo ⟨s.toArray⟩=eC s:=by
  have hz:(⟨s.toArray⟩:ByteArray).size=s.length:=by simp[ByteArray.size]
  have hb:∀i,((⟨s.toArray⟩:ByteArray).get! i).toNat=bI s i:=fun i=>by
   simp only[ByteArray.get!,bI];rw[getElem!_def];simp;cases s[i]?<;>rfl
  unfold Lib.decodeGo eC;rw[hz];split
  ·rfl
  ·rw[Lib.decode_at,hz,hb,hb,hb,hb];simp
 refine .inl ⟨Go.MuLone.run_callFunc_enter (fn:=f350) rfl ak rfl _ w,Calls.mono (Any.utf8_DecodeRuneInString Tryz.T6 ⟨s.toArray⟩ w (Uw hg)) fun e w' ⟨h1,h2⟩=>⟨_,h1,?_,h2⟩⟩;rw[hd];exact agU (.int _ _) (.int _ _)
def na(s:ah):Bool:=decide ((eC s).1=65533)&&decide ((eC s).2<2)
def l_{s:ah}(h:s≠[]):1<=(eC s).2:=by
 unfold eC;rw[if_neg (by simpa using h)];unfold Lib.decodeN;repeat' split
 all_goals simp
def D3{s:ah}(h:s≠[])(hb:na s=false):(eC s).2<=s.length:=by
 have hl:0<s.length:=List.length_pos_iff.2 h;unfold na at hb;unfold eC at hb⊢;rw[if_neg oM]at hb⊢;unfold Lib.decodeN at hb⊢;repeat' split
 all_goals first|(simp;omega)|(simp at hb;done)|(simp_all;omega)
def uj:Nat->ah->Option (List Int)
 |_,[]=>some []
 |0,_=>none
 |n+1,s=>if na s then none else(uj n (s.drop (eC s).2)).map fun l=>((eC s).1:Int)::l
def nM(s:ah):Option (List Int):=uj s.length s
theorem Ba:∀ {n m:Nat} {s:ah},s.length<=n->n<=m->uj m s=uj n s
 |n,m,[],_,_=>by cases n<;>cases m<;>rfl
 |0,m,b::s,h,_=>by simp at h
 |n+1,0,b::s,_,h=>by omega
 |n+1,m+1,b::s,h,hm=>by
  have hp:=l_ (s:=b::s) sI;simp only[uj];rw[Ba (n:=n) (m:=m) (by rw[List.length_drop];simp at h⊢;omega) oM]
theorem A_{s:ah}(h:s≠[]):nM s=if na s then none else(nM (s.drop (eC s).2)).map fun l=>((eC s).1:Int)::l:=by
 cases s with
 |nil=>exact absurd rfl h
 |cons b s=>
  have hp:=l_ (s:=b::s) sI;unfold nM;simp only[List.length_cons,uj];rw[Ba (n:=((b::s).drop (eC (b::s)).2).length) (m:=s.length) (Nat.le_refl _) (by rw[List.length_drop];simp;omega)]
def iy(n:Int):Bool:=decide (0<=n)&&decide (n<=1114111)&&(decide (n<55296)||decide (57343<n))
def iY(b:Int):Int×Int:=if b<128 then(1,b)else if 192<=b/\b<224 then(2,b - 192)else if 224<=b/\b<240 then(3,b - 224)else if 240<=b/\b<248 then(4,b - 240)else(0,0)
def gD(n:Int):Bool:=decide (n=9)||decide (n=10)||decide (n=13)||decide (n=32)
def zh(n:Int):Bool:=aO n 65 90||aO n 97 122||(aO n 192 591&& !decide (n=215)&& !decide (n=247))||aO n 880 1279
def lH(n:Int):Int:=if iy n=false then 0 else if gD n then 1 else if aO n 48 57 then 2 else if zh n then 3 else if aO n 1424 1983 then 4 else 0
def KF(n:Int):ao prog 356 [I n] (.bool (iy n)):=by
 refine aw mixed (fn:=f356) (tab:=[]) ?_ rfl ak rfl;refine ax _ [.tmp 2] _ rfl rfl rfl ak ?_;repeat' (first|with_reducible apply zJ<;>intro _|simp(disch:=omega) only[go_sem, *])
 all_goals first|exact .refl _|(refine ab (congrArg D.bool ?_);first|(simp(disch:=omega) [*,iy];done)|(simp[iy]at *;omega)|(rw[Bool.eq_iff_iff];simp[iy]at *;omega))
def Xv(b:Int)(h0:0<=b)(h1:b<256):ao prog 355 [I b] (.aI [I (iY b).1,I (iY b).2]):=by
 have w1:IntKind.i64.wrap (b - 192)=b - 192:=wr _ oM oM;have w2:IntKind.i64.wrap (b - 224)=b - 224:=wr _ oM oM;have w3:IntKind.i64.wrap (b - 240)=b - 240:=wr _ oM oM;refine aw mixed (fn:=f355) (tab:=[]) ?_ rfl ak rfl;refine ax _ [.tmp 2,.tmp 3] _ rfl rfl rfl ak ?_;repeat' (first|with_reducible apply zJ<;>intro _|simp(disch:=omega) only[go_sem, *])
 all_goals (
  refine ab ?_;unfold iY;first
   |(rw[if_pos oM];done)
   |(rw[if_neg oM,if_pos oM];done)
   |(rw[if_neg oM,if_neg oM,if_pos oM];done)
   |(rw[if_neg oM,if_neg oM,if_neg oM,if_pos oM];done)
   |(rw[if_neg oM,if_neg oM,if_neg oM,if_neg oM];done))
def La(n:Int):ao prog 342 [I n] (.bool (gD n)):=by
 refine aw mixed (fn:=f342) (tab:=[]) ?_ rfl ak rfl;refine ax _ [.tmp 2] _ rfl rfl rfl ak ?_;repeat' (first|with_reducible apply zJ<;>intro _|simp(disch:=omega) only[go_sem, *])
 all_goals first|exact .refl _|(refine ab (congrArg D.bool ?_);first|(simp(disch:=omega) [*,gD];done)|(simp[gD]at *;omega)|(rw[Bool.eq_iff_iff];simp[gD]at *;omega))
def Xq(n:Int):ao prog 346 [I n] (.aI [I (lH n),I (if iy n then 0 else 90)]):=by
 have k0:iy n=false->lH n=0:=fun h=>by unfold lH;rw[if_pos h]
 have k1:iy n=true->gD n=true->lH n=1:=fun h h1=>by unfold lH;rw[if_neg (by simp[h]),if_pos h1]
 have k2:iy n=true->gD n=false->aO n 48 57=true->lH n=2:=fun h h1 h2=>by unfold lH;rw[if_neg (by simp[h]),if_neg (by simp[h1]),if_pos h2]
 have k3:iy n=true->gD n=false->aO n 48 57=false->zh n=true->lH n=3:=fun h h1 h2 h3=>by unfold lH;rw[if_neg (by simp[h]),if_neg (by simp[h1]),if_neg (by simp[h2]),if_pos h3]
 have k4:iy n=true->gD n=false->aO n 48 57=false->zh n=false->aO n 1424 1983=true->lH n=4:=fun h h1 h2 h3 h4=>by unfold lH;rw[if_neg (by simp[h]),if_neg (by simp[h1]),if_neg (by simp[h2]),if_neg (by simp[h3]),if_pos h4]
 have k5:iy n=true->gD n=false->aO n 48 57=false->zh n=false->aO n 1424 1983=false->lH n=0:=fun h h1 h2 h3 h4=>by unfold lH;rw[if_neg (by simp[h]),if_neg (by simp[h1]),if_neg (by simp[h2]),if_neg (by simp[h3]),if_neg (by simp[h4])]
 generalize hk:lH n=k at *;clear hk;refine aw mixed (fn:=f346) (tab:=[]) ?_ rfl ak rfl;refine ax _ [.tmp 2,.tmp 3] _ rfl rfl rfl ak ?_;simp(disch:=omega) only[go_sem];refine av (KF n) sG ?_;simp(disch:=omega) only[go_sem];refine aZ (fun c=>?_) (fun c=>?_)
 rotate_left
 ·simp(disch:=omega) only[go_sem,c];exact ab (by rw[k0 c])
 clear k0;rw[if_pos c];replace k1:=k1 c;replace k2:=k2 c;replace k3:=k3 c;replace k4:=k4 c;replace k5:=k5 c;cases hs:gD n with
 |true=>
  replace k1:=k1 hs;clear k2 k3 k4 k5;subst k1;simp only[gD,Bool.or_eq_true,decide_eq_true_eq]at hs;rcases hs with((hs|hs)|hs)|hs<;>subst hs<;>simp(disch:=omega) only[go_sem,c,decide_true,decide_false]<;>exact .refl _
 |false=>
  replace k2:=k2 hs;replace k3:=k3 hs;replace k4:=k4 hs;replace k5:=k5 hs;simp only[gD,Bool.or_eq_false_iff,decide_eq_false_iff_not]at hs;obtain⟨⟨⟨a1,a2⟩,a3⟩,a4⟩:=hs;have key:∀m:Int,(aO n 48 57=true/\m=2\/aO n 48 57=false/\zh n=true/\m=3\/aO n 48 57=false/\zh n=false/\aO n 1424 1983=true/\m=4\/aO n 48 57=false/\zh n=false/\aO n 1424 1983=false/\m=0)->bN (.aI [I m,I 0]) (.aI [I k,I 0]):=by
   rintro m (⟨h1,rfl⟩|⟨h1,h2,rfl⟩|⟨h1,h2,h3,rfl⟩|⟨h1,h2,h3,rfl⟩)
   ·rw[k2 h1];exact .refl _
   ·rw[k3 h1 h2];exact .refl _
   ·rw[k4 h1 h2 h3];exact .refl _
   ·rw[k5 h1 h2 h3];exact .refl _
  clear k1 k2 k3 k4 k5;simp(disch:=omega) only[go_sem,c,a1,a2,a3,a4,decide_false];repeat' (first|with_reducible refine bh (fun _=>?_) (fun _=>?_)|simp(disch:=omega) only[go_sem,c,a1,a2,a3,a4,decide_true,decide_false,not_true_eq_false,not_false_eq_true, *])
  all_goals (refine key _ ?_;simp[aO,zh];omega)
theorem T1(n:Int):decide (lH n=1)=gD n:=by
 unfold lH;cases hs:gD n with
 |true=>
  have hp:iy n=true:=by
   simp only[gD,Bool.or_eq_true,decide_eq_true_eq]at hs;rcases hs with((h|h)|h)|h<;>subst h<;>rfl
  rw[if_neg (by simp[hp]),if_pos rfl];rfl
 |false=>
  rw[if_neg (show ¬false=true by simp)];repeat' split
  all_goals rfl
def Up(n:Int):ao prog 325 [I n] (.bool (gD n)):=by
 refine aw mixed (fn:=f325) (tab:=[]) ?_ rfl ak rfl;refine ax _ [.tmp 2] _ rfl rfl rfl ak ?_;simp(disch:=omega) only[go_sem];refine av (Xq n) sG ?_;simp(disch:=omega) only[go_sem];rw[<-T1];exact .refl _
def jj(n:Nat):ah:=if n<128 then[UInt8.ofNat n]else if n<2048 then[UInt8.ofNat (192+n / 64),UInt8.ofNat (128+n % 64)]else if n<65536 then[UInt8.ofNat (224+n / 4096),UInt8.ofNat (128+n / 64 % 64),UInt8.ofNat (128+n % 64)]else[UInt8.ofNat (240+n / 262144),UInt8.ofNat (128+n / 4096 % 64),UInt8.ofNat (128+n / 64 % 64),UInt8.ofNat (128+n % 64)]
def w8(x:Int)(m:Nat)(hx:x=m)(hm:m<256):D.int .u8 (IntKind.u8.wrap x)= .int .u8 ((UInt8.ofNat m).toNat:Int):=by
 subst hx;have h1:(UInt8.ofNat m).toNat=m:=by simp;omega
 rw[h1];rw[IntWalk.u8_in (m:Int) ⟨by omega,by omega⟩]
def Tp(n:Nat)(hn:n<=1114111):ao prog 357 [I n] (.sl 1 ((jj n).map fun b=>D.int .u8 (b.toNat:Int))):=by
 have td:∀k:Nat,0<k->IntKind.i64.wrap ((n:Int).tdiv (k:Int))=((n / k:Nat):Int):=fun k hk=>by
  rw[show(n:Int).tdiv (k:Int)=((n / k:Nat):Int)from(Int.ofNat_tdiv n k).symm];have:n / k<=n:=Nat.div_le_self _ _;generalize n / k=q at this⊢;exact wr _ oM oM
 have t1:IntKind.i64.wrap ((n:Int).tdiv 64)=((n / 64:Nat):Int):=td 64 oM;have t2:IntKind.i64.wrap ((n:Int).tdiv 4096)=((n / 4096:Nat):Int):=td 4096 oM;have t3:IntKind.i64.wrap ((n:Int).tdiv 262144)=((n / 262144:Nat):Int):=td 262144 oM;have m0:(n:Int).tmod 64=((n % 64:Nat):Int):=Int.ofNat_tmod n 64;have m1:((n / 64:Nat):Int).tmod 64=((n / 64 % 64:Nat):Int):=Int.ofNat_tmod _ 64;have m2:((n / 4096:Nat):Int).tmod 64=((n / 4096 % 64:Nat):Int):=Int.ofNat_tmod _ 64;have a:∀(c m:Nat),c<=240->m<=1114111->IntKind.i64.wrap ((c:Int)+(m:Int))=((c+m:Nat):Int):=fun c m h1 h2=>by rw[wr _ oM oM];omega
 have b:∀c m:Nat,c<=240->m<64->c+m<256->D.int .u8 (IntKind.u8.wrap (IntKind.i64.wrap ((c:Int)+(m:Int))))= .int .u8 ((UInt8.ofNat (c+m)).toNat:Int):=fun c m h1 h2 h3=>w8 _ _ (a c m h1 oM) h3;have b128:∀m:Nat,m<64->D.int .u8 (IntKind.u8.wrap (IntKind.i64.wrap (128+(m:Int))))= .int .u8 ((UInt8.ofNat (128+m)).toNat:Int):=fun m h=>b 128 m oM h oM;have b192:∀m:Nat,m<32->D.int .u8 (IntKind.u8.wrap (IntKind.i64.wrap (192+(m:Int))))= .int .u8 ((UInt8.ofNat (192+m)).toNat:Int):=fun m h=>b 192 m oM oM oM;have b224:∀m:Nat,m<16->D.int .u8 (IntKind.u8.wrap (IntKind.i64.wrap (224+(m:Int))))= .int .u8 ((UInt8.ofNat (224+m)).toNat:Int):=fun m h=>b 224 m oM oM oM;have b240:∀m:Nat,m<8->D.int .u8 (IntKind.u8.wrap (IntKind.i64.wrap (240+(m:Int))))= .int .u8 ((UInt8.ofNat (240+m)).toNat:Int):=fun m h=>b 240 m oM oM oM;clear td b a;refine aw mixed (fn:=f357) (tab:=[]) ?_ rfl ak rfl;refine ax _ [.tmp 2] _ rfl rfl rfl ak ?_;repeat' (first|with_reducible refine zJ (fun _=>?_) fun _=>?_|simp(disch:=omega) only[go_sem, *])
 ·refine ab (congrArg (D.sl 1) ?_);rw[show jj n=[UInt8.ofNat n] by unfold jj;rw[if_pos oM]];simp only[mC,List.map_nil];rw[w8 _ n rfl oM]
 ·refine ab (congrArg (D.sl 1) ?_);rw[show jj n=[UInt8.ofNat (192+n / 64),UInt8.ofNat (128+n % 64)] by unfold jj;rw[if_neg oM,if_pos oM]];simp only[mC,List.map_nil]
 ·refine ab (congrArg (D.sl 1) ?_);rw[show jj n=[UInt8.ofNat (224+n / 4096),UInt8.ofNat (128+n / 64 % 64),UInt8.ofNat (128+n % 64)] by unfold jj;rw[if_neg oM,if_neg oM,if_pos oM]];simp only[mC,List.map_nil]
 ·refine ab (congrArg (D.sl 1) ?_);rw[show jj n=[UInt8.ofNat (240+n / 262144),UInt8.ofNat (128+n / 4096 % 64),UInt8.ofNat (128+n / 64 % 64),UInt8.ofNat (128+n % 64)] by unfold jj;rw[if_neg oM,if_neg oM,if_neg oM]];simp only[mC,List.map_nil]
end Go.V.St
