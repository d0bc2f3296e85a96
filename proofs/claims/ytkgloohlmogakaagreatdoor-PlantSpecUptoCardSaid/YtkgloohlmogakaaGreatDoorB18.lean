/- Lemmas on plain data and programs: part B18. -/
import Derived.Test.YtkgloohlmogakaaGreatDoorB17
import Derived.Test.YtkgloohlmogakaaGreatDoorS7
set_option linter.all false
set_option maxHeartbeats 8000000
set_option maxRecDepth 100000
namespace Go.V.St
open Go.Proofs Go.Proofs.Tryz Go.RowKit Go.V.Lx Go.V.Gr Go.V.Ty
abbrev VS:Type:=Bool×Bool×Int
def j7(iP:Int)(s:VS)(v:ca):VS:=if v.iP=iP then(if v.kind=1 then(true,true,v.cw)else if v.kind=2 then(s.1,s.2.1,v.cw)else if v.kind=3 then(s.1,false,s.2.2)else if v.kind=4 then(s.1,true,s.2.2)else s)else s
def jm(l:List ca)(iP:Int):VS:=l.foldl (j7 iP) (false,false,0)
def gW(v:ca):Bool:=aN v.at_ 0 1099511627775&&aN v.iP 0 99999&&aN v.kind 1 4&&aN v.cw 0 31&&(decide (v.kind=1)||decide (v.kind=2)||decide (v.cw=0))
def tJ(l:List ca):Int:=nS ca.at_ 0 l
def ke(s:VS)(v:ca):Bool:=if v.kind=1 then !s.1 else if v.kind=2 then s.1 else if v.kind=3 then s.2.1 else s.1&& !s.2.1
def lq(l:List ca)(v:ca):Bool:=gW v&&decide (tJ l<=v.at_)&&ke (jm l v.iP) v
def zV(l:List ca):Prop:=∀j v,l[j]? =some v->lq (l.take j) v=true
noncomputable instance(l:List ca):Decidable (zV l):=Classical.propDecidable _
noncomputable def ej(l:List ca):Int:=if 4096<l.length then 2 else if zV l then 0 else 520
def A0{l:List ca}{j:Nat}{v:ca}(h:l[j]? =some v)(n:Int):jm (l.take (j+1)) n=j7 n (jm (l.take j) n) v:=by unfold jm;rw[List.take_add_one,h];simp[List.foldl_append]
def Fy(n m:Int):ao prog 239 [I n,I m] (.bool (aN n 0 (m - 1))):=by
 refine aw mixed (fn:=f239) (tab:=[]) ?_ rfl aj rfl;refine ax _ [.tmp 4] _ rfl rfl rfl aj ?_;repeat' (first|with_reducible apply zJ<;>intro _|simp(disch:=omega) only[go_sem, *])
 all_goals first|exact .refl _|(refine ab (congrArg D.bool ?_);first|(simp(disch:=omega) [*,aN];done)|(simp[aN]at *;omega)|(rw[Bool.eq_iff_iff];simp[aN]at *;omega))
def AR(n m:Int):ao prog 307 [I n,I m] (.bool (aN n 0 (m - 1))):=by
 refine aw mixed (fn:=f307) (tab:=[]) ?_ rfl aj rfl;refine ax _ [.tmp 4] _ rfl rfl rfl aj ?_;repeat' (first|with_reducible apply zJ<;>intro _|simp(disch:=omega) only[go_sem, *])
 all_goals first|exact .refl _|(refine ab (congrArg D.bool ?_);first|(simp(disch:=omega) [*,aN];done)|(simp[aN]at *;omega)|(rw[Bool.eq_iff_iff];simp[aN]at *;omega))
def PN(v:ca):ao prog 261 [v.d] (.bool (gW v)):=by
 refine aw mixed (fn:=f261) (tab:=[]) ?_ rfl aj rfl;refine ax _ [.tmp 2] _ rfl rfl rfl aj ?_;repeat' (first|with_reducible apply zJ<;>intro _|with_reducible refine cb (AR _ _) sG ?_|with_reducible refine cd (AR _ _) sG ?_|simp(disch:=omega) only[go_sem, *,ca.d])
 all_goals first|exact .refl _|(refine ab (congrArg D.bool ?_);first|(simp(disch:=omega) [*,gW,aN];done)|(simp[gW,aN]at *;omega)|(rw[Bool.eq_iff_iff];simp[gW,aN]at *;omega))
def Ag(l:List ca)(hl:l.length<=4096)(n:Int):ao prog 262 [.sl 4 (l.map ca.d),I n] (.aL [.bool (jm l n).1,.bool (jm l n).2.1,I (jm l n).2.2]):=by
 refine aw mixed (fn:=f262) (tab:=[]) ?_ rfl aj rfl;refine ax _ [.tmp 4,.tmp 5,.tmp 6] _ rfl rfl rfl aj ?_;simp(disch:=omega) only[go_sem];refine bo l.length (fun j σ bx=>σ 0= .sl 4 (l.map ca.d)/\σ 1=I n/\σ 10=I j/\σ 7= .bool (jm (l.take j) n).1/\σ 8= .bool (jm (l.take j) n).2.1/\σ 9=I (jm (l.take j) n).2.2) ?_ ?_ ?_
 ·simp[go_sem,bB,jm]
 ·rintro j σ bx hj ⟨h0,h1,lE,h7,h8,h9⟩;obtain⟨x,hx⟩:=ba hj;have ar:(j:Int)<(l.length:Int):=oM;have hw:IntKind.i64.wrap ((j:Int)+1)=((j+1:Nat):Int):=aD oM;have hs:=A0 hx n;repeat' (first|with_reducible apply zJ<;>intro _|simp(disch:=omega) only[go_sem, *,h0,h1,lE,h7,h8,h9,ar,hx,hw,ca.d])
  all_goals simp_all[j7]
 ·rintro σ bx ⟨h0,h1,lE,h7,h8,h9⟩;have ar:¬(l.length:Int)<(l.length:Int):=oM;rw[tL]at h7 h8 h9;simp(disch:=omega) only[go_sem,h0,lE,h7,h8,h9,ar];exact .refl _
def Ln{l:List ca}{x:ca}(h:l[l.length - 1]? =some x):tJ l=x.at_:=by
 have:l=l.take (l.length - 1)++[x]:=by
  have hl:=(gS.1 h).1
  conv=>lhs;rw[<-List.take_append_drop (l.length - 1) l]
  rw[List.drop_eq_getElem_cons hl,List.drop_eq_nil_of_le oM];rw[(gS.1 h).2]
 unfold tJ;rw[this];exact yV
def Ng{v:ca}(h:gW v=true):0<=v.at_:=by simp[gW,aN]at h;omega
def Vb(l:List ca)(hl:l.length<=4096)(v:ca):ao prog 206 [.sl 4 (l.map ca.d),v.d] (.bool (lq l v)):=by
 refine aw mixed (fn:=f206) (tab:=[]) ?_ rfl aj rfl;refine ax _ [.tmp 4] _ rfl rfl rfl aj ?_;simp(disch:=omega) only[go_sem,ca.d];refine av (PN v) sG ?_;simp(disch:=omega) only[go_sem];refine aY (fun c1=>?_) (fun c1=>?_)
 rotate_left
 ·simp(disch:=omega) only[go_sem,c1];exact ab (congrArg D.bool (by simp[lq,c1]))
 simp(disch:=omega) only[go_sem,c1];rcases Nat.eq_zero_or_pos l.length with h0|h0
 ·have AA:l=[]:=List.eq_nil_of_length_eq_zero h0;have ER:decide (tJ l<=v.at_)=true:=by subst AA;exact decide_eq_true (Ng c1)
  have hn:¬(0:Int)<(l.length:Int):=oM;clear AA;repeat' (first|with_reducible apply zJ<;>intro _|with_reducible refine cb (Ag l hl _) sG ?_|with_reducible refine cd (Ag l hl _) sG ?_|simp(disch:=omega) only[go_sem, *,ca.d])
  all_goals exact ab (congrArg D.bool (by simp_all[lq,ke]))
 ·obtain⟨x,hx⟩:=ba (show l.length - 1<l.length by omega);have ER:=Ln hx;have hn:(0:Int)<(l.length:Int):=oM;have hw:IntKind.i64.wrap ((l.length:Int) - 1)=((l.length - 1:Nat):Int):=by rw[wr _ oM oM];omega
  refine yb hn ?_;repeat' (first|with_reducible apply zJ<;>intro _|with_reducible refine cb (Ag l hl _) sG ?_|with_reducible refine cd (Ag l hl _) sG ?_|simp(disch:=omega) only[go_sem, *,ca.d])
  all_goals exact ab (congrArg D.bool (by simp_all[lq,ke]<;>(intro h;omega)))
def LS(l:List ca):ao prog 146 [.sl 4 (l.map ca.d)] (I (ej l)):=by
 refine aw mixed (fn:=f146) (tab:=[]) ?_ rfl aj rfl;refine ax _ [.tmp 2] _ rfl rfl rfl aj ?_;simp(disch:=omega) only[go_sem];refine bg (fun h1=>?_) (fun h1=>?_)
 ·simp(disch:=omega) only[go_sem,h1,decide_true];exact ab (congrArg I (by unfold ej;rw[if_pos oM]))
 simp(disch:=omega) only[go_sem];have e:ej l=if zV l then 0 else 520:=by unfold ej;rw[if_neg oM]
 have no:∀j v,l[j]? =some v->lq (l.take j) v=false->bN (I 520) (I (ej l)):=fun j v h h'=>ab (congrArg I (by rw[e,if_neg fun g=>by rw[g j v h]at h';cases h']));have yes:(∀j v,j<l.length->l[j]? =some v->lq (l.take j) v=true)->bN (I 0) (I (ej l)):=fun h=>ab (congrArg I (by rw[e,if_pos (show zV l from fun j v h'=>h j v (gS.1 h').1 h')]));clear e;generalize ej l=r at *;refine bo l.length (fun j σ bx=>σ 0= .sl 4 (l.map ca.d)/\σ 3=I j/\∀i v,i<j->l[i]? =some v->lq (l.take i) v=true) ?_ ?_ ?_
 ·simp[go_sem,bB]
 ·rintro j σ bx hj ⟨h0,h3,hn⟩;obtain⟨x,hx⟩:=ba hj;have ar:(j:Int)<(l.length:Int):=oM;have hw:IntKind.i64.wrap ((j:Int)+1)=((j+1:Nat):Int):=aD oM;have hf:ao prog 206 [.sl 4 (List.take (j - 0) (l.map ca.d)),x.d] (.bool (lq (l.take j) x)):=by rw[Nat.sub_zero,<-List.map_take];exact Vb (l.take j) (by rw[List.length_take];omega) x
  simp(disch:=omega) only[go_sem,h0,h3,ar,hx];refine av hf sG ?_;simp(disch:=omega) only[go_sem];refine aY (fun c=>?_) (fun c=>?_)
  ·simp(disch:=omega) only[go_sem,h0,h3,hw];refine fun i v hi hv=>?_;by_cases ph:i=j
   ·subst ph;rw[hx]at hv;injection hv with hv;subst hv;exact c
   ·exact hn i v oM hv
  ·simp(disch:=omega) only[go_sem];exact no j x hx c
 ·rintro σ bx ⟨h0,h3,hn⟩;have ar:¬(l.length:Int)<(l.length:Int):=oM;simp(disch:=omega) only[go_sem,h0,h3,ar];exact yes hn
def Mt(o:Bool)(n m:Int):ao prog 287 [.agg [.bool o,I n],I m] (.agg [.bool true,I m]):=by
 refine aw mixed (fn:=f287) (tab:=[]) ?_ rfl aj rfl;refine ax _ [.cell 4 331] _ rfl rfl rfl aj ?_;simp(disch:=omega) only[go_sem];exact .refl _
def BU(o:Bool)(n m:Int):ao prog 288 [.agg [.bool o,I n],I m] (.agg [.bool o,I m]):=by
 refine aw mixed (fn:=f288) (tab:=[]) ?_ rfl aj rfl;refine ax _ [.cell 4 331] _ rfl rfl rfl aj ?_;simp(disch:=omega) only[go_sem];exact .refl _
def Uz(o:Bool)(n m:Int):ao prog 289 [.agg [.bool o,I n],I m] (.agg [.bool false,I n]):=by
 refine aw mixed (fn:=f289) (tab:=[]) ?_ rfl aj rfl;refine ax _ [.cell 4 331] _ rfl rfl rfl aj ?_;simp(disch:=omega) only[go_sem];exact .refl _
def UA(o:Bool)(n m:Int):ao prog 290 [.agg [.bool o,I n],I m] (.agg [.bool true,I n]):=by
 refine aw mixed (fn:=f290) (tab:=[]) ?_ rfl aj rfl;refine ax _ [.cell 4 331] _ rfl rfl rfl aj ?_;simp(disch:=omega) only[go_sem];exact .refl _
def Rq:D:=.agg [.bool false,.bool false,.bool false,.bool false,.raw .nilFunc,.bool false,.bool true,.bool false,.bool true,.fn (.func 287) [],.bool true,.bool true,.bool true,.bool true,.fn (.func 288) [],.bool true,.bool false,.bool true,.bool false,.fn (.func 289) [],.bool true,.bool true,.bool false,.bool false,.fn (.func 290) []]
def Mu:ao prog 240 [] Rq:=by
 refine aw mixed (fn:=f240) (tab:=[]) ?_ rfl aj rfl;refine ax _ [.cell 0 328] _ rfl rfl rfl aj ?_;simp(disch:=omega) only[go_sem];exact .refl _
def i64(n:Int):Prop:= -9223372036854775808<=n/\n<=9223372036854775807
structure El(fm:Int->Option D)(st:Int->VS):Prop where
 is:∀n,fm n=if(st n).1 then some (.agg [.bool (st n).2.1,I (st n).2.2])else none
 op:∀n,(st n).2.1=true->(st n).1=true
theorem El.look{fm:Int->Option D}{st:Int->VS}(h:El fm st){r:Option (Nat×D)}{n:Int}(hr:r.map (·.2)=fm n):∃m,((st n).1=true->m=(st n).2.2)/\r8 (some (.agg [.bool false,I 0])) true (some r)=some (.aL [.agg [.bool (st n).2.1,I m],.bool (st n).1]):=by
 rw[h.is n]at hr;cases hk:(st n).1 with
 |false=>
  rw[hk]at hr;have:r=none:=by cases r<;>simp at hr⊢
  subst this;have ho:(st n).2.1=false:=by
   cases h':(st n).2.1 with
   |false=>rfl
   |true=>rw[h.op n h']at hk;cases hk
  exact⟨0,(fun h=>by cases h),by rw[ho];rfl⟩
 |true=>
  rw[hk]at hr;cases r with
  |none=>simp at hr
  |some q=>obtain⟨j,v⟩:=q;simp at hr;subst hr;exact⟨_,(fun _=>rfl),rfl⟩
theorem El.step{fm:Int->Option D}{st:Int->VS}(h:El fm st){v:ca}{o:Bool}{m:Int}(hs:j7 v.iP (st v.iP) v=(true,o,m)):El (fun k=>if k=v.iP then some (.agg [.bool o,I m])else fm k) (fun n=>j7 n (st n) v):=by
 refine⟨fun n=>?_,fun n hn=>?_⟩
 ·by_cases hn:n=v.iP
  ·subst hn;simp[hs]
  ·simp only[if_neg hn,j7,if_neg (Ne.symm hn)];exact h.is n
 ·by_cases hw:n=v.iP
  ·subst hw;simp only[hs]
  ·simp only[j7,if_neg (Ne.symm hw)]at hn⊢;exact h.op n hn
def UW(b:Bool):(b==false)= !b:=by cases b<;>rfl
def B0(b:Bool):(b==true)=b:=by cases b<;>rfl
def Tv{n:Int}(h:i64 n):aN (IntKind.i64.wrap (n - 1)) 0 (IntKind.i64.wrap (5 - 1) - 1)=aN n 1 4:=by
 rw[wr (5 - 1) oM oM];obtain⟨h1,h2⟩:=h;by_cases hn:n= -9223372036854775808
 ·subst hn;rfl
 ·rw[wr _ oM oM,Bool.eq_iff_iff];simp[aN];omega
def Kx(e:Nat)(bx:ae)(st:Int->VS)(v:ca)(d:D)(bx':ae):Prop:=d= .bool (gW v&&ke (st v.iP) v)/\(∀s,s<300->s≠10->bx' s=bx s)/\((gW v&&ke (st v.iP) v)=true->∃c es fm,bx' 10=⟨e,3,0,277,I c::es⟩/\om fm es/\El fm (fun n=>j7 n (st n) v))
def Og{bx:ae}{e:Nat}{c:Int}{es:List D}{fm:Int->Option D}{st:Int->VS}(hb:bx 10=⟨e,3,0,277,I c::es⟩)(hm:om fm es)(hf:El fm st)(v:ca)(hk:i64 v.kind):
 bj prog 191 300 [.omap 10 e,v.d] bx (Kx e bx st v) (fun _ _=>False):=by
 refine aI (fn:=f191) (tab:=[(1,[(13,11)]),(4,[(5,3),(5,1),(3,1)]),(7,[(7,1)])]) (base:=300) mixed ?_ rfl aj rfl;refine aJ _ [.tmp 4] 87 rfl rfl rfl aj ?_;obtain⟨r,g1,g2⟩:=hm.find v.iP;obtain⟨m,ux,g3⟩:=hf.look g2;have hki:=Tv hk;have po:=hf.op v.iP;have nay:∀B:ae,(∀s,s<300->B s=bx s)->(gW v&&ke (st v.iP) v)=false->Kx e bx st v (.bool false) B:=fun B hB h=>⟨by rw[h],fun s hs _=>hB s hs,fun h'=>by rw[h]at h';cases h'⟩
 have yes:∀(B:ae) o m c',∀es',ot (.int .i64) (.int .i64 v.iP) (.agg [.bool o,I m]) c es=some (.int .i64 c'::es')->(∀s,s<300->s≠10->B s=bx s)->B 10=⟨e,3,0,277,I c'::es'⟩->(gW v&&ke (st v.iP) v)=true->j7 v.iP (st v.iP) v=(true,o,m)->Kx e bx st v (.bool true) B:=by
  intro B o m c' es' hu hB hB' h hv;obtain⟨es2,c2,lF,oB⟩:=hm.ak v.iP (.agg [.bool o,I m]) c;rw[hu]at lF;injection lF with lF;injection lF with lF hu3;injection lF with _ lF;subst lF;subst hu3;exact⟨by rw[h],hB,fun _=>⟨_,_,_,hB',oB,hf.step hv⟩⟩
 have EY:∀o m,∃es' c',ot (.int .i64) (.int .i64 v.iP) (.agg [.bool o,I m]) c es=some (.int .i64 c'::es'):=fun o m=>by obtain⟨a,b,h,_⟩:=hm.ak v.iP (.agg [.bool o,I m]) c;exact⟨a,b,h⟩
 clear hm hf;simp(disch:=omega) only[go_sem,ca.d];repeat' (first|with_reducible apply zJ<;>intro _|with_reducible refine cb (Fy _ _) sG ?_|with_reducible refine cd (Fy _ _) sG ?_|with_reducible refine cb (Mu) sG ?_|with_reducible refine cd (Mu) sG ?_|simp(disch:=omega) only[go_sem, *,ca.d,Rq])
 rotate_left
 iterate 4 (exact nay _ (fun s hs=>by simp only[ak];rw[if_neg oM]) (by simp_all[gW]))
 rename_i c1 c2 c3 c4;try rw[hki]at c3
 have ck:v.kind=1\/v.kind=2\/v.kind=3\/v.kind=4:=by simp[aN]at c3;omega
 have kF:gW v=(decide (v.kind=1)||decide (v.kind=2)||decide (v.cw=0)):=by simp_all[gW]
 clear hki c1 c2 c3 c4 hk g2;have Zp:(st v.iP).1=false/\(st v.iP).2.1=false\/(st v.iP).1=true/\(st v.iP).2.1=false\/(st v.iP).1=true/\(st v.iP).2.1=true:=by
  revert po;cases(st v.iP).1<;>cases(st v.iP).2.1<;>simp
 clear po;have quiet:∀(x1 x2 x3 x4 x5:Bx),∀s,s<300->ak (ak (ak (ak (ak bx 303 x1) 305 x2) 305 x3) 307 x4) 307 x5 s=bx s:=fun _ _ _ _ _ s hs=>by simp only[ak];repeat rw[if_neg oM]
 rcases Zp with⟨k0,k1⟩|⟨k0,k1⟩|⟨k0,k1⟩<;>rw[k0,k1]at g3<;>rcases ck with ck|ck|ck|ck
 ·simp(disch:=omega) only[go_sem,ck,UW,k0,k1,nT,nF];refine bg (fun hl=>?_) (fun hl=>?_)
  ·simp(disch:=omega) only[go_sem,ck,k0,k1,nT,hl,decide_true];refine av (Mt _ _ _) sG ?_;obtain⟨es',c',hu⟩:=EY true (0);simp(disch:=omega) only[go_sem,hb,ck,k0,k1,nT,hl,hu,fM];exact yes _ true 0 c' es' hu (fun s hs dW=>by simp only[ak];repeat rw[if_neg oM]) (by simp[ak]) (by rw[kF];simp[ke,ck,k0,hl]) (by simp[j7,ck,hl])
  ·simp(disch:=omega) only[go_sem,ck,k0,k1,nT,nF,hl,decide_false];refine av (Mt _ _ _) sG ?_;obtain⟨es',c',hu⟩:=EY true (v.cw);simp(disch:=omega) only[go_sem,hb,ck,k0,k1,nF,hl,hu,fM];exact yes _ true v.cw c' es' hu (fun s hs dW=>by simp only[ak];repeat rw[if_neg oM]) (by simp[ak]) (by rw[kF];simp[ke,ck,k0,hl]) (by simp[j7,ck])
 ·simp(disch:=omega) only[go_sem,ck,B0,k0,k1,nF];exact nay _ (quiet _ _ _ _ _) (by simp[ke,ck,k0])
 ·simp(disch:=omega) only[go_sem,ck,B0,k0,k1,nF];exact nay _ (quiet _ _ _ _ _) (by simp[ke,ck,k1])
 ·simp(disch:=omega) only[go_sem,ck,B0,k0,k1,nF];exact nay _ (quiet _ _ _ _ _) (by simp[ke,ck,k0,k1])
 ·simp(disch:=omega) only[go_sem,ck,UW,k0,k1,nT,nF];exact nay _ (quiet _ _ _ _ _) (by simp[ke,ck,k0])
 ·simp(disch:=omega) only[go_sem,ck,B0,k0,k1,nT,nF];refine bg (fun hl=>?_) (fun hl=>?_)
  ·simp(disch:=omega) only[go_sem,ck,k0,k1,nT,hl,decide_true];refine av (BU _ _ _) sG ?_;obtain⟨es',c',hu⟩:=EY false (0);simp(disch:=omega) only[go_sem,hb,ck,k0,k1,nT,hl,hu,fM];exact yes _ false 0 c' es' hu (fun s hs dW=>by simp only[ak];repeat rw[if_neg oM]) (by simp[ak]) (by rw[kF];simp[ke,ck,k0,hl]) (by simp[j7,ck,k0,k1,hl])
  ·simp(disch:=omega) only[go_sem,ck,k0,k1,nT,nF,hl,decide_false];refine av (BU _ _ _) sG ?_;obtain⟨es',c',hu⟩:=EY false (v.cw);simp(disch:=omega) only[go_sem,hb,ck,k0,k1,nF,hl,hu,fM];exact yes _ false v.cw c' es' hu (fun s hs dW=>by simp only[ak];repeat rw[if_neg oM]) (by simp[ak]) (by rw[kF];simp[ke,ck,k0,hl]) (by simp[j7,ck,k0,k1])
 ·simp(disch:=omega) only[go_sem,ck,B0,k0,k1,nT,nF];exact nay _ (quiet _ _ _ _ _) (by simp[ke,ck,k1])
 ·simp(disch:=omega) only[go_sem,ck,B0,k0,k1,nT,nF];refine bg (fun hl=>?_) (fun hl=>?_)
  ·simp(disch:=omega) only[go_sem,ck,k0,k1,nT,hl,decide_true];refine av (UA _ _ _) sG ?_;obtain⟨es',c',hu⟩:=EY true (m);simp(disch:=omega) only[go_sem,hb,ck,k0,k1,nT,hl,hu,fM];exact yes _ true m c' es' hu (fun s hs dW=>by simp only[ak];repeat rw[if_neg oM]) (by simp[ak]) (by rw[kF];simp[ke,ck,k0,k1,hl]) (by simp[j7,ck,k0,ux k0])
  ·simp(disch:=omega) only[go_sem,ck,k0,k1,nF,hl,decide_false];exact nay _ (quiet _ _ _ _ _) (by rw[kF];simp[ck,hl])
 ·simp(disch:=omega) only[go_sem,ck,UW,k0,k1,nT,nF];exact nay _ (quiet _ _ _ _ _) (by simp[ke,ck,k0])
 ·simp(disch:=omega) only[go_sem,ck,B0,k0,k1,nT];refine bg (fun hl=>?_) (fun hl=>?_)
  ·simp(disch:=omega) only[go_sem,ck,k0,k1,nT,hl,decide_true];refine av (BU _ _ _) sG ?_;obtain⟨es',c',hu⟩:=EY true (0);simp(disch:=omega) only[go_sem,hb,ck,k0,k1,nT,hl,hu,fM];exact yes _ true 0 c' es' hu (fun s hs dW=>by simp only[ak];repeat rw[if_neg oM]) (by simp[ak]) (by rw[kF];simp[ke,ck,k0,hl]) (by simp[j7,ck,k0,k1,hl])
  ·simp(disch:=omega) only[go_sem,ck,k0,k1,nT,nF,hl,decide_false];refine av (BU _ _ _) sG ?_;obtain⟨es',c',hu⟩:=EY true (v.cw);simp(disch:=omega) only[go_sem,hb,ck,k0,k1,nF,hl,hu,fM];exact yes _ true v.cw c' es' hu (fun s hs dW=>by simp only[ak];repeat rw[if_neg oM]) (by simp[ak]) (by rw[kF];simp[ke,ck,k0,hl]) (by simp[j7,ck,k0,k1])
 ·simp(disch:=omega) only[go_sem,ck,B0,k0,k1,nT];refine bg (fun hl=>?_) (fun hl=>?_)
  ·simp(disch:=omega) only[go_sem,ck,k0,k1,nT,hl,decide_true];refine av (Uz _ _ _) sG ?_;obtain⟨es',c',hu⟩:=EY false (m);simp(disch:=omega) only[go_sem,hb,ck,k0,k1,nT,hl,hu,fM];exact yes _ false m c' es' hu (fun s hs dW=>by simp only[ak];repeat rw[if_neg oM]) (by simp[ak]) (by rw[kF];simp[ke,ck,k1,hl]) (by simp[j7,ck,k0,ux k0])
  ·simp(disch:=omega) only[go_sem,ck,k0,k1,nF,hl,decide_false];exact nay _ (quiet _ _ _ _ _) (by rw[kF];simp[ck,hl])
 ·simp(disch:=omega) only[go_sem,ck,B0,k0,k1,nT,nF];exact nay _ (quiet _ _ _ _ _) (by simp[ke,ck,k0,k1])
def OP(l:List ca)(hk:∀v∈l,i64 v.kind):bj prog 129 0 [.sl 4 (l.map ca.d)] (fun _=> .none) (fun d bx=>d=I (ej l)) (fun _ _=>False):=by
 refine aI (fn:=f129) (tab:=[]) (base:=0) mixed ?_ rfl aj rfl;refine aJ _ [.tmp 2] 30 rfl rfl rfl aj ?_;simp(disch:=omega) only[go_sem];refine bg (fun h1=>?_) (fun h1=>?_)
 ·simp(disch:=omega) only[go_sem,h1,decide_true];exact congrArg I (by unfold ej;rw[if_pos oM])
 simp(disch:=omega) only[go_sem,h1,decide_false];have e:ej l=if zV l then 0 else 520:=by unfold ej;rw[if_neg oM]
 have no:∀j v,l[j]? =some v->lq (l.take j) v=false->I 520=I (ej l):=fun j v h h'=>congrArg I (by rw[e,if_neg fun g=>by rw[g j v h]at h';cases h']);have yes:(∀j v,j<l.length->l[j]? =some v->lq (l.take j) v=true)->I 0=I (ej l):=fun h=>congrArg I (by rw[e,if_pos (show zV l from fun j v h'=>h j v (gS.1 h').1 h')]);clear e;generalize ej l=r at *;refine bo l.length (fun j σ bx=>σ 3= .omap 10 1/\σ 4=I (tJ (l.take j))/\σ 11= .sl 4 (l.map ca.d)/\σ 12=I l.length/\σ 13=I j/\(∃c es fm,bx 10=⟨1,3,0,277,I c::es⟩/\om fm es/\El fm (jm (l.take j)))/\∀i v,i<j->l[i]? =some v->lq (l.take i) v=true) ?_ ?_ ?_
 ·simp[go_sem,ak,Bx.none,tJ,nS];exact⟨0,[],⟨rfl,rfl⟩,_,om.nil,fun n=>by simp[jm],fun n h=>by simp[jm]at h⟩
 ·rintro j σ bx hj ⟨h3,h4,vr,Av,EI,⟨c,es,fm,hb,hm,hf⟩,hn⟩;obtain⟨x,hx⟩:=ba hj;have ar:(j:Int)<(l.length:Int):=oM;have hw:IntKind.i64.wrap ((j:Int)+1)=((j+1:Nat):Int):=aD oM;have ER:tJ (l.take (j+1))=x.at_:=sD hx;have CY:=no j x hx;simp(disch:=omega) only[go_sem,h4,vr,Av,EI,ar,hx,ca.d];refine bg (fun h2=>?_) (fun h2=>?_)
  ·simp(disch:=omega) only[go_sem,h2,decide_true];exact CY (by simp[lq];omega)
  simp(disch:=omega) only[go_sem,h3,h2,decide_false];refine aC (Og (c:=c) (es:=es) (by simp[ak,hb]) hm hf x (hk x (mG hx))) rfl ?_;rintro d bK ⟨rfl,hs,hy⟩;have h6:=hs 6 oM oM;simp only[ak,if_true]at h6;simp(disch:=omega) only[go_sem,h2];refine aY (fun hc=>?_) (fun hc=>?_)
  ·simp(disch:=omega) only[go_sem,h3,vr,Av,EI,hc,h6,hw];obtain⟨c',es',fm',eg,tB,kD⟩:=hy hc;refine⟨by rw[ER],⟨c',es',fm',eg,tB,by rw[show jm (l.take (j+1))=fun n=>j7 n (jm (l.take j) n) x from funext fun n=>A0 hx n];exact kD⟩,fun i v hi hv=>?_⟩;by_cases ph:i=j
   ·subst ph;rw[hx]at hv;injection hv with hv;subst hv;simp only[bA]at hc;unfold lq;rw[hc.1,hc.2];simp;omega
   ·exact hn i v oM hv
  ·simp(disch:=omega) only[go_sem,hc];exact CY (by unfold lq;cases kF:gW x<;>simp_all)
 ·rintro σ bx ⟨h3,h4,vr,Av,EI,hex,hn⟩;have ar:¬(l.length:Int)<(l.length:Int):=oM;simp(disch:=omega) only[go_sem,Av,EI,ar];exact yes hn
def OO(l:List ca)(hk:∀v∈l,i64 v.kind):ao prog 129 [.sl 4 (l.map ca.d)] (I (ej l)):=
 (OP l hk).to (fun _ _ h=>h) (fun d' bx' h=>⟨I (ej l),by rw[h];rfl,.refl _⟩)
def jS(n:Int):Bool:=aN n 1 16384
def sN(w h:Int)(r:gO):Bool:=decide (0<=r.x)&&decide (0<=r.y)&&jS r.w&&jS r.h&&decide (r.x<=w - r.w)&&decide (r.y<=h - r.h)
def ko(s:fB):Int:=if 32<s.bl.length then 2 else if jS s.w&&jS s.h&&s.bl.all (sN s.w s.h)then 0 else 460
def Dd(n:Int):ao prog 292 [I n] (.bool (jS n)):=by
 refine aw mixed (fn:=f292) (tab:=[]) ?_ rfl aj rfl;refine ax _ [.tmp 2] _ rfl rfl rfl aj ?_;repeat' (first|with_reducible apply zJ<;>intro _|simp(disch:=omega) only[go_sem, *])
 all_goals first|exact .refl _|(refine ab (congrArg D.bool ?_);first|(simp(disch:=omega) [*,jS,aN];done)|(simp[jS,aN]at *;omega)|(rw[Bool.eq_iff_iff];simp[jS,aN]at *;omega))
def w7(n:Int):ao prog 302 [I n] (.bool (jS n)):=by
 refine aw mixed (fn:=f302) (tab:=[]) ?_ rfl aj rfl;refine ax _ [.tmp 2] _ rfl rfl rfl aj ?_;repeat' (first|with_reducible apply zJ<;>intro _|simp(disch:=omega) only[go_sem, *])
 all_goals first|exact .refl _|(refine ab (congrArg D.bool ?_);first|(simp(disch:=omega) [*,jS,aN];done)|(simp[jS,aN]at *;omega)|(rw[Bool.eq_iff_iff];simp[jS,aN]at *;omega))
def Kg{w n:Int}(h1:jS w=true)(h2:jS n=true):IntKind.i64.wrap (w - n)=w - n:=by
 simp[jS,aN]at h1 h2;exact wr _ oM oM
def Oo(s:fB)(r:gO)(h1:jS s.w=true)(h2:jS s.h=true):ao prog 291 [r.d,.cA s.d 0] (.bool (!sN s.w s.h r)):=by
 refine aw mixed (fn:=f291) (tab:=[]) ?_ rfl aj rfl;refine ax _ [.tmp 3] _ rfl rfl rfl aj ?_;repeat' (first|with_reducible apply zJ<;>intro _|with_reducible refine cb (Dd _) sG ?_|with_reducible refine cd (Dd _) sG ?_|simp(disch:=omega) only[go_sem, *,gO.d,fB.d,fB.l])
 all_goals (refine ab (congrArg D.bool ?_);rw[Bool.eq_iff_iff];simp_all[sN,Kg];try omega)
def WU(w h:Int)(r:gO)(h1:jS w=true)(h2:jS h=true):ao prog 303 [I w,I h,r.d] (.bool (sN w h r)):=by
 refine aw mixed (fn:=f303) (tab:=[]) ?_ rfl aj rfl;refine ax _ [.tmp 6] _ rfl rfl rfl aj ?_;repeat' (first|with_reducible apply zJ<;>intro _|with_reducible refine cb (w7 _) sG ?_|with_reducible refine cd (w7 _) sG ?_|simp(disch:=omega) only[go_sem, *,gO.d])
 all_goals (refine ab (congrArg D.bool ?_);rw[Bool.eq_iff_iff];simp_all[sN,Kg];try omega)
def Ou(s:fB):ao prog 243 [s.d] (I (ko s)):=by
 refine aw mixed (fn:=f243) (tab:=[]) ?_ rfl aj rfl;refine ax _ [.tmp 2] _ rfl rfl rfl aj ?_;simp(disch:=omega) only[go_sem,fB.d,fB.l];refine bg (fun c1=>?_) (fun c1=>?_)
 ·simp(disch:=omega) only[go_sem,c1,decide_true];exact ab (congrArg I (by unfold ko;rw[if_pos oM]))
 have e:ko s=if jS s.w&&jS s.h&&s.bl.all (sN s.w s.h)then 0 else 460:=by unfold ko;rw[if_neg oM]
 simp(disch:=omega) only[go_sem,c1,decide_false];refine av (Dd _) sG ?_;simp(disch:=omega) only[go_sem];refine aY (fun c2=>?_) (fun c2=>?_)
 rotate_left
 ·simp(disch:=omega) only[go_sem,c2];exact ab (congrArg I (by rw[e,c2];rfl))
 simp(disch:=omega) only[go_sem,c2];refine av (Dd _) sG ?_;simp(disch:=omega) only[go_sem,c2];refine aY (fun c3=>?_) (fun c3=>?_)
 rotate_left
 ·simp(disch:=omega) only[go_sem,c2,c3];exact ab (congrArg I (by rw[e,c3,Bool.and_false];rfl))
 simp(disch:=omega) only[go_sem,c2,c3];have hc:=Td (f:=291) (caps:=[.cA s.d 0]) (p:=fun r=> !sN s.w s.h r) s.bl oM (fun r _=>Oo s r c2 c3) (fun x=>rfl) rfl;refine rj hc (by simp[go_sem,D.aF,D.pure,lU,ak,dn,I,fB.d,fB.l]) rfl ?_;simp(disch:=omega) only[go_sem,c2,c3,qp];refine aY (fun c4=>?_) (fun c4=>?_)
 ·simp(disch:=omega) only[go_sem,c2,c3,c4];exact ab (congrArg I (by rw[e,c2,c3,c4];rfl))
 ·simp(disch:=omega) only[go_sem,c2,c3,c4];exact ab (congrArg I (by rw[e,c4,Bool.and_false];rfl))
def LR(s:fB):ao prog 258 [s.d] (I (ko s)):=by
 refine aw mixed (fn:=f258) (tab:=[]) ?_ rfl aj rfl;refine ax _ [.tmp 2] _ rfl rfl rfl aj ?_;simp(disch:=omega) only[go_sem,fB.d,fB.l];refine bg (fun c1=>?_) (fun c1=>?_)
 ·simp(disch:=omega) only[go_sem,c1,decide_true];exact ab (congrArg I (by unfold ko;rw[if_pos oM]))
 have e:ko s=if jS s.w&&jS s.h&&s.bl.all (sN s.w s.h)then 0 else 460:=by unfold ko;rw[if_neg oM]
 simp(disch:=omega) only[go_sem,c1,decide_false];refine av (w7 _) sG ?_;simp(disch:=omega) only[go_sem];refine aY (fun c2=>?_) (fun c2=>?_)
 rotate_left
 ·simp(disch:=omega) only[go_sem,c2];exact ab (congrArg I (by rw[e,c2];rfl))
 simp(disch:=omega) only[go_sem,c2];refine av (w7 _) sG ?_;simp(disch:=omega) only[go_sem,c2];refine aY (fun c3=>?_) (fun c3=>?_)
 rotate_left
 ·simp(disch:=omega) only[go_sem,c2,c3];exact ab (congrArg I (by rw[e,c3,Bool.and_false];rfl))
 simp(disch:=omega) only[go_sem];refine bo s.bl.length (fun j σ bx=>σ 1= .loc 1 1 0 0/\bx 1=⟨1,1,3,131,[s.d]⟩/\σ 3=I j/\(s.bl.take j).all (sN s.w s.h)=true) ?_ ?_ ?_
 ·simp[go_sem,ak,Bx.none]
 ·rintro j σ bx hj ⟨h1,b1,h3,hn⟩;obtain⟨x,hx⟩:=ba hj;have ar:(j:Int)<(s.bl.length:Int):=oM;have hw:IntKind.i64.wrap ((j:Int)+1)=((j+1:Nat):Int):=aD oM;simp(disch:=omega) only[go_sem,h1,b1,h3,ar,hx,fB.d,fB.l];refine av (WU s.w s.h x c2 c3) sG ?_;simp(disch:=omega) only[go_sem];refine aY (fun c4=>?_) (fun c4=>?_)
  ·simp(disch:=omega) only[go_sem,h1,b1,h3,hw,c4];exact mW hx hn c4
  ·simp(disch:=omega) only[go_sem,c4];exact ab (congrArg I (by rw[e,qZ hx c4,Bool.and_false];rfl))
 ·rintro σ bx ⟨h1,b1,h3,hn⟩;have ar:¬(s.bl.length:Int)<(s.bl.length:Int):=oM;simp(disch:=omega) only[go_sem,h1,b1,h3,ar,fB.d,fB.l];rw[tL]at hn;exact ab (congrArg I (by rw[e,c2,c3,hn];rfl))
def fp{α:Type}(r:α->α->Bool):List α->Bool
 |[]=>true
 |[_]=>true
 |x::y::l=>r x y&&fp r (y::l)
theorem vU{α:Type}{r:α->α->Bool}:∀ {l:List α},fp r l=true<->∀i x y,l[i]? =some x->l[i+1]? =some y->r x y=true
 |[]=>⟨fun _ i x y h=>by simp at h,fun _=>rfl⟩
 |[a]=>⟨fun _ i x y _ h=>by simp at h,fun _=>rfl⟩
 |a::b::l=>by
  rw[fp,bA,vU (l:=b::l)];constructor
  ·rintro⟨h1,h2⟩ i x y hx hy;cases i with
   |zero=>simp at hx hy;subst hx;subst hy;exact h1
   |succ i=>exact h2 i x y (by simpa using hx) (by simpa using hy)
  ·intro h;exact⟨h 0 a b rfl rfl,fun i x y hx hy=>h (i+1) x y (by simpa using hx) (by simpa using hy)⟩
theorem zN{α:Type}{r:α->α->Bool}{l:List α}{j:Nat}{x y:α}(hx:l[j]? =some x)(hy:l[j+1]? =some y)(h:r x y=false):fp r l=false:=by
 cases hb:fp r l with
 |false=>rfl
 |true=>rw[vU.1 hb j x y hx hy]at h;cases h
def uj{α:Type}{r:α->α->Bool}{l:List α}{j:Nat}{x y:α}(hx:l[j]? =some x)(hy:l[j+1]? =some y)(h1:fp r (l.take (j+1))=true)(h:r x y=true):fp r (l.take (j+1+1))=true:=by
 refine vU.2 fun i a b ha hb=>?_;have hl:=(gS.1 hb).1;rw[List.length_take]at hl;rw[List.getElem?_take_of_lt oM]at ha hb;by_cases hi:i=j
 ·subst hi;rw[hx]at ha;rw[hy]at hb;injection ha with ha;injection hb with hb;subst ha;subst hb;exact h
 ·exact vU.1 h1 i a b (by rw[List.getElem?_take_of_lt oM];exact ha) (by rw[List.getElem?_take_of_lt oM];exact hb)
theorem vV{α:Type}{r:α->α->Bool}(l:List α):fp r (l.take 1)=true:=by
 cases l with
 |nil=>rfl
 |cons a l=>rfl
def fl(g:fK):Bool:=aN g.f 0 1114111&&aN g.t 0 1114111&&decide (g.f<=g.t)&&aN g.w 0 4096
def iD(k:iI):Bool:=aN k.a 0 1114111&&aN k.b 0 1114111&&aN k.y (-4096) 4096
def kB(x y:fK):Bool:=decide (x.t<y.f)
def kK(x y:iI):Bool:=decide (x.a<y.a)||decide (x.a=y.a)&&decide (x.b<y.b)
def jZ(f:fS):Int:=if 1024<f.gs.length\/1024<f.ks.length then 2 else if aN f.o 0 4096&&f.gs.all fl&&fp kB f.gs&&f.ks.all iD&&fp kK f.ks then 0 else 110
def rl(n a b:Int):ao prog 389 [I n,I a,I b] (.bool (aN n a b)):=by
 refine aw mixed (fn:=f389) (tab:=[]) ?_ rfl aj rfl;refine ax _ [.tmp 6] _ rfl rfl rfl aj ?_;repeat' (first|with_reducible apply zJ<;>intro _|simp(disch:=omega) only[go_sem, *])
 all_goals first|exact .refl _|(refine ab (congrArg D.bool ?_);first|(simp(disch:=omega) [*,aN];done)|(simp[aN]at *;omega)|(rw[Bool.eq_iff_iff];simp[aN]at *;omega))
def Sn(n:Int):ao prog 396 [I n] (.bool false):=by
 refine aw mixed (fn:=f396) (tab:=[]) ?_ rfl aj rfl;refine ax _ [.tmp 2] _ rfl rfl rfl aj ?_;repeat' (first|with_reducible apply zJ<;>intro _|simp(disch:=omega) only[go_sem, *])
 all_goals first|exact .refl _|exact ab (congrArg D.bool sI)
def Pj(a b:Int):Int:=if a<b then -1 else if b<a then 1 else 0
def Ev(a b:Int):ao prog 395 [I a,I b] (I (Pj a b)):=by
 refine aw mixed (fn:=f395) (tab:=[]) ?_ rfl aj rfl;refine ax _ [.tmp 4] _ rfl rfl rfl aj ?_;repeat' (first|with_reducible apply zJ<;>intro _|with_reducible refine cb (Sn _) sG ?_|with_reducible refine cd (Sn _) sG ?_|simp(disch:=omega) only[go_sem, *])
 all_goals exact ab (congrArg I (by unfold Pj;simp[*]))
def Xh(a b:Int):ao prog 394 [.sl 1 [I a,I b]] (I (if a=0 then b else a)):=by
 refine aw mixed (fn:=f394) (tab:=[]) ?_ rfl aj rfl;refine ax _ [.tmp 2] _ rfl rfl rfl aj ?_;simp(disch:=omega) only[go_sem];refine bo 2 (fun j σ bx=>σ 3=I 0/\σ 6= .sl 1 [I a,I b]/\σ 7=I 2/\σ 8=I j/\(0<j->a=0)/\(1<j->b=0)) ?_ ?_ ?_
 ·simp[go_sem,bB]
 ·rintro j σ bx hj ⟨h3,h6,h7,h8,ha,hb⟩;obtain rfl|rfl:j=0\/j=1:=oM
  ·have h8:σ 8=I 0:=h8;clear ha hb;repeat' (first|with_reducible apply zJ<;>intro _|simp(disch:=omega) only[go_sem, *,h3,h6,h7,h8])
   all_goals first|exact ab (congrArg I (by simp[*]))|exact⟨congrArg I (wr 1 oM oM),fun _=>by assumption,fun h=>by omega⟩|simp_all[wr]
  ·have h8:σ 8=I 1:=h8;have ha:=ha oM;clear hb;subst ha;repeat' (first|with_reducible apply zJ<;>intro _|simp(disch:=omega) only[go_sem, *,h3,h6,h7,h8])
   all_goals first|exact ab (congrArg I (by simp[*]))|exact⟨congrArg I (wr 2 oM oM),fun _=>rfl,fun _=>by assumption⟩|simp_all[wr]
 ·rintro σ bx ⟨h3,h6,h7,h8,ha,hb⟩;have h8:σ 8=I 2:=h8;have ha:=ha oM;have hb:=hb oM;simp(disch:=omega) only[go_sem,h3,h7,h8];exact ab (congrArg I (by simp[ha,hb]))
def M4(x y:fK):ao prog 391 [x.d,y.d] (.bool (kB x y)):=by
 refine aw mixed (fn:=f391) (tab:=[]) ?_ rfl aj rfl;refine ax _ [.tmp 4] _ rfl rfl rfl aj ?_;repeat' (first|with_reducible apply zJ<;>intro _|simp(disch:=omega) only[go_sem, *,fK.d])
 exact .refl _
def M5(x y:iI):ao prog 393 [x.d,y.d] (.bool (kK x y)):=by
 refine aw mixed (fn:=f393) (tab:=[(1,[(9,7),(9,5)])]) ?_ rfl aj rfl;refine ax _ [.tmp 4] _ rfl rfl rfl aj ?_;repeat' (first|with_reducible apply zJ<;>intro _|with_reducible refine cb (Ev _ _) sG ?_|with_reducible refine cd (Ev _ _) sG ?_|with_reducible refine cb (Xh _ _) sG ?_|with_reducible refine cd (Xh _ _) sG ?_|simp(disch:=omega) only[go_sem, *,iI.d])
 refine ab (congrArg D.bool ?_);unfold Pj kK;by_cases h1:x.a<y.a
 ·simp[h1]
 ·by_cases h2:x.a=y.a
  ·simp[h2];by_cases h3:x.b<y.b
   ·simp[h3]
   ·simp[h3];split<;>decide
  ·have h3:y.a<x.a:=oM;simp[h1,h2,h3]
def I_{f:FuncId}{r:fK->fK->Bool}(l:List fK)(hl:l.length<=140737488355328)(hf:∀x y:fK,ao prog f [x.d,y.d] (.bool (r x y))):ao prog 390 [.sl 3 (l.map fK.d),.fn (.func f) []] (.bool (fp r l)):=by
 refine aw mixed (fn:=f390) (tab:=[]) ?_ rfl aj rfl;refine ax _ [.tmp 4] _ rfl rfl rfl aj ?_;simp(disch:=omega) only[go_sem];refine bo (l.length - 1) (fun j σ bx=>σ 0= .sl 3 (l.map fK.d)/\σ 1= .fn (.func f) []/\σ 5=I ((j:Int)+1)/\fp r (l.take (j+1))=true) ?_ ?_ ?_
 ·simp[go_sem,bB,vV]
 ·rintro j σ bx hj ⟨h0,h1,h5,hn⟩;obtain⟨x,hx⟩:=ba (show j<l.length by omega);obtain⟨y,hy⟩:=ba (show j+1<l.length by omega);have ar:(j:Int)+1<(l.length:Int):=oM;have hw:IntKind.i64.wrap ((j:Int)+1 - 1)=(j:Int):=by rw[wr _ oM oM];omega
  have iL:IntKind.i64.wrap ((j:Int)+1+1)=(j:Int)+1+1:=wr _ oM oM;have pT:l[((j:Int)+1).toNat]? =some y:=by rw[show((j:Int)+1).toNat=j+1 by omega];exact hy
  have kD:=hf x y;simp(disch:=omega) only[go_sem,h0,h1,h5,ar,hw,hx,pT,fK.d];refine av kD sG ?_;simp(disch:=omega) only[go_sem];refine aY (fun c=>?_) (fun c=>?_)
  ·simp(disch:=omega) only[go_sem,h0,h1,h5,iL,c];exact⟨congrArg I oM,uj hx hy hn c⟩
  ·simp(disch:=omega) only[go_sem,c];exact ab (congrArg D.bool (zN hx hy c).symm)
 ·rintro σ bx ⟨h0,h1,h5,hn⟩;have ar:¬((l.length - 1:Nat):Int)+1<(l.length:Int):=oM;simp(disch:=omega) only[go_sem,h0,h5,ar];rw[List.take_of_length_le oM]at hn;exact ab (congrArg D.bool hn.symm)
def L6{f:FuncId}{r:iI->iI->Bool}(l:List iI)(hl:l.length<=140737488355328)(hf:∀x y:iI,ao prog f [x.d,y.d] (.bool (r x y))):ao prog 392 [.sl 3 (l.map iI.d),.fn (.func f) []] (.bool (fp r l)):=by
 refine aw mixed (fn:=f392) (tab:=[]) ?_ rfl aj rfl;refine ax _ [.tmp 4] _ rfl rfl rfl aj ?_;simp(disch:=omega) only[go_sem];refine bo (l.length - 1) (fun j σ bx=>σ 0= .sl 3 (l.map iI.d)/\σ 1= .fn (.func f) []/\σ 5=I ((j:Int)+1)/\fp r (l.take (j+1))=true) ?_ ?_ ?_
 ·simp[go_sem,bB,vV]
 ·rintro j σ bx hj ⟨h0,h1,h5,hn⟩;obtain⟨x,hx⟩:=ba (show j<l.length by omega);obtain⟨y,hy⟩:=ba (show j+1<l.length by omega);have ar:(j:Int)+1<(l.length:Int):=oM;have hw:IntKind.i64.wrap ((j:Int)+1 - 1)=(j:Int):=by rw[wr _ oM oM];omega
  have iL:IntKind.i64.wrap ((j:Int)+1+1)=(j:Int)+1+1:=wr _ oM oM;have pT:l[((j:Int)+1).toNat]? =some y:=by rw[show((j:Int)+1).toNat=j+1 by omega];exact hy
  have kD:=hf x y;simp(disch:=omega) only[go_sem,h0,h1,h5,ar,hw,hx,pT,iI.d];refine av kD sG ?_;simp(disch:=omega) only[go_sem];refine aY (fun c=>?_) (fun c=>?_)
  ·simp(disch:=omega) only[go_sem,h0,h1,h5,iL,c];exact⟨congrArg I oM,uj hx hy hn c⟩
  ·simp(disch:=omega) only[go_sem,c];exact ab (congrArg D.bool (zN hx hy c).symm)
 ·rintro σ bx ⟨h0,h1,h5,hn⟩;have ar:¬((l.length - 1:Nat):Int)+1<(l.length:Int):=oM;simp(disch:=omega) only[go_sem,h0,h5,ar];rw[List.take_of_length_le oM]at hn;exact ab (congrArg D.bool hn.symm)
def F4{α:Type}{p:α->Bool}{l:List α}{j:Nat}{x:α}(hx:l[j]? =some x):(l.take (j+1)).all p=((l.take j).all p&&p x):=by rw[List.take_add_one,hx];simp only[Option.toList_some,List.all_append,List.all_cons,List.all_nil,Bool.and_true]
def PT(g:fK):fl g=(aN g.f 0 g.t&&decide (g.t<=1114111)&&aN g.w 0 4096):=by unfold fl aN;rw[Bool.eq_iff_iff];simp;omega
def Nf(f:fS):ao prog 388 [f.d] (I (jZ f)):=by
 refine aw mixed (fn:=f388) (tab:=[]) ?_ rfl aj rfl;refine ax _ [.tmp 2] _ rfl rfl rfl aj ?_;simp(disch:=omega) only[go_sem,fS.d,fS.l];have big:(1024<f.gs.length\/1024<f.ks.length)->bN (I 2) (I (jZ f)):=fun h=>ab (congrArg I (by unfold jZ;rw[if_pos h]));refine bg (fun c1=>?_) (fun c1=>?_)
 ·simp(disch:=omega) only[go_sem,c1,decide_true];exact big (.inl oM)
 simp(disch:=omega) only[go_sem,c1,decide_false];refine bg (fun c2=>?_) (fun c2=>?_)
 ·simp(disch:=omega) only[go_sem,c2,decide_true];exact big (.inr oM)
 have e:jZ f=if aN f.o 0 4096&&f.gs.all fl&&fp kB f.gs&&f.ks.all iD&&fp kK f.ks then 0 else 110:=by unfold jZ;rw[if_neg oM]
 have no:(aN f.o 0 4096&&f.gs.all fl&&fp kB f.gs&&f.ks.all iD&&fp kK f.ks)=false->bN (I 110) (I (jZ f)):=fun h=>ab (congrArg I (by rw[e,h];rfl));have yes:(aN f.o 0 4096&&f.gs.all fl&&fp kB f.gs&&f.ks.all iD&&fp kK f.ks)=true->bN (I 0) (I (jZ f)):=fun h=>ab (congrArg I (by rw[e,h];rfl));clear e big;generalize jZ f=r at *;simp(disch:=omega) only[go_sem,c2,decide_false];refine av (rl _ _ _) sG ?_;simp(disch:=omega) only[go_sem,c2,decide_false];refine bo f.gs.length (fun j σ bx=>σ 1= .loc 1 1 0 0/\bx 1=⟨1,1,3,127,[f.d]⟩/\σ 22= .sl 3 (f.gs.map fK.d)/\σ 23=I f.gs.length/\σ 24=I j/\σ 3= .bool (aN f.o 0 4096&&(f.gs.take j).all fl)) ?_ ?_ ?_
 ·simp[go_sem,ak,Bx.none]
 ·rintro j σ bx hj ⟨h1,b1,Vq,GO,Nj,h3⟩;obtain⟨x,hx⟩:=ba hj;have ar:(j:Int)<(f.gs.length:Int):=oM;have hw:IntKind.i64.wrap ((j:Int)+1)=((j+1:Nat):Int):=aD oM;rw[F4 hx,<-Bool.and_assoc];generalize(aN f.o 0 4096&&(f.gs.take j).all fl)=b at *;clear no yes;repeat' (first|with_reducible apply zJ<;>intro _|with_reducible refine cb (rl _ _ _) sG ?_|with_reducible refine cd (rl _ _ _) sG ?_|simp(disch:=omega) only[go_sem, *,fK.d])
  all_goals exact congrArg D.bool (by simp_all[PT]<;>(intro h;omega))
 rintro σ bx ⟨h1,b1,Vq,GO,Nj,h3⟩;have ar:¬(f.gs.length:Int)<(f.gs.length:Int):=oM;rw[tL]at h3;simp(disch:=omega) only[go_sem,h1,b1,GO,Nj,ar,fS.d,fS.l];refine bo f.ks.length (fun j σ bx=>σ 1= .loc 1 1 0 0/\bx 1=⟨1,1,3,127,[f.d]⟩/\σ 48= .sl 3 (f.ks.map iI.d)/\σ 49=I f.ks.length/\σ 50=I j/\σ 3= .bool (aN f.o 0 4096&&f.gs.all fl&&(f.ks.take j).all iD)) ?_ ?_ ?_
 ·simp[go_sem,ak,h1,b1,h3]
 ·rintro j σ bx hj ⟨h1,b1,Vq,GO,Nj,h3⟩;obtain⟨x,hx⟩:=ba hj;have ar:(j:Int)<(f.ks.length:Int):=oM;have hw:IntKind.i64.wrap ((j:Int)+1)=((j+1:Nat):Int):=aD oM;rw[F4 hx,<-Bool.and_assoc];generalize(aN f.o 0 4096&&f.gs.all fl&&(f.ks.take j).all iD)=b at *;clear no yes;repeat' (first|with_reducible apply zJ<;>intro _|with_reducible refine cb (rl _ _ _) sG ?_|with_reducible refine cd (rl _ _ _) sG ?_|simp(disch:=omega) only[go_sem, *,iI.d])
  all_goals exact congrArg D.bool (by simp_all[iD])
 rintro σ bx ⟨h1,b1,Vq,GO,Nj,h3⟩;have ar:¬(f.ks.length:Int)<(f.ks.length:Int):=oM;rw[tL]at h3;simp(disch:=omega) only[go_sem,GO,Nj,h3,ar];refine aY (fun c3=>?_) (fun c3=>?_)
 rotate_left
 ·simp(disch:=omega) only[go_sem,c3];exact no (by revert c3;cases aN f.o 0 4096<;>cases f.gs.all fl<;>cases f.ks.all iD<;>simp)
 simp only[bA]at c3;obtain⟨⟨c3,c4⟩,c5⟩:=c3;simp(disch:=omega) only[go_sem,h1,b1,c3,c4,c5,Bool.and_self,fS.d,fS.l];refine av (I_ f.gs oM M4) sG ?_;simp(disch:=omega) only[go_sem,c3,c4,c5,Bool.and_self];refine aY (fun c6=>?_) (fun c6=>?_)
 rotate_left
 ·simp(disch:=omega) only[go_sem,c3,c4,c5,c6,Bool.and_self];exact no (by rw[c6];simp)
 simp(disch:=omega) only[go_sem,h1,b1,c3,c4,c5,c6,Bool.and_self,fS.d,fS.l];refine av (L6 f.ks oM M5) sG ?_;simp(disch:=omega) only[go_sem,c3,c4,c5,c6,Bool.and_self];refine aY (fun c7=>?_) (fun c7=>?_)
 ·simp(disch:=omega) only[go_sem,c3,c4,c5,c6,c7,Bool.and_self];exact yes (by rw[c3,c4,c5,c6,c7];rfl)
 ·simp(disch:=omega) only[go_sem,c3,c4,c5,c6,c7,Bool.and_self];exact no (by rw[c7];simp)
def jA(n:Int):ao prog 304 [I n] (.bool (aN n 0 4096)):=by
 refine aw mixed (fn:=f304) (tab:=[]) ?_ rfl aj rfl;refine ax _ [.tmp 2] _ rfl rfl rfl aj ?_;repeat' (first|with_reducible apply zJ<;>intro _|simp(disch:=omega) only[go_sem, *])
 all_goals first|exact .refl _|(refine ab (congrArg D.bool ?_);first|(simp(disch:=omega) [*,aN];done)|(simp[aN]at *;omega)|(rw[Bool.eq_iff_iff];simp[aN]at *;omega))
def kN(n:Int):ao prog 305 [I n] (.bool (aN n 0 1114111)):=by
 refine aw mixed (fn:=f305) (tab:=[]) ?_ rfl aj rfl;refine ax _ [.tmp 2] _ rfl rfl rfl aj ?_;repeat' (first|with_reducible apply zJ<;>intro _|simp(disch:=omega) only[go_sem, *])
 all_goals first|exact .refl _|(refine ab (congrArg D.bool ?_);first|(simp(disch:=omega) [*,aN];done)|(simp[aN]at *;omega)|(rw[Bool.eq_iff_iff];simp[aN]at *;omega))
def GL{x:fK}(h:aN x.f 0 1114111=false\/aN x.t 0 1114111=false\/x.t<x.f\/aN x.w 0 4096=false):fl x=false:=by
 unfold fl;rcases h with h|h|h|h
 ·simp[h]
 ·simp[h]
 ·rw[decide_eq_false oM];simp
 ·simp[h]
def EH{x:fK}(h1:aN x.f 0 1114111=true)(h2:aN x.t 0 1114111=true)(h3:¬x.t<x.f)(h4:aN x.w 0 4096=true):fl x=true:=by unfold fl;rw[h1,h2,h4,decide_eq_true oM];rfl
def J7{x:iI}(h:aN x.a 0 1114111=false\/aN x.b 0 1114111=false\/x.y< -4096\/4096<x.y):iD x=false:=by
 unfold iD;rcases h with h|h|h|h
 ·simp[h]
 ·simp[h]
 ·simp[aN];intros;omega
 ·simp[aN];intros;omega
def Hm{x:iI}(h1:aN x.a 0 1114111=true)(h2:aN x.b 0 1114111=true)(h3:¬x.y< -4096)(h4:¬4096<x.y):iD x=true:=by unfold iD;rw[h1,h2];simp[aN];omega
def LP(f:fS):ao prog 259 [f.d] (I (jZ f)):=by
 refine aw mixed (fn:=f259) (tab:=[]) ?_ rfl aj rfl;refine ax _ [.tmp 2] _ rfl rfl rfl aj ?_;simp(disch:=omega) only[go_sem,fS.d,fS.l];have big:(1024<f.gs.length\/1024<f.ks.length)->bN (I 2) (I (jZ f)):=fun h=>ab (congrArg I (by unfold jZ;rw[if_pos h]));refine bg (fun c1=>?_) (fun c1=>?_)
 ·simp(disch:=omega) only[go_sem,c1,decide_true];exact big (.inl oM)
 simp(disch:=omega) only[go_sem,c1,decide_false];refine bg (fun c2=>?_) (fun c2=>?_)
 ·simp(disch:=omega) only[go_sem,c2,decide_true];exact big (.inr oM)
 have e:jZ f=if aN f.o 0 4096&&f.gs.all fl&&fp kB f.gs&&f.ks.all iD&&fp kK f.ks then 0 else 110:=by unfold jZ;rw[if_neg oM]
 have no:(aN f.o 0 4096&&f.gs.all fl&&fp kB f.gs&&f.ks.all iD&&fp kK f.ks)=false->bN (I 110) (I (jZ f)):=fun h=>ab (congrArg I (by rw[e,h];rfl));have yes:(aN f.o 0 4096&&f.gs.all fl&&fp kB f.gs&&f.ks.all iD&&fp kK f.ks)=true->bN (I 0) (I (jZ f)):=fun h=>ab (congrArg I (by rw[e,h];rfl));clear e big;generalize jZ f=r at *;simp(disch:=omega) only[go_sem,c2,decide_false];refine av (jA _) sG ?_;simp(disch:=omega) only[go_sem,c2,decide_false];refine aY (fun c3=>?_) (fun c3=>?_)
 rotate_left
 ·simp(disch:=omega) only[go_sem,c3];exact no (by rw[c3];rfl)
 have W5:f.gs.all fl=false->bN (I 110) (I r):=fun h=>no (by rw[h];simp);have So:fp kB f.gs=false->bN (I 110) (I r):=fun h=>no (by rw[h];simp);have W6:f.ks.all iD=false->bN (I 110) (I r):=fun h=>no (by rw[h];simp);have Sp:fp kK f.ks=false->bN (I 110) (I r):=fun h=>no (by rw[h];simp);have Rl:f.gs.all fl=true->fp kB f.gs=true->f.ks.all iD=true->fp kK f.ks=true->bN (I 0) (I r):=fun h1 h2 h3 h4=>yes (by rw[c3,h1,h2,h3,h4];rfl);clear no yes;simp(disch:=omega) only[go_sem];refine bo f.gs.length (fun j σ bx=>σ 1= .loc 1 1 0 0/\bx 1=⟨1,1,3,127,[f.d]⟩/\σ 3=I j/\(f.gs.take j).all fl=true/\fp kB (f.gs.take j)=true) ?_ ?_ ?_
 ·simp[go_sem,ak,Bx.none,fp]
 ·rintro j σ bx hj ⟨h1,b1,h3,hn,hu⟩;obtain⟨x,hx⟩:=ba hj;have ar:(j:Int)<(f.gs.length:Int):=oM;have nox:fl x=false->bN (I 110) (I r):=fun h=>W5 (qZ hx h);have eG:fl x=true->(f.gs.take (j+1)).all fl=true:=fun h=>mW hx hn h;clear hn W5 W6 Sp Rl;rcases j with _|j
  ·have h3:σ 3=I 0:=h3;have ar:(0:Int)<(f.gs.length:Int):=oM;clear hu So;repeat' (first|with_reducible apply zJ<;>intro _|with_reducible refine cb (jA _) sG ?_|with_reducible refine cd (jA _) sG ?_|with_reducible refine cb (kN _) sG ?_|with_reducible refine cd (kN _) sG ?_|simp(disch:=omega) only[go_sem, *,fK.d,fS.d,fS.l])
   all_goals first|exact nox (GL (by first|exact .inl (by assumption)|exact .inr (.inl (by assumption))|exact .inr (.inr (.inl (by assumption)))|exact .inr (.inr (.inr (by assumption)))))|exact⟨congrArg I (wr 1 oM oM),eG (EH (by assumption) (by assumption) (by assumption) (by assumption)),vV _⟩
  ·obtain⟨y,hy⟩:=ba (show j<f.gs.length by omega);have hw:IntKind.i64.wrap (((j+1:Nat):Int) - 1)=(j:Int):=by rw[wr _ oM oM];omega
   have hp:(0:Int)<((j+1:Nat):Int):=oM;have PW:kB y x=true->fp kB (f.gs.take (j+1+1))=true:=fun h=>uj hy hx hu h;have noa:kB y x=false->bN (I 110) (I r):=fun h=>So (zN hy hx h);clear hu So;repeat' (first|with_reducible apply zJ<;>intro _|with_reducible refine cb (jA _) sG ?_|with_reducible refine cd (jA _) sG ?_|with_reducible refine cb (kN _) sG ?_|with_reducible refine cd (kN _) sG ?_|simp(disch:=omega) only[go_sem, *,fK.d,fS.d,fS.l])
   all_goals first|exact nox (GL (by first|exact .inl (by assumption)|exact .inr (.inl (by assumption))|exact .inr (.inr (.inl (by assumption)))|exact .inr (.inr (.inr (by assumption)))))|exact noa (decide_eq_false oM)|(rw[aD oM];exact⟨rfl,eG (EH (by assumption) (by assumption) (by assumption) (by assumption)),PW (decide_eq_true oM)⟩)
 rintro σ bx ⟨h1,b1,h3,hn,hu⟩;have ar:¬(f.gs.length:Int)<(f.gs.length:Int):=oM;rw[tL]at hn hu;have X8:=Rl hn hu;clear Rl W5 So;simp(disch:=omega) only[go_sem,h1,b1,h3,ar,fS.d,fS.l];clear hn hu;refine bo f.ks.length (fun j σ bx=>σ 1= .loc 1 1 0 0/\bx 1=⟨1,1,3,127,[f.d]⟩/\σ 5=I j/\(f.ks.take j).all iD=true/\fp kK (f.ks.take j)=true) ?_ ?_ ?_
 ·simp[go_sem,ak,h1,b1,fp]
 ·rintro j σ bx hj ⟨h1,b1,h5,hn,hu⟩;obtain⟨x,hx⟩:=ba hj;have ar:(j:Int)<(f.ks.length:Int):=oM;have nox:iD x=false->bN (I 110) (I r):=fun h=>W6 (qZ hx h);have eG:iD x=true->(f.ks.take (j+1)).all iD=true:=fun h=>mW hx hn h;clear hn W6 X8;rcases j with _|j
  ·have h5:σ 5=I 0:=h5;have ar:(0:Int)<(f.ks.length:Int):=oM;clear hu Sp;repeat' (first|with_reducible apply zJ<;>intro _|with_reducible refine cb (jA _) sG ?_|with_reducible refine cd (jA _) sG ?_|with_reducible refine cb (kN _) sG ?_|with_reducible refine cd (kN _) sG ?_|simp(disch:=omega) only[go_sem, *,iI.d,fS.d,fS.l])
   all_goals first|exact nox (J7 (by first|exact .inl (by assumption)|exact .inr (.inl (by assumption))|exact .inr (.inr (.inl (by assumption)))|exact .inr (.inr (.inr (by assumption)))))|exact⟨congrArg I (wr 1 oM oM),eG (Hm (by assumption) (by assumption) (by assumption) (by assumption)),vV _⟩
  ·obtain⟨y,hy⟩:=ba (show j<f.ks.length by omega);have hw:IntKind.i64.wrap (((j+1:Nat):Int) - 1)=(j:Int):=by rw[wr _ oM oM];omega
   have hp:(0:Int)<((j+1:Nat):Int):=oM;have PW:kK y x=true->fp kK (f.ks.take (j+1+1))=true:=fun h=>uj hy hx hu h;have noa:kK y x=false->bN (I 110) (I r):=fun h=>Sp (zN hy hx h);clear hu Sp;repeat' (first|with_reducible apply zJ<;>intro _|with_reducible refine cb (jA _) sG ?_|with_reducible refine cd (jA _) sG ?_|with_reducible refine cb (kN _) sG ?_|with_reducible refine cd (kN _) sG ?_|simp(disch:=omega) only[go_sem, *,iI.d,fS.d,fS.l])
   all_goals first|exact nox (J7 (by first|exact .inl (by assumption)|exact .inr (.inl (by assumption))|exact .inr (.inr (.inl (by assumption)))|exact .inr (.inr (.inr (by assumption)))))|exact noa (by unfold kK;rw[Bool.eq_false_iff];simp;omega)|(rw[aD oM];exact⟨rfl,eG (Hm (by assumption) (by assumption) (by assumption) (by assumption)),PW (by unfold kK;simp;omega)⟩)
 rintro σ bx ⟨h1,b1,h5,hn,hu⟩;have ar:¬(f.ks.length:Int)<(f.ks.length:Int):=oM;rw[tL]at hn hu;simp(disch:=omega) only[go_sem,h1,b1,h5,ar,fS.d,fS.l];exact X8 hn hu
def X2(n a b:Int):ao prog 241 [I n,I a,I b] (.bool (aN n a b)):=by
 refine aw mixed (fn:=f241) (tab:=[]) ?_ rfl aj rfl;refine ax _ [.tmp 6] _ rfl rfl rfl aj ?_;repeat' (first|with_reducible apply zJ<;>intro _|simp(disch:=omega) only[go_sem, *])
 all_goals first|exact .refl _|(refine ab (congrArg D.bool ?_);first|(simp(disch:=omega) [*,aN];done)|(simp[aN]at *;omega)|(rw[Bool.eq_iff_iff];simp[aN]at *;omega))
def J4(n:Int):ao prog 383 [I n] (.bool (aN n 0 63)):=by
 refine aw mixed (fn:=f383) (tab:=[]) ?_ rfl aj rfl;refine ax _ [.tmp 2] _ rfl rfl rfl aj ?_;repeat' (first|with_reducible apply zJ<;>intro _|simp(disch:=omega) only[go_sem, *])
 all_goals first|exact .refl _|(refine ab (congrArg D.bool ?_);first|(simp(disch:=omega) [*,aN];done)|(simp[aN]at *;omega)|(rw[Bool.eq_iff_iff];simp[aN]at *;omega))
def XY(l:List Bool)(hl:l.length<=140737488355328):ao prog 242 [.sl 1 (l.map D.bool)] (.bool (l.all id)):=by
 refine aw mixed (fn:=f242) (tab:=[]) ?_ rfl aj rfl;refine ax _ [.tmp 2] _ rfl rfl rfl aj ?_;simp(disch:=omega) only[go_sem];refine bo l.length (fun j σ bx=>σ 5= .sl 1 (l.map D.bool)/\σ 6=I l.length/\σ 7=I j/\(l.take j).all id=true) ?_ ?_ ?_
 ·simp[go_sem,bB]
 ·rintro j σ bx hj ⟨h5,h6,h7,hn⟩;obtain⟨x,hx⟩:=ba hj;have ar:(j:Int)<(l.length:Int):=oM;have hw:IntKind.i64.wrap ((j:Int)+1)=((j+1:Nat):Int):=aD oM;simp(disch:=omega) only[go_sem,h5,h6,h7,ar,hx];refine aY (fun c=>?_) (fun c=>?_)
  ·simp(disch:=omega) only[go_sem,h5,h6,h7,hw,c];exact mW hx hn c
  ·simp(disch:=omega) only[go_sem,c];exact ab (congrArg D.bool (qZ (p:=id) hx c).symm)
 ·rintro σ bx ⟨h5,h6,h7,hn⟩;have ar:¬(l.length:Int)<(l.length:Int):=oM;simp(disch:=omega) only[go_sem,h6,h7,ar];rw[tL]at hn;exact ab (congrArg D.bool hn.symm)
def S3(n:Int):ao prog 384 [I n,.cA (.fn (.func 383) []) 0] (.bool (!aN n 0 63)):=by
 refine aw mixed (fn:=f384) (tab:=[]) ?_ rfl aj rfl;refine ax _ [.tmp 3] _ rfl rfl rfl aj ?_;repeat' (first|with_reducible apply zJ<;>intro _|with_reducible refine cb (J4 _) sG ?_|with_reducible refine cd (J4 _) sG ?_|simp(disch:=omega) only[go_sem, *])
 all_goals first|exact .refl _|(refine ab (congrArg D.bool ?_);first|(simp(disch:=omega) [*,];done)|(simp[]at *;omega)|(rw[Bool.eq_iff_iff];simp[]at *;omega))
def U5(l:List Int)(hl:l.length<=140737488355328):ao prog 382 [ints l,.fn (.func 383) []] (.bool (l.all fun n=>aN n 0 63)):=by
 have hc:=Np (f:=384) (caps:=[.cA (.fn (.func 383) []) 0]) (p:=fun n=> !aN n 0 63) l hl (fun n _=>S3 n) (fun x=>rfl) rfl;refine aw mixed (fn:=f382) (tab:=[]) ?_ rfl aj rfl;refine ax _ [.tmp 4] _ rfl rfl rfl aj ?_;simp(disch:=omega) only[go_sem,ints];refine rj hc (by simp[go_sem,D.aF,D.pure,lU,ak,dn]) rfl ?_;simp(disch:=omega) only[go_sem,qp];exact .refl _
def BF(v:cy):Bool:=aN v.room 1 1099511627776&&decide (jZ v.js=0)&&decide (v.iH.length=0)
def Q1(v:cy):ao prog 385 [v.d] (.bool (BF v)):=by
 have hc:=Nf v.js;refine aw mixed (fn:=f385) (tab:=[]) ?_ rfl aj rfl;refine ax _ [.tmp 2] _ rfl rfl rfl aj ?_;repeat' (first|with_reducible apply zJ<;>intro _|with_reducible refine cb (hc) sG ?_|with_reducible refine cd (hc) sG ?_|simp(disch:=omega) only[go_sem, *,cy.d,fS.d,fS.l])
 all_goals (refine ab (congrArg D.bool ?_);unfold BF aN;first|(simp[*];done)|(rw[Bool.eq_iff_iff];simp[*];omega))
def M6:GC= .agg ((List.range 256).map fun c=>D.int .u8 (Lib.firstT c)):=aj
def Ky:DH= .agg ((List.range 32).map fun c=>D.int .u8 ((if c % 2=0 then Lib.accLo (c / 2)else Lib.accHi (c / 2):Nat):Int)):=aj
def Gj{w:World}{S:Nat->Prop}{v:Value}{b n:Nat}{f:Nat->Nat}(h:br w S .fI v)(hg:Bc b=some (.agg ((List.range n).map fun c=>D.int .u8 (f c)))):∀c,c<n->w.cell? ⟨b,c,none⟩=some (.int .u8 (f c)):=by
 intro c fO;have h:=glo_at h hg;cases h with
 |@cA _ _ _ off _ us hS hp hc h1 hr=>
  obtain rfl:off=0:=oM;have hx:(D.agg ((List.range n).map fun c=>D.int .u8 (f c))).cells[c]? =some (.int .u8 (f c)):=by simp[D.cells,fO]
  have h2:=hc c _ hx;have h3:=dX (hr c _ hx);rw[h3]at h2;simpa using h2
def T4{w:World}{S:Nat->Prop}{v:Value}(h:br w S .fI v):Lib.Utf8Tabs 3 4 w:=by
 have h3:=Gj (b:=3) (n:=256) h (congrArg some M6);have h4:=Gj (b:=4) (n:=32) h (congrArg some Ky);refine⟨h3,fun i hi=>⟨?_,?_⟩⟩
 ·have:=h4 (2 * i) oM;rw[if_pos oM,show 2 * i / 2=i by omega]at this;exact this
 ·have:=h4 (2 * i+1) oM;rw[if_neg oM,show(2 * i+1) / 2=i by omega]at this;exact this
def bG(s:ah)(i:Nat):Nat:=(s[i]?.getD 0).toNat
def eB(s:ah):Nat×Nat:=if s.length=0 then(65533,0)else Lib.decodeN s.length (bG s 0) (bG s 1) (bG s 2) (bG s 3)
def agh{w:World}{S:Nat->Prop}{u v:Value}{x y:D}(h1:br w S x u)(h2:br w S y v):br w S (.aL [x,y]) (.tuple #[u,v]):=by
 refine .aL rfl fun i d v hd hv=>?_;rcases i with _|_|i
 ·simp at hd hv;subst hd;subst hv;exact h1
 ·simp at hd hv;subst hd;subst hv;exact h2
 ·simp at hd
def Pr(s:ah):ao prog 350 [.str s] (.aL [.int .i32 (eB s).1,I (eB s).2]):=by
 intro w S vs hS hg hl hv;obtain⟨u,rfl,hu⟩:=UO hl hv;rw[iU hu];have hd:Lib.decodeGo ⟨s.toArray⟩=eB s:=by
  have hz:(⟨s.toArray⟩:ByteArray).size=s.length:=by simp[ByteArray.size]
  have hb:∀i,((⟨s.toArray⟩:ByteArray).get! i).toNat=bG s i:=fun i=>by
   simp only[ByteArray.get!,bG];rw[getElem!_def];simp;cases s[i]?<;>rfl
  unfold Lib.decodeGo eB;rw[hz];split
  ·rfl
  ·rw[Lib.decode_at,hz,hb,hb,hb,hb];simp
 refine .inl ⟨Go.MuLone.run_callFunc_enter (fn:=f350) rfl aj rfl _ w,Calls.mono (Any.utf8_DecodeRuneInString Tryz.TC ⟨s.toArray⟩ w (T4 hg)) fun e w' ⟨h1,h2⟩=>⟨_,h1,?_,h2⟩⟩;rw[hd];exact agh (.int _ _) (.int _ _)
def mX(s:ah):Bool:=decide ((eB s).1=65533)&&decide ((eB s).2<2)
def lV{s:ah}(h:s≠[]):1<=(eB s).2:=by
 unfold eB;rw[if_neg (by simpa using h)];unfold Lib.decodeN;repeat' split
 all_goals simp
def DO{s:ah}(h:s≠[])(hb:mX s=false):(eB s).2<=s.length:=by
 have hl:0<s.length:=List.length_pos_iff.2 h;unfold mX at hb;unfold eB at hb⊢;rw[if_neg oM]at hb⊢;unfold Lib.decodeN at hb⊢;repeat' split
 all_goals first|(simp;omega)|(simp at hb;done)|(simp_all;omega)
def tW:Nat->ah->Option (List Int)
 |_,[]=>some []
 |0,_=>none
 |n+1,s=>if mX s then none else(tW n (s.drop (eB s).2)).map fun l=>((eB s).1:Int)::l
def nG(s:ah):Option (List Int):=tW s.length s
theorem AW:∀ {n m:Nat} {s:ah},s.length<=n->n<=m->tW m s=tW n s
 |n,m,[],_,_=>by cases n<;>cases m<;>rfl
 |0,m,b::s,h,_=>by simp at h
 |n+1,0,b::s,_,h=>by omega
 |n+1,m+1,b::s,h,hm=>by
  have hp:=lV (s:=b::s) sI;simp only[tW];rw[AW (n:=n) (m:=m) (by rw[List.length_drop];simp at h⊢;omega) oM]
theorem AV{s:ah}(h:s≠[]):nG s=if mX s then none else(nG (s.drop (eB s).2)).map fun l=>((eB s).1:Int)::l:=by
 cases s with
 |nil=>exact absurd rfl h
 |cons b s=>
  have hp:=lV (s:=b::s) sI;unfold nG;simp only[List.length_cons,tW];rw[AW (n:=((b::s).drop (eB (b::s)).2).length) (m:=s.length) (Nat.le_refl _) (by rw[List.length_drop];simp;omega)]
def ij(n:Int):Bool:=decide (0<=n)&&decide (n<=1114111)&&(decide (n<55296)||decide (57343<n))
def iV(b:Int):Int×Int:=if b<128 then(1,b)else if 192<=b/\b<224 then(2,b - 192)else if 224<=b/\b<240 then(3,b - 224)else if 240<=b/\b<248 then(4,b - 240)else(0,0)
def gA(n:Int):Bool:=decide (n=9)||decide (n=10)||decide (n=13)||decide (n=32)
def yZ(n:Int):Bool:=aN n 65 90||aN n 97 122||(aN n 192 591&& !decide (n=215)&& !decide (n=247))||aN n 880 1279
def ly(n:Int):Int:=if ij n=false then 0 else if gA n then 1 else if aN n 48 57 then 2 else if yZ n then 3 else if aN n 1424 1983 then 4 else 0
def Kh(n:Int):ao prog 356 [I n] (.bool (ij n)):=by
 refine aw mixed (fn:=f356) (tab:=[]) ?_ rfl aj rfl;refine ax _ [.tmp 2] _ rfl rfl rfl aj ?_;repeat' (first|with_reducible apply zJ<;>intro _|simp(disch:=omega) only[go_sem, *])
 all_goals first|exact .refl _|(refine ab (congrArg D.bool ?_);first|(simp(disch:=omega) [*,ij];done)|(simp[ij]at *;omega)|(rw[Bool.eq_iff_iff];simp[ij]at *;omega))
def WZ(b:Int)(h0:0<=b)(h1:b<256):ao prog 355 [I b] (.aL [I (iV b).1,I (iV b).2]):=by
 have w1:IntKind.i64.wrap (b - 192)=b - 192:=wr _ oM oM;have w2:IntKind.i64.wrap (b - 224)=b - 224:=wr _ oM oM;have w3:IntKind.i64.wrap (b - 240)=b - 240:=wr _ oM oM;refine aw mixed (fn:=f355) (tab:=[]) ?_ rfl aj rfl;refine ax _ [.tmp 2,.tmp 3] _ rfl rfl rfl aj ?_;repeat' (first|with_reducible apply zJ<;>intro _|simp(disch:=omega) only[go_sem, *])
 all_goals (
  refine ab ?_;unfold iV;first
   |(rw[if_pos oM];done)
   |(rw[if_neg oM,if_pos oM];done)
   |(rw[if_neg oM,if_neg oM,if_pos oM];done)
   |(rw[if_neg oM,if_neg oM,if_neg oM,if_pos oM];done)
   |(rw[if_neg oM,if_neg oM,if_neg oM,if_neg oM];done))
def KH(n:Int):ao prog 342 [I n] (.bool (gA n)):=by
 refine aw mixed (fn:=f342) (tab:=[]) ?_ rfl aj rfl;refine ax _ [.tmp 2] _ rfl rfl rfl aj ?_;repeat' (first|with_reducible apply zJ<;>intro _|simp(disch:=omega) only[go_sem, *])
 all_goals first|exact .refl _|(refine ab (congrArg D.bool ?_);first|(simp(disch:=omega) [*,gA];done)|(simp[gA]at *;omega)|(rw[Bool.eq_iff_iff];simp[gA]at *;omega))
def WT(n:Int):ao prog 346 [I n] (.aL [I (ly n),I (if ij n then 0 else 90)]):=by
 have k0:ij n=false->ly n=0:=fun h=>by unfold ly;rw[if_pos h]
 have k1:ij n=true->gA n=true->ly n=1:=fun h h1=>by unfold ly;rw[if_neg (by simp[h]),if_pos h1]
 have k2:ij n=true->gA n=false->aN n 48 57=true->ly n=2:=fun h h1 h2=>by unfold ly;rw[if_neg (by simp[h]),if_neg (by simp[h1]),if_pos h2]
 have k3:ij n=true->gA n=false->aN n 48 57=false->yZ n=true->ly n=3:=fun h h1 h2 h3=>by unfold ly;rw[if_neg (by simp[h]),if_neg (by simp[h1]),if_neg (by simp[h2]),if_pos h3]
 have k4:ij n=true->gA n=false->aN n 48 57=false->yZ n=false->aN n 1424 1983=true->ly n=4:=fun h h1 h2 h3 h4=>by unfold ly;rw[if_neg (by simp[h]),if_neg (by simp[h1]),if_neg (by simp[h2]),if_neg (by simp[h3]),if_pos h4]
 have k5:ij n=true->gA n=false->aN n 48 57=false->yZ n=false->aN n 1424 1983=false->ly n=0:=fun h h1 h2 h3 h4=>by unfold ly;rw[if_neg (by simp[h]),if_neg (by simp[h1]),if_neg (by simp[h2]),if_neg (by simp[h3]),if_neg (by simp[h4])]
 generalize hk:ly n=k at *;clear hk;refine aw mixed (fn:=f346) (tab:=[]) ?_ rfl aj rfl;refine ax _ [.tmp 2,.tmp 3] _ rfl rfl rfl aj ?_;simp(disch:=omega) only[go_sem];refine av (Kh n) sG ?_;simp(disch:=omega) only[go_sem];refine aY (fun c=>?_) (fun c=>?_)
 rotate_left
 ·simp(disch:=omega) only[go_sem,c];exact ab (by rw[k0 c])
 clear k0;rw[if_pos c];replace k1:=k1 c;replace k2:=k2 c;replace k3:=k3 c;replace k4:=k4 c;replace k5:=k5 c;cases hs:gA n with
 |true=>
  replace k1:=k1 hs;clear k2 k3 k4 k5;subst k1;simp only[gA,Bool.or_eq_true,decide_eq_true_eq]at hs;rcases hs with((hs|hs)|hs)|hs<;>subst hs<;>simp(disch:=omega) only[go_sem,c,decide_true,decide_false]<;>exact .refl _
 |false=>
  replace k2:=k2 hs;replace k3:=k3 hs;replace k4:=k4 hs;replace k5:=k5 hs;simp only[gA,Bool.or_eq_false_iff,decide_eq_false_iff_not]at hs;obtain⟨⟨⟨a1,a2⟩,a3⟩,a4⟩:=hs;have key:∀m:Int,(aN n 48 57=true/\m=2\/aN n 48 57=false/\yZ n=true/\m=3\/aN n 48 57=false/\yZ n=false/\aN n 1424 1983=true/\m=4\/aN n 48 57=false/\yZ n=false/\aN n 1424 1983=false/\m=0)->bN (.aL [I m,I 0]) (.aL [I k,I 0]):=by
   rintro m (⟨h1,rfl⟩|⟨h1,h2,rfl⟩|⟨h1,h2,h3,rfl⟩|⟨h1,h2,h3,rfl⟩)
   ·rw[k2 h1];exact .refl _
   ·rw[k3 h1 h2];exact .refl _
   ·rw[k4 h1 h2 h3];exact .refl _
   ·rw[k5 h1 h2 h3];exact .refl _
  clear k1 k2 k3 k4 k5;simp(disch:=omega) only[go_sem,c,a1,a2,a3,a4,decide_false];repeat' (first|with_reducible refine bg (fun _=>?_) (fun _=>?_)|simp(disch:=omega) only[go_sem,c,a1,a2,a3,a4,decide_true,decide_false,not_true_eq_false,not_false_eq_true, *])
  all_goals (refine key _ ?_;simp[aN,yZ];omega)
theorem Tx(n:Int):decide (ly n=1)=gA n:=by
 unfold ly;cases hs:gA n with
 |true=>
  have hp:ij n=true:=by
   simp only[gA,Bool.or_eq_true,decide_eq_true_eq]at hs;rcases hs with((h|h)|h)|h<;>subst h<;>rfl
  rw[if_neg (by simp[hp]),if_pos rfl];rfl
 |false=>
  rw[if_neg (show ¬false=true by simp)];repeat' split
  all_goals rfl
def TX(n:Int):ao prog 325 [I n] (.bool (gA n)):=by
 refine aw mixed (fn:=f325) (tab:=[]) ?_ rfl aj rfl;refine ax _ [.tmp 2] _ rfl rfl rfl aj ?_;simp(disch:=omega) only[go_sem];refine av (WT n) sG ?_;simp(disch:=omega) only[go_sem];rw[<-Tx];exact .refl _
end Go.V.St
