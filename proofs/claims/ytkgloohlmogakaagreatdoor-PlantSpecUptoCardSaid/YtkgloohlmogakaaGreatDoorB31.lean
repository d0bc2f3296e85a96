/- Lemmas on plain data and programs: part B31. -/
import Derived.Test.YtkgloohlmogakaaGreatDoorB30
import Derived.Test.YtkgloohlmogakaaGreatDoorB25
set_option linter.all false
set_option maxHeartbeats 8000000
set_option maxRecDepth 100000
namespace Go.V.Jn
open Go.Proofs Go.Proofs.Tryz Go.RowKit Go.V.Lx Go.V.Gr Go.V.Ty Go.V.St
@[go_sem ↓] def ac0{P:Program}{C:Calc}{σ:Env}{bx:ae}{dst:Option Tmp}{ty:TypeId}{pos:String}{af:Array Edge}{g:Option (Nat×Bool)}{K1:Cl->Env->ae->Prop}(T:Nat)(x:Operand):bp P C ⟨dst,.call {callee:=.builtin .cap,args:= #[x],argTypes:= #[T]},ty,pos,af,g⟩ σ bx K1=aK (mL .cap [an P T] [ev σ x]) fun v=>K1 .n (put σ dst v) bx:=ay
@[go_sem] def agn(lo:Nat)(T:TypeId->TI)(dst:Option Tmp)(bx:ae)(x y:D):uV lo T 156 3 dst bx x y=xX lo T (T 156) (T 3) dst bx x y:=by simp only[uV];rw[if_neg (by decide)]
def F_{lo:Nat}{T:TypeId->TI}{el esz b size d t e:Nat}{ag fk:Bool}{z es ys:List D}{bx:ae}{K2:D×ae->Prop}(hb:bx t=⟨e,1,esz,el,es⟩)(bF:lo<=t)(bq:ys≠[])(hz:(T el).zero.length=esz)
 (h1:ys.length * b<=140737488355328) (h2:0<esz) (h3:0<b)
 (hk:∀(e':Nat) (bx':ae),bx' d=⟨e',1,esz,el,ys⟩->(∀s,s≠d->s≠t->bx' s=bx s)->K2 (.bE d e' esz 0 ys.length,bx')):
 aK (f_ lo T ⟨.slice el esz b ag,size,fk,z⟩ (some d) bx (.bE t e esz 0 0) ys) K2:=by
 have:=hk ((bx d).ep+1) (ak (ak bx t {bx t with k:=0}) d ⟨(bx d).ep+1,1,esz,el,ys⟩) (by simp[ak]) (fun s h1 h2=>by simp[ak,h1,h2]);simp only[f_,bq,if_false,hz,if_true,pF,DJ];rw[if_pos (by simp[hb,bF,h2,h3,h1]),pG];simpa using this
def Grn(bx bx':ae)(d:D):Prop:=∃e es,d= .bE 102 e 4 0 0/\bx' 102=⟨e,1,4,158,es⟩/\∀q,q<80->bx' q=bx q
def Vj(n:Nat)(h0:0<n)(hn:n<=1048576)(bx:ae):bj prog 207 80 [.aq,I n] bx (fun d bx'=>Grn bx bx' d) (fun _ _=>False):=by
 refine aI (fn:=f207) (tab:=[]) (base:=80) mixed ?_ rfl aj rfl;refine aJ _ [.tmp 4] 27 rfl rfl rfl aj ?_;have c1:¬(n:Int)<0:=oM;have c2:IntKind.i64.wrap ((n:Int) - 0)=n:=by rw[ik _ oM oM];omega
 have c3:(0:Int)<n:=oM;have c4:(n:Int) - (0 - 0)=n:=oM;have c5:¬List.replicate n (D.agg [D.int .i64 0,D.int .i64 0,.str [],.aq])=[]:=by simp;omega
 have c6:pF 0 102 158 4 56 bx .aq (List.replicate n (D.agg [D.int .i64 0,D.int .i64 0,.str [],.aq]))=some (.bE 102 ((bx 102).ep+1) 4 0 n,ak bx 102 ⟨(bx 102).ep+1,1,4,158,List.replicate n (D.agg [D.int .i64 0,D.int .i64 0,.str [],.aq])⟩):=by
  simp only[pF,List.length_replicate];rw[if_pos ⟨by omega,by decide,by decide⟩]
 repeat' first|exact zQ|with_reducible apply zJ<;>intro _|refine zK ?_
 exact⟨(bx 102).ep+1,_,rfl,by rw[eC],fun q hq=>aB oM⟩
def cN:Nat->Nat
 |0=>0
 |1=>1
 |2=>4
 |_=>5
def cL(a b1 b2 b3 c:D):Nat->List D
 |0=>[]
 |1=>[a]
 |2=>[a,b1,b2,b3]
 |_=>[a,b1,b2,b3,c]
def v4(d:D):Prop:=d.cells.length=4/\d.cells.all D.one=true/\d.pure=true
instance(a b1 b2 b3 c:D):Ct 150 [.sl 1 [.sl 4 [a],.sl 4 [b1,b2,b3],.sl 4 [c]]] (a.pure=true/\b1.pure=true/\b2.pure=true/\b3.pure=true/\c.pure=true) (.sl 4 [a,b1,b2,b3,c]):=by
 refine bf f150 [] [.tmp 2] fun pre=>?_;obtain⟨pa,p1,p2,p3,pc⟩:=pre;repeat' first|exact zQ|with_reducible apply zJ<;>intro _|refine zK ?_
 have x1:((1:Nat):Int)=1:=rfl;have x2:((2:Nat):Int)=2:=rfl;have x3:((3:Nat):Int)=3:=rfl;have x4:((4:Nat):Int)=4:=rfl;have x5:((5:Nat):Int)=5:=rfl;have v1:(0:Int)+1=1:=rfl;have v2:(1:Int)+1=2:=rfl;have v3:(2:Int)+1=3:=rfl;have v4':(1:Int)+3=4:=rfl;have v5:(4:Int)+1=5:=rfl;have y1:(1:Int).toNat=1:=rfl;have y2:(2:Int).toNat=2:=rfl;refine lC [(3,3),(5,5),(11,22)] [] 3 (fun k τ β=>τ 11=I k/\τ 3=I (cN k)) ⟨by simp[go_sem],by simp[go_sem,cN]⟩ (fun k τ β hk hi=>?_) fun τ β hi=>?_
 ·obtain⟨vr,h3⟩:=hi;have vu:k=0\/k=1\/k=2:=oM;rcases vu with rfl|rfl|rfl;all_goals
   simp only[cN]at h3⊢;repeat' first|exact zQ|with_reducible apply zJ<;>intro _|refine zK ?_
 ·obtain⟨vr,h3⟩:=hi;simp only[cN]at h3;have z3:¬(3:Int)<3:=by decide
  repeat' first|exact zQ|with_reducible apply zJ<;>intro _|refine zK ?_
  have hG:=Vj 5 oM oM (fun _=>Bx.none);refine aC hG rfl fun d bx1 hq=>?_;obtain⟨e,es,rfl,hb,-⟩:=hq;repeat' first|exact zQ|with_reducible apply zJ<;>intro _|refine zK ?_
  refine lC [(6,6),(8,8),(27,34)] (mj [33,102]) 3 (fun k τ β=>τ 27=I k/\((k=0/\τ 6= .bE 102 e 4 0 0/\β 102=⟨e,1,4,158,es⟩)\/(k≠0/\aX β [33] 158 4 (τ 6) (cL a b1 b2 b3 c k)))) ⟨by simp[go_sem],.inl ⟨rfl,by simp[go_sem],hb⟩⟩ (fun k τ β hk hi=>?_) fun τ β hi=>?_
  ·obtain⟨h27,hi⟩:=hi;rcases hi with⟨rfl,h6,ad7⟩|⟨iz,hv⟩
   ·have hbb:bn (mj [33,102]) β bx1 102=⟨e,1,4,158,es⟩:=by simpa[bn,di,mj]using ad7
    repeat' first|exact zQ|with_reducible apply zJ<;>intro _|refine zK ?_
    refine F_ hbb oM sI sG sI oM oM fun e' bx' h1 h2=>?_;have kb:du (mj [33,102]) bx' bx1:=fun q hq=>by
     simp[di,mj]at hq;rw[h2 q oM oM];exact du.nt q (by simp[di,mj];omega)
    clear h2;repeat' first|exact zQ|with_reducible apply zJ<;>intro _|refine zK ?_
    exact .inr ⟨by decide,.inr ⟨33,e',by simp,rfl,h1⟩⟩
   ·generalize vC:τ 6=x at *;have hf:=hv.facts;have vu:k=1\/k=2:=oM;rcases vu with rfl|rfl;all_goals
     simp only[cL]at hv⊢;repeat' first|exact zQ|with_reducible apply zJ<;>intro _|refine zK ?_
     refine app [33] (hv.mix _) (fun x' β' aT=>?_) ?_
     rotate_left
     ·simp
     have kD:=aT.facts;repeat' first|exact zQ|with_reducible apply zJ<;>intro _|refine zK ?_
     exact .inr ⟨by decide,aT.of fun t ht=>by simp at ht;subst ht;simp[bn,di]⟩
  ·obtain⟨h27,hi⟩:=hi;rcases hi with⟨h0,_⟩|⟨_,hv⟩
   ·omega
   simp only[cL]at hv;generalize vC:τ 6=x at *;have hf:=hv.facts;repeat' first|exact zQ|with_reducible apply zJ<;>intro _|refine zK ?_
   exact xe (hv.mix _) rfl (by simp[D.aF,pa,p1,p2,p3,pc])
instance(n:Int):Ct 109 [.agg [I 1,I n,.str [],.sl 4 []],I 1,I 0] True (.agg [I 1,I n,.str [],.sl 4 []]):=by
 refine bf f109 [] [.cell 6 158] fun pre=>?_;repeat' first|exact zQ|with_reducible apply zJ<;>intro _|refine zK ?_
instance(s:ah):Ct 109 [.agg [I 2,I 0,.str s,.sl 4 []],I 2,I 0] True (.agg [I 2,I 0,.str s,.sl 4 []]):=by
 refine bf f109 [] [.cell 6 158] fun pre=>?_;repeat' first|exact zQ|with_reducible apply zJ<;>intro _|refine zK ?_
instance(es:List D)(m:Int):Ct 109 [.agg [I 3,I 0,.str [],.sl 4 es],I 3,I m] (m<0\/m=es.length) (.agg [I 3,I 0,.str [],.sl 4 es]):=by
 refine bf f109 [] [.cell 6 158] fun pre=>?_;rcases pre with h|rfl
 ·have c:¬(0:Int)<=m:=oM;repeat' first|exact zQ|with_reducible apply zJ<;>intro _|refine zK ?_
 ·have c:(0:Int)<=(es.length:Int):=oM;repeat' first|exact zQ|with_reducible apply zJ<;>intro _|refine zK ?_
instance(s:ah):Ct 110 [.agg [I 2,I 0,.str s,.sl 4 []]] True (.str s):=by
 refine bf f110 [] [.tmp 2] fun pre=>?_;repeat' first|exact zQ|with_reducible apply zJ<;>intro _|refine zK ?_
instance(l:List ah):Ct 113 [.agg [I 3,I 0,.str [],.sl 4 ((l.map aR.t).map aR.d)],.fn (.func 110) []] (l.length<=1099511627776) (strs l):=by
 refine bf f113 [] [.tmp 4] fun pre=>?_;have hL:Lm l:=by simp[Lm];omega
 have c1:(-1:Int)<0:=by decide
 repeat' first|exact zQ|with_reducible apply zJ<;>intro _|refine zK ?_
 refine cm l [(4,4),(6,6),(11,21)] [(6,6),(20,20)] (fun j τ β=>τ 11=I j/\aX β [20] 9 1 (τ 4) ((l.take j).map D.str)) hL ⟨by simp[go_sem],by simpa[go_sem]using .nil _ _ _ _⟩ (fun j y τ β hx hj hw hi=>?_) fun τ β hn hi=>?_
 ·obtain⟨lE,hv⟩:=hi;generalize vC:τ 4=x at *;have hf:=hv.facts;have fP:(l.take j).map D.str++[D.str y]=(l.take (j+1)).map D.str:=by rw[List.take_add_one,hx];simp
  have fw:((l.take j).map D.str).length<=l.length:=by simp;omega
  replace fw:Hid _:=fw;repeat' first|exact zQ|with_reducible apply zJ<;>intro _|refine zK ?_
  refine app [20] (hv.of fun t ht=>by simp at ht;subst ht;simp[ak,bn,di]) (fun x' β' aT=>?_) (by have:=fw.out;simp only[List.length_cons,List.length_nil];omega);have kD:=aT.facts;rw[fP]at aT;clear fP;repeat' first|exact zQ|with_reducible apply zJ<;>intro _|refine zK ?_
  exact aT.of fun t ht=>by simp at ht;subst ht;simp[ak,bn,di]
 ·obtain⟨lE,hv⟩:=hi;rw[tL]at hv;generalize vC:τ 4=x at *;have hf:=hv.facts;repeat' first|exact zQ|with_reducible apply zJ<;>intro _|refine zK ?_
  exact xe (hv.mix _) rfl
def wD(w:Word):Nat->D
 |0=> .agg [.str w.t,I 0,I 0,I 0,.aq]
 |1=> .agg [.str w.t,I w.f,I 0,I 0,.aq]
 |2=> .agg [.str w.t,I w.f,I w.u,I 0,.aq]
 |_=> .agg [.str w.t,I w.f,I w.u,I w.s,.aq]
def Ek(w:Word):(cz w).d= .agg [I 3,I 0,.str [],.sl 4 [.agg [I 2,I 0,.str w.t,.sl 4 []],.agg [I 1,I w.f,.str [],.sl 4 []],.agg [I 1,I w.u,.str [],.sl 4 []],.agg [I 1,I w.s,.str [],.sl 4 []],.agg [I 3,I 0,.str [],.sl 4 ((w.alts.map aR.t).map aR.d)]]]:=by simp only[cz,nJ,mC,List.map_nil,Eh,Mf]
def RW(bx bx':ae)(w:Word)(d:D):Prop:=d=w.d/\∀q,q≠62->q≠63->q≠79->bx' q=bx q
def TO(w:Word)(hl:w.alts.length<=1099511627776)(e:Nat)(bx:ae)(h:bx 10=⟨e,1,1,187,[.fn (.func 110) []]⟩):
 bj prog 112 60 [(cz w).d,.loc 10 e 0 0] bx (fun d bx'=>RW bx bx' w d) (fun _ _=>False):=by
 rw[Ek];refine aI (fn:=f112) (tab:=[(1000019,[])]) (base:=60) mixed ?_ rfl aj rfl;refine aJ _ [.cell 3 123] 43 rfl rfl rfl aj ?_;generalize hX:D.agg [I 3,I 0,.str [],.sl 4 ((w.alts.map aR.t).map aR.d)]=X at *;replace hX:Hid _:=hX;repeat' first|exact zQ|with_reducible apply zJ<;>intro _|refine zK ?_
 generalize hL:[D.agg [I 2,I 0,.str w.t,.sl 4 []],D.agg [I 1,I w.f,.str [],.sl 4 []],D.agg [I 1,I w.u,.str [],.sl 4 []],D.agg [I 1,I w.s,.str [],.sl 4 []],X]=L at *;refine fresh (fun σ' B=>∃e3 e9,σ' 1= .loc 10 e 0 0/\σ' 3= .loc 63 e3 0 0/\σ' 4= .sl 4 L/\σ' 19= .bE 79 e9 1 0 3/\σ' 20=I 3/\σ' 21=I 0/\B 63=⟨e3,1,5,123,[wD w 0]⟩/\B 79=⟨e9,1,1,185,[.loc 63 e3 0 1,.loc 63 e3 0 2,.loc 63 e3 0 3]⟩/\Hid (∀q,q≠62->q≠63->q≠79->B q=bx q)) ⟨(bx 63).ep+1,(bx 79).ep+1,by simp[go_sem],by simp[go_sem],by simp[go_sem],by simp[go_sem],by simp[go_sem],by simp[go_sem],by simp[ak,wD],by simp[ak],fun q h1 h2 h3=>by simp[ak,h1,h2,h3]⟩ ?_;rintro σ B ⟨e3,e9,s1,s3,s4,s19,s20,s21,b63,b79,kr⟩;have b10:=(kr.out 10 (by decide) (by decide) (by decide)).trans h;subst hL;refine lC [(5,6),(21,35)] [(63,63)] 3 (fun k τ β=>τ 21=I k/\β 63=⟨e3,1,5,123,[wD w k]⟩) ⟨s21,b63⟩ (fun k τ β hk hi=>?_) fun τ β hi=>?_
 ·obtain⟨Vp,xD⟩:=hi;have vu:k=0\/k=1\/k=2:=oM;have z1:((0:Int)+1).toNat=1:=rfl;have z2:((1:Int)+1).toNat=2:=rfl;have z3:((2:Int)+1).toNat=3:=rfl;have y1:(1:Int).toNat=1:=rfl;have y2:(2:Int).toNat=2:=rfl;have x1:((1:Nat):Int)=1:=rfl;have x2:((2:Nat):Int)=2:=rfl;have x3:((3:Nat):Int)=3:=rfl;have v1:(0:Int)+1=1:=rfl;have v2:(1:Int)+1=2:=rfl;have v3:(2:Int)+1=3:=rfl;rcases vu with rfl|rfl|rfl;all_goals
   simp only[wD]at xD⊢;repeat' first|exact zQ|with_reducible apply zJ<;>intro _|refine zK ?_
 ·obtain⟨Vp,xD⟩:=hi;simp only[wD]at xD;have hx:=hX.out;subst hx;have x3:¬((3:Nat):Int)<3:=by decide
  repeat' first|exact zQ|with_reducible apply zJ<;>intro _|refine zK ?_
  refine⟨rfl,fun q h1 h2 h3=>?_⟩;rw[aB h2,aB h2];exact(du.nt q (by simp[di];omega)).trans (kr.out q h1 h2 h3)
def EW(bx bx':ae)(l:List Word)(d:D):Prop:=aX bx' [140] 123 5 d (l.map Word.d)/\∀q,q<60->bx' q=bx q
def C4{q t:Nat}(h:di [(60,1000)] q=false)(h1:60<=t/\t<=1000:=by decide):q≠t:=by simp[di]at h;omega
def S6(l:List Word)(hl:l.length<=1099511627776)(ER:∀w∈l,w.alts.length<=1099511627776)(e:Nat)(bx:ae)(h:bx 10=⟨e,1,1,187,[.fn (.func 110) []]⟩):
 bj prog 111 120 [.agg [I 3,I 0,.str [],.sl 4 ((l.map cz).map aR.d)],.fn (.func 112) [.loc 10 e 0 0]] bx (fun d bx'=>EW bx bx' l d) (fun _ _=>False):=by
 refine aI (fn:=f111) (tab:=[]) (base:=120) mixed ?_ rfl aj rfl;refine aJ _ [.tmp 4] 23 rfl rfl rfl aj ?_;have hL:Lm l:=by simp[Lm];omega
 have c1:(-1:Int)<0:=by decide
 repeat' first|exact zQ|with_reducible apply zJ<;>intro _|refine zK ?_
 refine fresh (fun σ' B=>σ' 1= .fn (.func 112) [.loc 10 e 0 0]/\σ' 4= .aq/\σ' 9= .sl 4 ((l.map cz).map aR.d)/\σ' 10=I l.length/\σ' 11=I 0/\Hid (∀q,q<60->B q=bx q)) ⟨by simp[go_sem],by simp[go_sem],by simp[go_sem],by simp[go_sem],by simp[go_sem],fun q hq=>aB oM⟩ ?_;rintro σ B ⟨s1,s4,s9,s10,s11,kr⟩;have b10:=(kr.out 10 (by decide)).trans h;refine cm l [(4,4),(6,6),(11,21)] [(60,1000)] (fun j τ β=>τ 11=I j/\aX β [140] 123 5 (τ 4) ((l.take j).map Word.d)) hL ⟨s11,by rw[s4];exact .nil _ _ _ _⟩ (fun j y τ β hx hj hw hi=>?_) fun τ β hn hi=>?_
 ·obtain⟨lE,hv⟩:=hi;generalize vC:τ 4=x at *;have hf:=hv.facts;have fP:(l.take j).map Word.d++[y.d]=(l.take (j+1)).map Word.d:=by rw[List.take_add_one,hx];simp
  have fw:((l.take j).map Word.d).length<=l.length:=by simp;omega
  replace fw:Hid _:=fw;have hy:=ER y (mG hx);have J6:bn [(60,1000)] β B 10=⟨e,1,1,187,[.fn (.func 110) []]⟩:=(du.nt 10 rfl).trans b10;repeat' first|exact zQ|with_reducible apply zJ<;>intro _|refine zK ?_
  refine aC (TO y hy e _ ((aB (by decide)).trans ((aB (by decide)).trans J6))) rfl fun d bx1 hq=>?_;obtain⟨rfl,q2⟩:=hq;have iA:aX bx1 [140] 123 5 x ((l.take j).map Word.d):=hv.of fun t ht=>by
   simp at ht;subst ht;rw[q2 140 (by decide) (by decide) (by decide),aB (by decide),aB (by decide)];rfl
  have kb:du [(60,1000)] bx1 B:=fun q hq=>(q2 q (C4 hq) (C4 hq) (C4 hq)).trans ((aB (C4 hq)).trans ((aB (C4 hq)).trans (du.nt q hq)));clear q2 hv J6;repeat' first|exact zQ|with_reducible apply zJ<;>intro _|refine zK ?_
  refine app [140] iA (fun x' β' aT=>?_) (by have:=fw.out;simp only[List.length_cons,List.length_nil];omega);have kD:=aT.facts;rw[fP]at aT;have kc:du [(60,1000)] (bn (mj [140]) β' bx1) B:=fun q hq=>(du.nt q (by simp[di,mj]at *;omega)).trans (kb q hq);clear fP kb;repeat' first|exact zQ|with_reducible apply zJ<;>intro _|refine zK ?_
  exact aT.mix _
 ·obtain⟨lE,hv⟩:=hi;rw[tL]at hv;generalize vC:τ 4=x at *;have hf:=hv.facts;repeat' first|exact zQ|with_reducible apply zJ<;>intro _|refine zK ?_
  exact⟨hv.mix _,fun q hq=>(du.nt q (by simp[di];omega)).trans (kr.out q hq)⟩
def qV{e e':Nat}(bx:ae):yk prog (cJ prog) [] f107 64 [.loc 2 e 0 0,.loc 3 e' 0 0] bx .ret fun m' bx'=>m'= .ret/\bx'=bx:=by
 refine lO (t:=5) _ _ 17 rfl rfl rfl aj aj (ak (ak (bB 0 [.loc 2 e 0 0,.loc 3 e' 0 0]) 5 (.raw .nilIface)) 2 (.raw .nilIface)) ?_ ?_
 ·repeat' first|exact zQ|with_reducible apply zJ<;>intro _|refine zK ?_
 ·repeat' first|exact zQ|with_reducible apply zJ<;>intro _|refine zK ?_
def hD(h:bc):Nat->D
 |0=> .agg [I 0,I 0,I 0,I 0,I 0,I 0,I 0,.aq]
 |1=> .agg [I h.at_,I 0,I 0,I 0,I 0,I 0,I 0,.aq]
 |2=> .agg [I h.at_,I h.src,I 0,I 0,I 0,I 0,I 0,.aq]
 |3=> .agg [I h.at_,I h.src,I h.seq,I 0,I 0,I 0,I 0,.aq]
 |4=> .agg [I h.at_,I h.src,I h.seq,I h.ir,I 0,I 0,I 0,.aq]
 |5=> .agg [I h.at_,I h.src,I h.seq,I h.ir,I h.kind,I 0,I 0,.aq]
 |6=> .agg [I h.at_,I h.src,I h.seq,I h.ir,I h.kind,I h.jy,I 0,.aq]
 |_=> .agg [I h.at_,I h.src,I h.seq,I h.ir,I h.kind,I h.jy,I h.cut,.aq]
def G3(h:bc):(cV h).d= .agg [I 3,I 0,.str [],.sl 4 [.agg [I 1,I h.at_,.str [],.sl 4 []],.agg [I 1,I h.src,.str [],.sl 4 []],.agg [I 1,I h.seq,.str [],.sl 4 []],.agg [I 1,I h.ir,.str [],.sl 4 []],.agg [I 1,I h.kind,.str [],.sl 4 []],.agg [I 1,I h.jy,.str [],.sl 4 []],.agg [I 1,I h.cut,.str [],.sl 4 []],.agg [I 3,I 0,.str [],.sl 4 ((h.words.map cz).map aR.d)]]]:=by simp only[cV,nJ,mC,List.map_nil,Eh,Mf]
def zH(h:bc):h.words.length<=(bW h).length/\∀w∈h.words,w.alts.length<=(bW h).length:=by
 have h1:=th (h.words.map cz);have h2:(cp (.l (h.words.map cz))).length<=(bW h).length:=by
  show _<=(cp (cV h)).length;unfold cV;have:=qt (x:=.l (h.words.map cz)) (xs:=[.i h.at_,.i h.src,.i h.seq,.i h.ir,.i h.kind,.i h.jy,.i h.cut,.l (h.words.map cz)]) sI;rw[show cp (.l [.i h.at_,.i h.src,.i h.seq,.i h.ir,.i h.kind,.i h.jy,.i h.cut,.l (h.words.map cz)])=3::(ew 8++dN [.i h.at_,.i h.src,.i h.seq,.i h.ir,.i h.kind,.i h.jy,.i h.cut,.l (h.words.map cz)])from rfl];simp only[List.length_cons,List.length_append];omega
 have h3:(dN (h.words.map cz)).length<=(bW h).length:=by simp[cp]at h2;omega
 refine⟨by simp at h1;omega,fun w hw=>?_⟩;have g1:(cp (cz w)).length<=(dN (h.words.map cz)).length:=qt (List.mem_map_of_mem hw);have g2:=th (w.alts.map aR.t);have g3:(cp (.l (w.alts.map aR.t))).length<=(cp (cz w)).length:=by
  have:=qt (x:=.l (w.alts.map aR.t)) (xs:=[.t w.t,.i w.f,.i w.u,.i w.s,.l (w.alts.map .t)]) sI;rw[show cp (cz w)=3::(ew 5++dN [.t w.t,.i w.f,.i w.u,.i w.s,.l (w.alts.map .t)])from rfl];simp only[List.length_cons,List.length_append];omega
 simp[cp]at g3;simp at g2;omega
def XB(h:bc)(ho:okW (cV h))(hl:(bW h).length<=1099511620000):EF prog (cJ prog) [(1000038,[])] f62 0 [aU (bW h)] (fun _=> .none) (fun d bx'=>∃r,bz bx' d=some r/\bN r (.aL [h.d,.bool true])) (fun _ _=>False):=by
 refine rk _ [.cell 2 48,.cell 3 4] 64 rfl rfl rfl aj aj ?_;obtain⟨n1,n2⟩:=zH h;have G0:=yf h;have aee:eW (cV h)<=16:=oM;have pk:(cp (cV h)).length<=1099511620000:=hl;unfold bW at *;have NS:=G3 h;generalize hX:D.agg [I 3,I 0,.str [],.sl 4 ((h.words.map cz).map aR.d)]=X at *;replace hX:Hid _:=hX;repeat' first|exact zQ|with_reducible apply zJ<;>intro _|refine zK ?_
 refine lC [(8,9),(41,54)] [(2,2)] 7 (fun k τ β=>τ 41=I k/\β 2=⟨1,1,8,48,[hD h k]⟩) ⟨by simp[go_sem],by simp[go_sem,hD]⟩ (fun k τ β hk hi=>?_) fun τ β hi=>?_
 ·obtain⟨Vp,xD⟩:=hi;have vu:k=0\/k=1\/k=2\/k=3\/k=4\/k=5\/k=6:=oM;have z1:(1:Int).toNat=1:=rfl;have z2:(2:Int).toNat=2:=rfl;have z3:(3:Int).toNat=3:=rfl;have z4:(4:Int).toNat=4:=rfl;have z5:(5:Int).toNat=5:=rfl;have z6:(6:Int).toNat=6:=rfl;have x1:((1:Nat):Int)=1:=rfl;have x2:((2:Nat):Int)=2:=rfl;have x3:((3:Nat):Int)=3:=rfl;have x4:((4:Nat):Int)=4:=rfl;have x5:((5:Nat):Int)=5:=rfl;have x6:((6:Nat):Int)=6:=rfl;have x7:((7:Nat):Int)=7:=rfl;have v1:(0:Int)+1=1:=rfl;have v2:(1:Int)+1=2:=rfl;have v3:(2:Int)+1=3:=rfl;have v4:(3:Int)+1=4:=rfl;have v5:(4:Int)+1=5:=rfl;have v6:(5:Int)+1=6:=rfl;have v7:(6:Int)+1=7:=rfl;clear n1 n2 G0 aee pk NS ho;rcases vu with rfl|rfl|rfl|rfl|rfl|rfl|rfl;all_goals
   simp only[hD]at xD⊢;repeat' first|exact zQ|with_reducible apply zJ<;>intro _|refine zK ?_
   all_goals trace_state
 ·obtain⟨Vp,xD⟩:=hi;simp only[hD]at xD;have hx:=hX.out;subst hx;have x3:¬((7:Nat):Int)<((7:Nat):Int):=by decide
  have hwp:D.aF (h.words.map Word.d)=true:=by rw[cZ];simp[D.pure,D.aF,cZ]
  clear NS;repeat' first|exact zQ|with_reducible apply zJ<;>intro _|refine zK ?_
  refine wb (S6 h.words oM (fun w hw=>by have:=n2 w hw;omega) 1 _ (by simp[ak,bn,di])) rfl (fun d bx1 hp=>?_) fun d bx1 hp=>hp.elim;obtain⟨p1,p2⟩:=hp;obtain⟨rr,o1,o2⟩:=p1.out hwp;refine⟨rr,.sl 5 (h.words.map Word.d),o1,o2,?_⟩;have yB:∀q,q<60->dO bx1 [d] q=bx1 q:=fun q hq=>by
   rw[fe,if_neg];intro hm;have:=aX.names p1 q (by simpa[bH]using hm);simp at this;omega
  have k2:=(yB 2 (by decide)).trans (p2 2 (by decide));have k3:=(yB 3 (by decide)).trans (p2 3 (by decide));simp[ak,bn,di]at k2 k3;rw[xD]at k2;generalize dO bx1 [d]=B1 at *;clear yB o1 o2 p1 p2 n1 n2;have d1:8<=ed:=by decide
  have d2:¬ed<=9:=by decide
  have d3:41<=ed:=by decide
  have d4:¬ed<=54:=by decide
  repeat' first|exact zQ|with_reducible apply zJ<;>intro _|refine zK ?_
  refine jw _ (wz (qV _)) fun m' bK hq=>?_;obtain⟨rfl,rfl⟩:=hq;repeat' first|exact zQ|with_reducible apply zJ<;>intro _|refine zK ?_
  exact⟨_,rfl,.refl _⟩
instance(h:bc):Ct 62 [aU (bW h)] (okW (cV h)/\(bW h).length<=1099511620000) (.aL [h.d,.bool true]):=⟨fun p=>(GF (XB h p.1 p.2)).to (fun _ _ h=>h) fun d' bx' h=>h⟩
def WX(l:List Int)(h:l.length<=1099511627776):ao prog 83 [.sl 1 (l.map I),.fn (.func 84) []] (aR.l (l.map aR.i)).d:=by
 have:Ct 83 [.sl 1 (l.map I),.fn (.func 84) []] (l.length<=1099511627776) (aR.l (l.map aR.i)).d:=inferInstance;exact this.h h
instance(a b c:Int):Ct 83 [.sl 1 [I a,I b,I c],.fn (.func 84) []] True (.agg [I 3,I 0,.str [],.sl 4 [.agg [I 1,I a,.str [],.sl 4 []],.agg [I 1,I b,.str [],.sl 4 []],.agg [I 1,I c,.str [],.sl 4 []]]]):=⟨fun _=>by
 have:=WX [a,b,c] sI;simpa only[nJ,mC,List.map_nil,Eh]using this⟩
instance(w:Word):Ct 86 [w.d] (w.alts.length<=1099511627776) (cz w).d:=by
 rw[Ek];refine bf f86 [(2,[(11,8),(10,8),(11,6),(10,6),(10,5),(8,5),(10,4),(8,4)])] [.cell 2 158] fun pre=>?_;have q1:D.pure (.agg [I 2,I 0,.str w.t,.sl 4 []])=true:=rfl;have q2:∀n,D.pure (.agg [I 1,I n,.str [],.sl 4 []])=true:=fun _=>rfl;have q3:D.pure (.agg [I 3,I 0,.str [],.sl 4 ((w.alts.map aR.t).map aR.d)])=true:=by simp[D.pure,D.aF,ld]
 repeat' first|exact zQ|with_reducible apply zJ<;>intro _|refine zK ?_
 refine ciT ⟨q1,q2 _,q2 _,q2 _,q3⟩ (by simp[D.aF,D.pure,ld]) ?_;repeat' first|exact zQ|with_reducible apply zJ<;>intro _|refine zK ?_
instance(l:List Word):Ct 85 [.sl 5 (l.map Word.d),.fn (.func 86) []] (l.length<=1099511627776/\∀w∈l,w.alts.length<=1099511627776) (aR.l (l.map cz)).d:=by
 refine bf f85 [(5,[(7,4),(7,3)])] [.cell 4 158] fun pre=>?_;obtain⟨pre,Wu⟩:=pre;have hL:Lm l:=by simp[Lm];omega
 repeat' first|exact zQ|with_reducible apply zJ<;>intro _|refine zK ?_
 refine cm l [(6,6),(10,22)] [(4,4),(6,6),(20,20)] (fun j τ β=>τ 10=I j/\∃x,β 4=⟨1,1,4,158,[.agg [I 3,I 0,.str [],x]]⟩/\aX β [20] 158 4 x (((l.take j).map cz).map aR.d)) hL ⟨by simp[go_sem],.aq,by simp[go_sem],.nil _ _ _ _⟩ (fun j y τ β hx hj hw hi=>?_) fun τ β hn hi=>?_
 ·obtain⟨lE,x,h4,hv⟩:=hi;have hf:=hv.facts;have fP:((l.take j).map cz).map aR.d++[(cz y).d]=((l.take (j+1)).map cz).map aR.d:=by rw[List.take_add_one,hx];simp
  have fw:(((l.take j).map cz).map aR.d).length<=l.length:=by simp;omega
  replace fw:Hid _:=fw;have hya:=Wu y (mG hx);repeat' first|exact zQ|with_reducible apply zJ<;>intro _|refine zK ?_
  refine app [20] (hv.of fun t ht=>by simp at ht;subst ht;simp[ak,bn,di]) (fun x' β' aT=>?_) (by have:=fw.out;simp only[List.length_cons,List.length_nil];omega);have kD:=aT.facts;replace aT:aX β' [20] 158 4 x' (((l.take j).map cz).map aR.d++[(cz y).d]):=aT;rw[fP]at aT;clear fP;repeat' first|exact zQ|with_reducible apply zJ<;>intro _|refine zK ?_
  exact⟨x',rfl,aT.of fun t ht=>by simp at ht;subst ht;simp[ak,bn,di]⟩
 ·obtain⟨lE,x,h4,hv⟩:=hi;rw[tL]at hv;have hf:=hv.facts;obtain⟨r,o2,o1⟩:=rG hv (ld _);repeat' first|exact zQ|with_reducible apply zJ<;>intro _|refine zK ?_
  rw[o1 _ fun t ht=>by simp at ht;subst ht;simp[ak,bn,di]];exact Rh o2
theorem aX.more{bx:ae}{ts ts':List Nat}{el esz:Nat}{x:D}{xs:List D}(h:aX bx ts el esz x xs)(hs:∀t,t∈ts->t∈ts'):aX bx ts' el esz x xs:=by
 rcases h with h|⟨t,e,ht,h1,h2⟩
 ·exact .inl h
 ·exact .inr ⟨t,e,hs t ht,h1,h2⟩
def LB(bx bx':ae)(l:List Int)(d:D):Prop:=∃x,d= .agg [I 3,I 0,.str [],x]/\aX bx' [120] 158 4 x ((l.map aR.i).map aR.d)/\∀q,q<100->bx' q=bx q
def WV(l:List Int)(h:l.length<=1099511627776)(bx:ae):bj prog 83 100 [.sl 1 (l.map I),.fn (.func 84) []] bx (fun d bx'=>LB bx bx' l d) (fun _ _=>False):=by
 refine aI (fn:=f83) (tab:=[(5,[(7,4),(7,3)])]) (base:=100) mixed ?_ rfl aj rfl;refine aJ _ [.cell 4 158] 24 rfl rfl rfl aj ?_;have hL:Lm l:=by simp[Lm];omega
 repeat' first|exact zQ|with_reducible apply zJ<;>intro _|refine zK ?_
 generalize hE:(bx 104).ep+1=e4 at *;refine cm l [(6,6),(10,22)] [(100,130)] (fun j τ β=>τ 10=I j/\∃x,β 104=⟨e4,1,4,158,[.agg [I 3,I 0,.str [],x]]⟩/\aX β [120] 158 4 x (((l.take j).map aR.i).map aR.d)) hL ⟨by simp[go_sem],.aq,by simp[ak],.nil _ _ _ _⟩ (fun j y τ β hx hj hw hi=>?_) fun τ β hn hi=>?_
 ·obtain⟨lE,x,h4,hv⟩:=hi;have hf:=hv.facts;have fP:((l.take j).map aR.i).map aR.d++[(aR.i y).d]=((l.take (j+1)).map aR.i).map aR.d:=by rw[List.take_add_one,hx];simp
  have fw:(((l.take j).map aR.i).map aR.d).length<=l.length:=by simp;omega
  replace fw:Hid _:=fw;repeat' first|exact zQ|with_reducible apply zJ<;>intro _|refine zK ?_
  refine app [120] (hv.of fun t ht=>by simp at ht;subst ht;simp[ak,bn,di]) (fun x' β' aT=>?_) (by have:=fw.out;simp only[List.length_cons,List.length_nil];omega);have kD:=aT.facts;replace aT:aX β' [120] 158 4 x' (((l.take j).map aR.i).map aR.d++[(aR.i y).d]):=aT;rw[fP]at aT;clear fP;repeat' first|exact zQ|with_reducible apply zJ<;>intro _|refine zK ?_
  exact⟨x',rfl,aT.of fun t ht=>by simp at ht;subst ht;simp[ak,bn,di]⟩
 ·obtain⟨lE,x,h4,hv⟩:=hi;rw[tL]at hv;have hf:=hv.facts;repeat' first|exact zQ|with_reducible apply zJ<;>intro _|refine zK ?_
  refine⟨x,rfl,hv.of fun t ht=>by simp at ht;subst ht;simp[ak,bn,di],fun q hq=>?_⟩;rw[aB oM];refine(du.nt q (by simp[di];omega)).trans ?_;rw[aB oM,aB oM]
instance(h:bc):Ct 42 [h.d] (okW (cV h)/\(bW h).length<=1099511620000) (aU (bW h)):=by
 refine bf f42 [(3,[(7,4),(7,3)])] [.tmp 2] fun pre=>?_;obtain⟨ho,hl⟩:=pre;obtain⟨n1,n2⟩:=zH h;have G0:=yf h;have hf:na (cV h)/\eW (cV h)<=16/\(cp (cV h)).length<=1099511627000:=⟨⟨ho,by unfold bW at hl;omega⟩,by omega,by unfold bW at hl;omega⟩
 have sf:h.words.length<=1099511627776/\∀w∈h.words,w.alts.length<=1099511627776:=⟨by omega,fun w hw=>by have:=n2 w hw;omega⟩
 clear n1 n2 G0 ho hl;repeat' first|exact zQ|with_reducible apply zJ<;>intro _|refine zK ?_
 refine aC (WV [h.at_,h.src,h.seq,h.ir,h.kind,h.jy,h.cut] sI _) rfl fun d bx1 hq=>?_;obtain⟨x,rfl,hv,hk⟩:=hq;have k1:=hk 1 (by decide);have k2:=hk 3 (by decide);have V2:=hv.facts;simp[ak]at k1 k2;clear hk;repeat' first|exact zQ|with_reducible apply zJ<;>intro _|refine zK ?_
 refine app [34,120] (aX.more (hv.of fun t ht=>by simp at ht;subst ht;rw[aB (by decide),aB (by decide)]) sI) (fun x' β aT=>?_) sI;have hfx':=aT.facts;have NS:([h.at_,h.src,h.seq,h.ir,h.kind,h.jy,h.cut].map aR.i).map aR.d++[D.agg [I 3,I 0,.str [],.sl 4 ((h.words.map cz).map aR.d)]]=[aR.i h.at_,.i h.src,.i h.seq,.i h.ir,.i h.kind,.i h.jy,.i h.cut,.l (h.words.map cz)].map aR.d:=by simp only[mC,List.map_nil,Eh,nJ,List.cons_append,List.nil_append]
 rw[NS]at aT;have We:=HQ aT sI (ld _);clear hv NS;repeat' first|exact zQ|with_reducible apply zJ<;>intro _|refine zK ?_
 have aet:(cV h).d= .agg [I 3,I 0,.str [],.sl 4 ([aR.i h.at_,.i h.src,.i h.seq,.i h.ir,.i h.kind,.i h.jy,.i h.cut,.l (h.words.map cz)].map aR.d)]:=by rw[cV,nJ]
 have hE:Ct 87 [(cV h).d] (na (cV h)/\eW (cV h)<=16/\(cp (cV h)).length<=1099511627000) (.aL [aU (cp (cV h)),I 0]):=inferInstance;refine Gh (ds':=[(cV h).d]) (hE.h hf) ?_ rfl ?_
 ·rw[aet,dY,tS,dY,dY,dY,dY,We _ fun t ht=>by simp at ht;rcases ht with rfl|rfl<;>simp[ak,bn,di]];simp[go_sem]
 repeat' first|exact zQ|with_reducible apply zJ<;>intro _|refine zK ?_
 exact .refl _
def Br{bx:ae}{ts:List Nat}{el esz:Nat}{x:D}{xs:List D}(h:aX bx ts el esz x xs)(hp:D.aF xs=true):∃r,bN r (.sl esz xs)/\(r.pure=true/\r.one=true/\r.cells=[r])/\∀bx':ae,(∀t,t∈ts->bx' t=bx t)->bz bx' x=some r:=by
 rcases h with⟨rfl,rfl⟩|⟨t,e,ht,rfl,hb⟩
 ·exact⟨.aq,.nil _,⟨rfl,rfl,rfl⟩,fun bx' _=>rfl⟩
 ·refine⟨_,.refl _,⟨by simpa[D.pure]using hp,rfl,rfl⟩,fun bx' h=>?_⟩;rw[lX,h t ht,hb];exact eK _ _ _ _ _ _ (by decide) rfl hp
def uT{sz:Nat}{ps cs ds:List D}(h:WL cs ds):bN (.sl sz (ps++[.agg cs])) (.sl sz (ps++[.agg ds])):=by
 have key:∀(i:Nat) x x',(ps++[D.agg cs])[i]? =some x->(ps++[D.agg ds])[i]? =some x'->x=x'\/(x= .agg cs/\x'= .agg ds):=fun i x x' hx dJ=>by
  rcases Nat.lt_or_ge i ps.length with hi|hi
  ·rw[List.getElem?_append_left hi]at hx dJ;rw[hx]at dJ;injection dJ with dJ;exact .inl dJ
  ·rw[List.getElem?_append_right hi]at hx dJ;have hi0:i - ps.length=0:=by
    have:=(gS.1 hx).1;simp at this;omega
   rw[hi0]at hx dJ;simp at hx dJ;exact .inr ⟨hx.symm,dJ.symm⟩
 refine .sl sI (fun i x x' hx dJ=>?_) fun i x x' j c c' hx dJ hc fO=>?_
 ·rcases key i x x' hx dJ with rfl|⟨rfl,rfl⟩
  ·rfl
  ·exact h.get.1
 ·rcases key i x x' hx dJ with rfl|⟨rfl,rfl⟩
  ·rw[hc]at fO;injection fO with fO;subst fO;exact .refl _
  ·exact h.get.2 j c c' hc fO
instance (priority:=low)(es:List D):Ct 92 [.sl 4 es] True (.agg [I 3,I 0,.str [],.sl 4 es]):=by
 refine bf f92 [] [.cell 2 158] fun pre=>?_;repeat' first|exact zQ|with_reducible apply zJ<;>intro _|refine zK ?_
def vH{bx:ae}{s:Nat}{l:List D}(q:Nat)(hq:q≠s)(hn:q∉bH (bx s).es):Go.V.eO bx s l q=bx q:=by
 unfold Go.V.eO;rw[aB hq,fe,if_neg hn]
def DZ{bx:ae}{s e k sz ty:Nat}{es l:List D}(h:bx s=⟨e,k,sz,ty,es⟩)(hn:s∉bH es):Go.V.eO bx s l s=⟨e,k,sz,ty,l⟩:=by
 unfold Go.V.eO;rw[eC,fe,h,if_neg hn]
instance(w:Word):Ct 90 [w.d] (w.alts.length<=1099511627776) (cz w).d:=by
 refine bf f90 [(5,[(10,4),(10,3)]),(6,[(13,11),(13,8),(10,8),(13,5),(10,5),(7,5),(13,3),(10,3),(7,3),(4,3)])] [.cell 2 158] fun pre=>?_;repeat' first|exact zQ|with_reducible apply zJ<;>intro _|refine zK ?_
 refine vj w.alts.length (fun k σ bx=>σ 1= .loc 1 1 0 0/\σ 2= .loc 2 1 0 0/\σ 3= .loc 3 1 0 0/\σ 4=I k/\bx 1=⟨1,1,5,123,[w.d]⟩/\bx 2=⟨1,1,4,158,[.agg [I 0,I 0,.str [],.aq]]⟩/\∃x,bx 3=⟨1,1,4,158,[.agg [I 3,I 0,.str [],x]]⟩/\aX bx [22] 158 4 x (((w.alts.take k).map aR.t).map aR.d)) ⟨by simp[go_sem],by simp[go_sem],by simp[go_sem],by simp[go_sem],by simp[ak],by simp[ak],.aq,by simp[ak],.nil _ _ _ _⟩ ?_ ?_
 ·rintro k σ bx hk ⟨s1,s2,s3,s4,b1,b2,x,b3,hv⟩;refine⟨bx,.inl rfl,?_⟩;obtain⟨y,hy⟩:∃y,w.alts[k]? =some y:=⟨_,gE hk⟩
  have c1:(k:Int)<(w.alts.length:Int):=oM;have w1:IntKind.i64.wrap ((k:Int)+1)=((k+1:Nat):Int):=aD oM;have hf:=hv.facts;have fP:((w.alts.take k).map aR.t).map aR.d++[(aR.t y).d]=((w.alts.take (k+1)).map aR.t).map aR.d:=by rw[List.take_add_one,hy];simp
  have fw:(((w.alts.take k).map aR.t).map aR.d).length<=w.alts.length:=by simp;omega
  replace fw:Hid _:=fw;repeat' first|exact zQ|with_reducible apply zJ<;>intro _|refine zK ?_
  refine app [22] hv (fun x' β aT=>?_) (by have:=fw.out;simp only[List.length_cons,List.length_nil];omega);have kD:=aT.facts;replace aT:aX β [22] 158 4 x' (((w.alts.take k).map aR.t).map aR.d++[(aR.t y).d]):=aT;rw[fP]at aT;clear fP;repeat' first|exact zQ|with_reducible apply zJ<;>intro _|refine zK ?_
  exact⟨x',rfl,aT.of fun t ht=>by simp at ht;subst ht;simp[ak,bn,di]⟩
 ·rintro σ bx ⟨s1,s2,s3,s4,b1,b2,x,b3,hv⟩;rw[tL]at hv;obtain⟨r,r1,r2,r3⟩:=Br hv (ld _);have vz:∀q,q≠22->q∉bH [D.agg [I 3,I 0,.str [],x]]:=fun q h1 h2=>by
   simp[bH,Go.V.names]at h2;have:=aX.names hv q h2;simp at this;omega
  have ho:dn bx (bx 3).es=some [.agg [I 3,I 0,.str [],r]]:=by
   rw[b3];simp[go_sem,r3 bx (fun _ _=>rfl)]
  refine⟨_,.inr ⟨rfl,3,_,by rw[b3],ho,rfl⟩,?_⟩;have m1:=(vH (l:=[.agg [I 3,I 0,.str [],r]]) (bx:=bx) (s:=3) 1 (by decide) (by rw[b3];exact vz 1 (by decide))).trans b1;have m2:=(vH (l:=[.agg [I 3,I 0,.str [],r]]) (bx:=bx) (s:=3) 2 (by decide) (by rw[b3];exact vz 2 (by decide))).trans b2;have m3:=DZ (l:=[.agg [I 3,I 0,.str [],r]]) b3 (vz 3 (by decide));generalize Go.V.eO bx 3 [.agg [I 3,I 0,.str [],r]]=M at *;have c1:¬(w.alts.length:Int)<(w.alts.length:Int):=oM;clear b1 b2 b3 hv r3 ho vz;obtain⟨r2,r4,r5⟩:=r2;repeat' first|exact zQ|with_reducible apply zJ<;>intro _|refine zK ?_
  rw[Ek];refine fF (.cons (.refl _) (.cons (.refl _) (.cons (.refl _) (.cons ?_ .nil))));exact uT (ps:=[_,_,_,_]) (.cons (.refl _) (.cons (.refl _) (.cons (.refl _) (.cons r1 .nil))))
instance(h:bc):Ct 45 [h.d] (okW (cV h)/\(bW h).length<=1099511620000) (aU (bW h)):=by
 refine bf f45 [(6,[(10,4),(10,3)]),(7,[(29,27),(29,23),(26,23),(29,19),(26,19),(22,19),(29,16),(26,16),(22,16),(18,16),(29,13),(26,13),(22,13),(18,13),(15,13),(29,10),(26,10),(22,10),(18,10),(15,10),(12,10),(29,8),(26,8),(22,8),(18,8),(15,8),(12,8),(9,8)])] [.tmp 2] fun pre=>?_;obtain⟨ho,hl⟩:=pre;obtain⟨n1,n2⟩:=zH h;have G0:=yf h;have hft:na (cV h)/\eW (cV h)<=16:=⟨⟨ho,by unfold bW at hl;omega⟩,by omega⟩
 have sf:h.words.length<=1099511627776/\∀w∈h.words,w.alts.length<=1099511627776:=⟨by omega,fun w hw=>by have:=n2 w hw;omega⟩
 clear n1 n2 G0 ho hl;obtain⟨hw0,sf⟩:=sf;repeat' first|exact zQ|with_reducible apply zJ<;>intro _|refine zK ?_
 refine vj h.words.length (fun k σ bx=>σ 1= .loc 1 1 0 0/\σ 4= .loc 4 1 0 0/\σ 3= .loc 3 1 0 0/\σ 5=I k/\bx 1=⟨1,1,8,48,[h.d]⟩/\bx 4=⟨1,1,4,44,[.agg [I h.kind,I h.jy,I h.cut,.sl 5 (h.words.map Word.d)]]⟩/\∃x,bx 3=⟨1,1,4,158,[.agg [I 3,I 0,.str [],x]]⟩/\aX bx [28] 158 4 x (((h.words.take k).map cz).map aR.d)) ⟨by simp[go_sem],by simp[go_sem],by simp[go_sem],by simp[go_sem],by simp[ak],by simp[ak],.aq,by simp[ak],.nil _ _ _ _⟩ ?_ ?_
 ·rintro k σ bx hk ⟨s1,s2,s3,s4,b1,b2,x,b3,hv⟩;refine⟨bx,.inl rfl,?_⟩;obtain⟨y,hy⟩:∃y,h.words[k]? =some y:=⟨_,gE hk⟩
  have c1:(k:Int)<(h.words.length:Int):=oM;have hyw:=sf y (mG hy);have w1:IntKind.i64.wrap ((k:Int)+1)=((k+1:Nat):Int):=aD oM;have hf:=hv.facts;have fP:((h.words.take k).map cz).map aR.d++[(cz y).d]=((h.words.take (k+1)).map cz).map aR.d:=by rw[List.take_add_one,hy];simp
  have fw:(((h.words.take k).map cz).map aR.d).length<=h.words.length:=by simp;omega
  replace fw:Hid _:=fw;repeat' first|exact zQ|with_reducible apply zJ<;>intro _|refine zK ?_
  refine app [28] hv (fun x' β aT=>?_) (by have:=fw.out;simp only[List.length_cons,List.length_nil];omega);have kD:=aT.facts;replace aT:aX β [28] 158 4 x' (((h.words.take k).map cz).map aR.d++[(cz y).d]):=aT;rw[fP]at aT;clear fP;repeat' first|exact zQ|with_reducible apply zJ<;>intro _|refine zK ?_
  exact⟨x',rfl,aT.of fun t ht=>by simp at ht;subst ht;simp[ak,bn,di]⟩
 ·rintro σ bx ⟨s1,s2,s3,s4,b1,b2,x,b3,hv⟩;rw[tL]at hv;obtain⟨r,r1,r2,r3⟩:=Br hv (ld _);have vz:∀q,q≠28->q∉bH [D.agg [I 3,I 0,.str [],x]]:=fun q h1 h2=>by
   simp[bH,Go.V.names]at h2;have:=aX.names hv q h2;simp at this;omega
  have ho:dn bx (bx 3).es=some [.agg [I 3,I 0,.str [],r]]:=by
   rw[b3];simp[go_sem,r3 bx (fun _ _=>rfl)]
  refine⟨_,.inr ⟨rfl,3,_,by rw[b3],ho,rfl⟩,?_⟩;have m1:=(vH (l:=[.agg [I 3,I 0,.str [],r]]) (bx:=bx) (s:=3) 1 (by decide) (by rw[b3];exact vz 1 (by decide))).trans b1;have m2:=(vH (l:=[.agg [I 3,I 0,.str [],r]]) (bx:=bx) (s:=3) 4 (by decide) (by rw[b3];exact vz 4 (by decide))).trans b2;have m3:=DZ (l:=[.agg [I 3,I 0,.str [],r]]) b3 (vz 3 (by decide));generalize Go.V.eO bx 3 [.agg [I 3,I 0,.str [],r]]=M at *;have c1:¬(h.words.length:Int)<(h.words.length:Int):=oM;clear b1 b2 b3 hv r3 ho vz;obtain⟨r2,r4,r5⟩:=r2;have hE:Ct 91 [(cV h).d] (na (cV h)/\eW (cV h)<=16) (.aL [aU (cp (cV h)),I 0]):=inferInstance;haveI:Ct 91 [.agg [I 3,I 0,.str [],.sl 4 [.agg [I 1,I h.at_,.str [],.sl 4 []],.agg [I 1,I h.src,.str [],.sl 4 []],.agg [I 1,I h.seq,.str [],.sl 4 []],.agg [I 1,I h.ir,.str [],.sl 4 []],.agg [I 1,I h.kind,.str [],.sl 4 []],.agg [I 1,I h.jy,.str [],.sl 4 []],.agg [I 1,I h.cut,.str [],.sl 4 []],.agg [I 3,I 0,.str [],r]]]] True (.aL [aU (bW h),I 0]):=⟨fun _=>(hE.h hft).SM (by
   rw[G3];refine fF (.cons (.refl _) (.cons (.refl _) (.cons (.refl _) (.cons ?_ .nil))));exact uT (ps:=[_,_,_,_,_,_,_]) (.cons (.refl _) (.cons (.refl _) (.cons (.refl _) (.cons r1 .nil)))))⟩
  clear hE;repeat' first|exact zQ|with_reducible apply zJ<;>intro _|refine zK ?_
abbrev lK(h:bc):Prop:=okW (cV h)/\(bW h).length<=1099511620000
instance(s:aV):Ct 56 [s.d] (s.heard.length<=1099511627776/\∀h∈s.heard,lK h) (.sl 1 ((s.heard.map bW).map aU)):=by
 refine bf f56 [(1000005,[])] [.tmp 2] fun pre=>?_;obtain⟨hl,hh⟩:=pre;have hL:Lm s.heard:=by simp[Lm];omega
 repeat' first|exact zQ|with_reducible apply zJ<;>intro _|refine zK ?_
 refine cm s.heard [(3,4),(6,21)] (mj [5,21]) (fun j τ β=>τ 4=I j/\aX β [5,21] 71 1 (τ 3) (((s.heard.take j).map bW).map aU)) hL ⟨by simp[go_sem],by simpa[go_sem]using .inr ⟨5,1,by simp,rfl,rfl⟩⟩ (fun j y τ β hx hj hw hi=>?_) fun τ β hn hi=>?_
 ·obtain⟨lE,hv⟩:=hi;generalize vC:τ 3=x at *;have hf:=hv.facts;have hy:=hh y (mG hx);have fP:((s.heard.take j).map bW).map aU++[aU (bW y)]=((s.heard.take (j+1)).map bW).map aU:=by rw[List.take_add_one,hx];simp
  have fw:(((s.heard.take j).map bW).map aU).length<=s.heard.length:=by simp;omega
  replace fw:Hid _:=fw;clear hh;repeat' first|exact zQ|with_reducible apply zJ<;>intro _|refine zK ?_
  refine app [5,21] (hv.mix _) (fun x' β' aT=>?_) (by have:=fw.out;simp only[List.length_cons,List.length_nil];omega);have kD:=aT.facts;rw[fP]at aT;clear fP;repeat' first|exact zQ|with_reducible apply zJ<;>intro _|refine zK ?_
  exact aT.mix _
 ·obtain⟨lE,hv⟩:=hi;rw[tL]at hv;generalize vC:τ 3=x at *;have hf:=hv.facts;clear hh;repeat' first|exact zQ|with_reducible apply zJ<;>intro _|refine zK ?_
  exact xe (hv.mix _) rfl
def TQ(s:aV)(hl:s.heard.length<=1099511627776)(hh:∀h∈s.heard,lK h)(e0:Nat):zI prog 95 ⟨e0,1,15,33,[s.d]⟩ (s.heard.map fun h=>[aU (bW h)]) none 20:=by
 refine Cr mixed (fn:=f95) (tab:=[]) ?_ rfl rfl aj;refine Cs _ 18 rfl rfl rfl aj ?_;intro gs l e bx hk hz hb;change bx (gs+1)=⟨e,1,15,33,[s.d]⟩at hb;replace hh:Hid _:=hh;repeat' first|exact zQ|with_reducible apply zJ<;>intro _|refine zK ?_
 refine B9 (0:Nat) (fun g=>s.heard.length - g) [(4,4),(8,17)] (fun g τ β=>τ 8=I g/\(β gs).sz=g/\(β gs).k=0/\β (gs+1)=⟨e,1,15,33,[s.d]⟩) ⟨by simp[go_sem],hz,hk,hb⟩ ?_;rintro k τ β ⟨h8,hz,hk,hb⟩;by_cases ar:k<s.heard.length
 ·obtain⟨y,hy⟩:∃y,s.heard[k]? =some y:=⟨_,gE ar⟩
  have hyo:=hh.out y (mG hy);have c1:(k:Int)<(s.heard.length:Int):=oM;clear hh;have w1:IntKind.i64.wrap ((k:Int)+1)=((k+1:Nat):Int):=aD oM;have n1:¬gs=gs+2+4:=oM;have n2:¬gs+1=gs+2+4:=oM;have n3:¬gs=gs+1:=oM;have n4:¬gs+1=gs:=oM;repeat' first|exact zQ|with_reducible apply zJ<;>intro _|refine zK ?_
  refine sS rfl sG (by simp[ak,hz,hy,n1]) fun bx1=>⟨?_,?_⟩
  ·repeat' first|exact zQ|with_reducible apply zJ<;>intro _|refine zK ?_
   exact⟨k+1,by omega,rfl,rfl⟩
  ·repeat' first|exact zQ|with_reducible apply zJ<;>intro _|refine zK ?_
   exact .inl trivial
 ·have c1:¬(k:Int)<(s.heard.length:Int):=oM;repeat' first|exact zQ|with_reducible apply zJ<;>intro _|refine zK ?_
  exact⟨by omega,.inl trivial⟩
def Ov(s:aV)(bx:ae):bj prog 50 60 [s.d] bx (fun d bx'=>d= .fn (.func 95) [.loc 61 ((bx 61).ep+1) 0 0]/\bx'=ak bx 61 ⟨(bx 61).ep+1,1,15,33,[s.d]⟩) (fun _ _=>False):=by
 refine aI (fn:=f50) (tab:=[]) (base:=60) mixed ?_ rfl aj rfl;refine aJ _ [.tmp 2] 4 rfl rfl rfl aj ?_;repeat' first|exact zQ|with_reducible apply zJ<;>intro _|refine zK ?_
def RG(bx bx':ae)(s:aV)(d:D):Prop:=aX bx' [91] 71 1 d ((s.heard.map bW).map aU)/\∀q,q<61->bx' q=bx q
def XJ(s:aV)(hl:s.heard.length<=1099511627776)(hh:∀h∈s.heard,lK h)(e:Nat)(bx:ae)(hb:bx 61=⟨e,1,15,33,[s.d]⟩):bj prog 94 80 [.aq,.fn (.func 95) [.loc 61 e 0 0]] bx
 (fun d bx'=>RG bx bx' s d) (fun _ _=>False):=by
 refine aI (fn:=f94) (tab:=[]) (base:=80) mixed ?_ rfl aj rfl;refine aJ _ [.tmp 4] 13 rfl rfl rfl aj ?_;repeat' first|exact zQ|with_reducible apply zJ<;>intro _|refine zK ?_
 refine Es 95 61 e ⟨e,1,15,33,[s.d]⟩ _ none 20 (fun n bx'=>∃x,bx' 82=⟨(bx 82).ep+1,1,1,34,[x]⟩/\aX bx' [91] 71 1 x (((s.heard.take n).map bW).map aU)/\Hid (∀q,q<61->bx' q=bx q)) sG oM (by simp[go_sem,hb]) (TQ s hl hh e) ?_ ?_ ?_
 ·repeat' first|exact zQ|with_reducible apply zJ<;>intro _|refine zK ?_
  exact⟨_,rfl,.nil _ _ _ _,fun q hq=>by rw[if_pos oM,if_neg oM,if_neg oM]⟩
 ·intro n it bx1 hi ⟨x,GN,hv,hq⟩;rw[gM,mS]at hi;obtain⟨y,hy,rfl⟩:=hi;have hn:n<s.heard.length:=(gS.1 hy).1;rw[km oM]at GN;replace hv:=hv.Ak (fun t ht=>by simp at ht;omega);have iK:∀q,q<61->bx1 q=bx q:=fun q h=>by rw[<-hq.out q h,km oM]
  replace iK:Hid _:=iK;clear hq hh;have hf:=hv.facts;have fP:((s.heard.take n).map bW).map aU++[aU (bW y)]=((s.heard.take (n+1)).map bW).map aU:=by rw[List.take_add_one,hy];simp
  have fw:(((s.heard.take n).map bW).map aU).length<=s.heard.length:=by simp;omega
  replace fw:Hid _:=fw;repeat' first|exact zQ|with_reducible apply zJ<;>intro _|refine zK ?_
  refine app [91] hv (fun x' β aT=>?_) (by have:=fw.out;simp only[List.length_cons,List.length_nil];omega);have hf:=aT.facts;rw[fP]at aT;clear fP;repeat' first|exact zQ|with_reducible apply zJ<;>intro _|refine zK ?_
  exact⟨fun s h1 h2=>by rw[if_neg oM,if_pos oM,if_neg oM],x',rfl,aT.of fun t ht=>by simp at ht;subst ht;simp[bU,ak,bn,di],fun q h=>by rw[if_pos oM,if_neg oM,if_neg oM];exact iK.out q h⟩
 ·intro bx1 ⟨x,GN,hv,hq⟩;rw[km oM]at GN;replace hv:=hv.Ak (fun t ht=>by simp at ht;omega);have iK:∀q,q<61->bx1 q=bx q:=fun q h=>by rw[<-hq.out q h,km oM]
  replace iK:Hid _:=iK;clear hq hh;rw[List.length_map,tL]at hv;have hf:=hv.facts;simp only[D4];repeat' first|exact zQ|with_reducible apply zJ<;>intro _|refine zK ?_
  exact⟨hv,iK.out⟩
def SY(s:aV)(hl:s.heard.length<=1099511627776)(hh:∀h∈s.heard,lK h)(e:Nat)(bx:ae)(hb:bx 61=⟨e,1,15,33,[s.d]⟩):bj prog 49 70 [.fn (.func 95) [.loc 61 e 0 0]] bx (fun d bx'=>RG bx bx' s d) (fun _ _=>False):=by
 refine aI (fn:=f49) (tab:=[]) (base:=70) mixed ?_ rfl aj rfl;refine aJ _ [.tmp 2] 5 rfl rfl rfl aj ?_;repeat' first|exact zQ|with_reducible apply zJ<;>intro _|refine zK ?_
 refine aC (XJ s hl hh e bx hb) rfl fun d bx1 hq=>?_;have hf:=hq.1.facts;repeat' first|exact zQ|with_reducible apply zJ<;>intro _|refine zK ?_
@[reducible] def bI.d(p:bI):D:=.agg [I p.bY.sources,I p.bY.er,I p.bY.chunk,I p.bY.quiet,I p.bY.late,I p.bY.pL,I p.bY.most,.sl 6 (p.bY.eD.map aS.d),.sl 8 (p.bY.dU.map Term.d),.sl 10 (p.bY.mN.map cj.d),.sl 5 (p.bY.eh.map aO.d),.sl 7 (p.bY.jX.map bS.d),.sl 14 (p.bY.cr.map cy.d),.sl 4 (p.bY.eL.map ca.d),.sl 8 (p.bY.heard.map bc.d),
 .sl 1 (p.bZ.bh.map aU),I p.bZ.many,I p.bZ.sync,.sl 1 (p.cu.aZ.map aU),.sl 2 (p.cu.bC.map bX.d),I p.cu.left,.bool p.cu.stop]
structure rD(p:bI):Prop where
 bY:St.eA p.bY
 hl:p.bY.heard.length<=1099511627776
 hh:∀h∈p.bY.heard,lK h
 ju:oK p.bZ.bh
 dk:okD p.cu
instance(s:aV)(n:Int):Ct 11 [s.d,I n] (St.eA s) (.aL [(eu s n).1.d,I (eu s n).2]):=by
 refine bf f11 [] [.cell 4 41,.tmp 5] fun pre=>?_;generalize hR:eu s n=R;have hlh:=pre.lh;by_cases h1:bQ s=0
 rotate_left
 ·unfold eu at hR;rw[if_neg h1]at hR;subst hR;repeat' first|exact zQ|with_reducible apply zJ<;>intro _|refine zK ?_
  exact wk
 by_cases h2:s.heard.length=0
 rotate_left
 ·unfold eu at hR;rw[if_pos h1,if_neg h2]at hR;subst hR;have c:(0:Int)<(s.heard.length:Int):=oM;repeat' first|exact zQ|with_reducible apply zJ<;>intro _|refine zK ?_
  exact wk
 have c:¬(0:Int)<(s.heard.length:Int):=oM;unfold eu at hR;rw[if_pos h1,if_pos h2]at hR;by_cases hn:1<=n/\n<=4096
 rotate_left
 ·have hN:jx n=(d0,1):=by unfold jx;rw[if_neg hn]
  rw[hN,if_neg (by decide)]at hR;subst hR;repeat' first|exact zQ|with_reducible apply zJ<;>intro _|refine zK ?_
  exact wk
 have hN:jx n=(⟨List.replicate n.toNat cK,[],-1,false⟩,0):=by unfold jx;rw[if_pos hn]
 have oa:dt ⟨List.replicate n.toNat cK,[],-1,false⟩=true:=qs (by simp;omega) (fun b hb=>by obtain⟨_,rfl⟩:=List.mem_replicate.1 hb;exact nK) oM oM;have hO:dC ⟨List.replicate n.toNat cK,[],-1,false⟩=(⟨[],n,0⟩,0):=by
  unfold dC;rw[if_pos oa,if_neg sI,if_pos sI];simp only[uJ,List.length_replicate,List.length_nil];rw[Int.toNat_of_nonneg oM];rfl
 have hk:okD ⟨List.replicate n.toNat cK,[],-1,false⟩:=⟨by simp[Lm];omega,by simp[Lm]⟩
 clear oa;generalize(⟨List.replicate n.toNat cK,[],-1,false⟩:cI)=dk at *;rw[hN]at hR;simp only[if_true,hO]at hR;subst hR;repeat' first|exact zQ|with_reducible apply zJ<;>intro _|refine zK ?_
 exact wk
section
variable (a b c d e f g:Int) (gr:List aS) (te:List Term) (ho:List cj) (bu:List aO) (tr:List bS) (vi:List cy) (vs:List ca) (he:List bc)
instance (priority:=low):Ct 34 [.agg [I a,I b,I c,I d,I e,I f,I g,.sl 6 (gr.map aS.d),.sl 8 (te.map Term.d),.sl 10 (ho.map cj.d),.sl 5 (bu.map aO.d),.sl 7 (tr.map bS.d),.sl 14 (vi.map cy.d),.sl 4 (vs.map ca.d),.sl 8 (he.map bc.d)]] (St.eA ⟨a,b,c,d,e,f,g,gr,te,ho,bu,tr,vi,vs,he⟩) (I (bQ ⟨a,b,c,d,e,f,g,gr,te,ho,bu,tr,vi,vs,he⟩)):=by
 have key:∀s:aV,Ct 34 [s.d] (St.eA s) (I (bQ s)):=fun s=>inferInstance;exact key ⟨a,b,c,d,e,f,g,gr,te,ho,bu,tr,vi,vs,he⟩
end
def TH{d:cI}(h:(dC d).2=0):dt d=true/\d.stop=false/\d.bC=[]/\dC d=(⟨cF d.aZ,d.aZ.length,(cF d.aZ).length⟩,0):=by
 unfold dC at h⊢;by_cases h1:dt d=true
 ·rw[if_pos h1]at h⊢;by_cases h2:d.stop=true
  ·rw[if_pos h2]at h;cases h
  ·rw[if_neg h2]at h⊢;by_cases h3:d.bC.length=0
   ·rw[if_pos h3];exact⟨h1,by simpa using h2,List.length_eq_zero_iff.1 h3,rfl⟩
   ·rw[if_neg h3]at h;cases h
 ·rw[if_neg h1]at h;cases h
def HL{d:cI}(h1:dt d=true)(h2:d.stop=false)(h3:d.bC=[]):dC d=(⟨cF d.aZ,d.aZ.length,(cF d.aZ).length⟩,0):=by
 unfold dC;rw[if_pos h1,if_neg (by simp[h2]),if_pos (by simp[h3])]
instance Bs(p:bI):Ct 16 [p.d] (rD p) (I (if iN p then 0 else 580)):=by
 obtain⟨s,⟨rs,M,y⟩,⟨S,W,L,st⟩⟩:=p;refine bf f16 [] [.tmp 2] fun pre=>?_;obtain⟨os,ol,oh,oj,od⟩:=pre;simp only at os ol oh oj od;generalize hR:(if iN ⟨s,⟨rs,M,y⟩,⟨S,W,L,st⟩⟩then 0 else 580:Int)=R;have no:∀(h:¬PG ⟨s,⟨rs,M,y⟩,⟨S,W,L,st⟩⟩),R=580:=fun h=>by rw[<-hR,if_neg (fun h2=>h ((eH _).1 h2))]
 by_cases h1:bQ s=0
 rotate_left
 ·obtain rfl:=no fun h=>h1 h.bY;clear hR no;repeat' first|exact zQ|with_reducible apply zJ<;>intro _|refine zK ?_
 by_cases h2:kh ⟨rs,M,y⟩=true
 rotate_left
 ·obtain rfl:=no fun h=>h2 h.bZ;clear hR no;repeat' first|exact zQ|with_reducible apply zJ<;>intro _|refine zK ?_
 by_cases h3:L= -1
 rotate_left
 ·obtain rfl:=no fun h=>h3 h.left;clear hR no;repeat' first|exact zQ|with_reducible apply zJ<;>intro _|refine zK ?_
 subst h3;replace hR:Hid _:=hR;replace no:Hid _:=no;repeat' first|exact zQ|with_reducible apply zJ<;>intro _|refine zK ?_
 refine aC (Ov s _) rfl fun d bx1 hq=>?_;obtain⟨rfl,rfl⟩:=hq;repeat' first|exact zQ|with_reducible apply zJ<;>intro _|refine zK ?_
 refine wb (SY s ol oh _ _ (eC ..)) rfl (fun d bx1 hp=>?_) fun d bx1 hp=>hp.elim;obtain⟨p1,p2⟩:=hp;have hpu:D.aF ((s.heard.map bW).map aU)=true:=by rw[cZ];simp[D.pure]
 obtain⟨r,o1,o2⟩:=p1.out hpu;refine⟨r,_,o1,o2,?_⟩;have k1:dO bx1 [d] 1=bx1 1:=by
  rw[fe,if_neg];intro hm;have:=aX.names p1 1 (by simpa[bH]using hm);simp at this
 have k2:=k1.trans (p2 1 (by decide));simp only[ak,reduceIte,Nat.reduceEqDiff]at k2;generalize dO bx1 [d]=B1 at *;clear p1 p2 k1 o1 o2 oh;generalize mF:s.heard.map bW=own at *;replace mF:Hid _:=mF;have hoL:Lm own:=by have:=congrArg List.length mF.out;simp at this;simp[Lm];omega
 by_cases h4:(dC ⟨S,W,-1,st⟩).2=0
 rotate_left
 ·obtain rfl:=no.out fun h=>h4 (by rw[HL h.cu h.stop h.bC]);clear hR no;repeat' first|exact zQ|with_reducible apply zJ<;>intro _|refine zK ?_
 obtain⟨d1,d2,d3,Vy⟩:=TH h4;obtain⟨s1,s2⟩:=(lW d1).1;simp only at s1 s2 d2 d3;have tF:=xa S;have aeo:Lm (cF S):=by simp[Lm,cF];omega
 obtain⟨⟨m1,m2⟩,j3,j4,j5⟩:=kJ h2;simp only at m1 m2 j3 j4 j5;have hrL:Lm rs:=by have:=l_ rs;simp[Lm];omega
 have ng:Hid (cF S=cF S):=rfl;generalize R5:cF S=rB at *;replace R5:Hid _:=R5;replace d1:Hid _:=d1;replace d2:Hid _:=d2;replace d3:Hid _:=d3;clear h4 ng tF;by_cases h5:(S.length:Int)=M
 rotate_left
 ·obtain rfl:=no.out fun h=>h5 h.many.symm;clear hR no;repeat' first|exact zQ|with_reducible apply zJ<;>intro _|refine zK ?_
 by_cases h6:own=rs
 rotate_left
 ·obtain rfl:=no.out fun h=>h6 (by rw[<-mF.out];exact h.bh.symm);have hd:decide (own=rs)=false:=decide_eq_false h6;clear hR no h6;repeat' first|exact zQ|with_reducible apply zJ<;>intro _|refine zK ?_
 subst h6;have hd:decide (own=own)=true:=by simp
 have hyL:Lm (own.take y.toNat):=by simp[Lm]at hoL⊢;omega
 have hc:eb (own.map aU).length (none:Option Int) (some y)=some (0,y.toNat):=by simp[eb];omega
 by_cases h7:rB=own.take y.toNat
 rotate_left
 ·obtain rfl:=no.out fun h=>h7 (by rw[<-R5.out];exact h.read);have qj:decide (rB=own.take y.toNat)=false:=decide_eq_false h7;clear hR no h7;repeat' first|exact zQ|with_reducible apply zJ<;>intro _|refine zK ?_
 have qj:decide (rB=own.take y.toNat)=true:=decide_eq_true h7;have yq:PG ⟨s,⟨own,M,y⟩,⟨S,W,-1,st⟩⟩:=⟨h1,h2,d1.out,d2.out,d3.out,rfl,h5.symm,mF.out.symm,by rw[<-h7,<-R5.out]⟩
 obtain rfl:=hR.out.symm.trans (if_pos ((eH _).2 yq));clear hR no yq h7;repeat' first|exact zQ|with_reducible apply zJ<;>intro _|refine zK ?_
end Go.V.Jn
namespace Go.V.Jn
open Go.Proofs Go.Proofs.Tryz Go.RowKit Go.V.Lx Go.V.Gr Go.V.Ty Go.V.St
instance(p:bI):Ct 18 [p.d] (rD p) (.aL [(n6 p).1.d,I (n6 p).2]):=by
 obtain⟨s,⟨rs,M,y⟩,⟨S,W,L,st⟩⟩:=p;refine bf f18 [] [.cell 2 41,.tmp 3] fun pre=>?_;have hC:=(Bs ⟨s,⟨rs,M,y⟩,⟨S,W,L,st⟩⟩).h pre;obtain⟨os,ol,oh,oj,od⟩:=pre;simp only at os ol oh oj od;generalize hR:n6 ⟨s,⟨rs,M,y⟩,⟨S,W,L,st⟩⟩=R;unfold n6 at hR;by_cases h1:iN ⟨s,⟨rs,M,y⟩,⟨S,W,L,st⟩⟩=true
 rotate_left
 ·rw[if_neg h1]at hR hC;haveI:Ct 16 [bI.d ⟨s,⟨rs,M,y⟩,⟨S,W,L,st⟩⟩] True (I 580):=⟨fun _=>hC⟩
  subst hR;clear hC h1;repeat' first|exact zQ|with_reducible apply zJ<;>intro _|refine zK ?_
  exact wk
 rw[if_pos h1]at hR hC;haveI:Ct 16 [bI.d ⟨s,⟨rs,M,y⟩,⟨S,W,L,st⟩⟩] True (I 0):=⟨fun _=>hC⟩
 simp only at hR;have hJ:=J5 rs M y S W L st oj od;generalize hQ:gV ⟨rs,M,y⟩ ⟨S,W,L,st⟩=q at *;obtain⟨j',d',e'⟩:=q;haveI:Ct 58 [.agg [.sl 1 (rs.map aU),I M,I y],.agg [.sl 1 (S.map aU),.sl 2 (W.map bX.d),I L,.bool st]] True (.aL [j'.d,d'.d,I e']):=⟨fun _=>hJ⟩
 clear hC h1 hJ hQ;simp only at hR;by_cases he:e'=0
 ·rw[if_pos he]at hR;subst hR;subst he;repeat' first|exact zQ|with_reducible apply zJ<;>intro _|refine zK ?_
 ·rw[if_neg he]at hR;subst hR;repeat' first|exact zQ|with_reducible apply zJ<;>intro _|refine zK ?_
  exact wk
abbrev pz:D:=.agg [I 0,I 0,I 0,I 0,I 0,I 0,I 0,.aq,.aq,.aq,.aq,.aq,.aq,.aq,.aq,.aq,I 0,I 0,.aq,.aq,I 0,.bool false]
instance (priority:=low)(rs:List ah)(M y:Int)(b:ah):Ct 41 [.agg [.sl 1 (rs.map aU),I M,I y],aU b] (oK rs/\b.length<=1099511627776/\rs.length<=1048576) (.aL [(fU ⟨rs,M,y⟩ b).1.d,I (fU ⟨rs,M,y⟩ b).2]):=by
 have key:∀j:gm,Ct 41 [j.d,aU b] (oK j.bh/\b.length<=1099511627776/\j.bh.length<=1048576) (.aL [(fU j b).1.d,I (fU j b).2]):=fun j=>inferInstance;exact key ⟨rs,M,y⟩
instance(p:bI)(h:bc):Ct 13 [p.d,h.d] (rD p/\lK h/\St.eA (bL p.bY (p.bY.heard++[h]))/\(bW h).length<=1099511627776/\p.bZ.bh.length<=1048576) (.aL [(d_ p h).1.d,I (d_ p h).2]):=by
 obtain⟨s,⟨rs,M',y⟩,⟨S,W,L,st⟩⟩:=p;refine bf f13 [(4000005,[(0,2000000002)]),(4,[(6,5),(7,4),(6,4)]),(7,[(9,7)])] [.cell 4 41,.tmp 5] fun pre=>?_;obtain⟨pre,oh2,Oa,ob,orl⟩:=pre;have hC:=(Bs ⟨s,⟨rs,M',y⟩,⟨S,W,L,st⟩⟩).h pre;obtain⟨os,ol,oh,oj,od⟩:=pre;simp only at os ol oh oj od Oa orl;generalize hR:d_ ⟨s,⟨rs,M',y⟩,⟨S,W,L,st⟩⟩ h=R;unfold d_ at hR;by_cases h1:iN ⟨s,⟨rs,M',y⟩,⟨S,W,L,st⟩⟩=true
 rotate_left
 ·rw[if_neg h1]at hR hC;haveI:Ct 16 [bI.d ⟨s,⟨rs,M',y⟩,⟨S,W,L,st⟩⟩] True (I 580):=⟨fun _=>hC⟩
  subst hR;clear hC h1;repeat' first|exact zQ|with_reducible apply zJ<;>intro _|refine zK ?_
  exact wk
 rw[if_pos h1]at hR hC;haveI:Ct 16 [bI.d ⟨s,⟨rs,M',y⟩,⟨S,W,L,st⟩⟩] True (I 0):=⟨fun _=>hC⟩
 simp only at hR;clear hC h1;have c5:((s.heard.map bc.d).length+[D.agg [I h.at_,I h.src,I h.seq,I h.ir,I h.kind,I h.jy,I h.cut,.sl 5 (h.words.map Word.d)]].length) * 80<=140737488355328:=by simp;omega
 have ho5:pX ⟨1,1,8,48,s.heard.map bc.d++[D.agg [I h.at_,I h.src,I h.seq,I h.ir,I h.kind,I h.jy,I h.cut,.sl 5 (h.words.map Word.d)]]⟩ 1 8 0 (s.heard.length+1)=some (.sl 8 ((s.heard++[h]).map bc.d)):=by
  rw[show s.heard.map bc.d++[D.agg [I h.at_,I h.src,I h.seq,I h.ir,I h.kind,I h.jy,I h.cut,.sl 5 (h.words.map Word.d)]]=(s.heard++[h]).map bc.d by simp];exact eK _ _ _ _ _ _ (by decide) sI (by rw[cZ];simp[D.pure,D.aF,cZ])
 repeat' first|exact zQ|with_reducible apply zJ<;>intro _|refine zK ?_
 generalize hM:Go.V.eO _ 2 _=M;have n2:M 2=⟨1,1,22,41,[bI.d ⟨bL s (s.heard++[h]),⟨rs,M',y⟩,⟨S,W,L,st⟩⟩]⟩:=by
  rw[<-hM];exact DZ (eC ..) (by simp[bH,Go.V.names])
 have n3:M 3=⟨1,1,8,48,[h.d]⟩:=by
  rw[<-hM,vH 3 (by decide) (by rw[eC];simp[bH,Go.V.names])];simp[ak]
 have n4:M 4=⟨1,1,22,41,[pz]⟩:=by
  rw[<-hM,vH 4 (by decide) (by rw[eC];simp[bH,Go.V.names])];simp[ak]
 clear hM ho5 c5;have hS:ao prog 34 [(bL s (s.heard++[h])).d] (I (bQ (bL s (s.heard++[h])))):=by
  have key:Ct 34 [(bL s (s.heard++[h])).d] (St.eA (bL s (s.heard++[h]))) (I (bQ (bL s (s.heard++[h])))):=inferInstance;exact key.h Oa
 have hA:ao prog 41 [gm.d ⟨rs,M',y⟩,aU (bW h)] (.aL [(fU ⟨rs,M',y⟩ (bW h)).1.d,I (fU ⟨rs,M',y⟩ (bW h)).2]):=by
  have key:Ct 41 [gm.d ⟨rs,M',y⟩,aU (bW h)] (oK rs/\(bW h).length<=1099511627776/\rs.length<=1048576) (.aL [(fU ⟨rs,M',y⟩ (bW h)).1.d,I (fU ⟨rs,M',y⟩ (bW h)).2]):=inferInstance;exact key.h ⟨oj,ob,orl⟩
 generalize bQ (bL s (s.heard++[h]))=e at *;generalize fU ⟨rs,M',y⟩ (bW h)=q at *;obtain⟨j',e2⟩:=q;simp only at hR hA;haveI:Ct 34 [(bL s (s.heard++[h])).d] True (I e):=⟨fun _=>hS⟩
 haveI:Ct 41 [gm.d ⟨rs,M',y⟩,aU (bW h)] True (.aL [j'.d,I e2]):=⟨fun _=>hA⟩
 clear hS hA;by_cases h2:e=0
 rotate_left
 ·rw[if_neg h2]at hR;subst hR;repeat' first|exact zQ|with_reducible apply zJ<;>intro _|refine zK ?_
  exact wk
 rw[if_pos h2]at hR;by_cases h3:e2=0
 ·rw[if_pos h3]at hR;subst hR;repeat' first|exact zQ|with_reducible apply zJ<;>intro _|refine zK ?_
 ·rw[if_neg h3]at hR;subst hR;repeat' first|exact zQ|with_reducible apply zJ<;>intro _|refine zK ?_
  exact wk
end Go.V.Jn
