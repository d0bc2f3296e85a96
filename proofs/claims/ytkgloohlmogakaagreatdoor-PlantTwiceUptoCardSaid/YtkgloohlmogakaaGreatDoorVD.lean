/- Loops that count, and small rules for the proofs of functions on data. A variable that a call has left gets another name: so that what was made under the callee's slots lasts under the caller's. Deferred calls; functions that defer; deferred functions that recover. -/
import Derived.Test.YtkgloohlmogakaaGreatDoorVt
import Derived.Test.YtkgloohlmogakaaGreatDoorVC
import Derived.RecoverIn
set_option linter.unusedSimpArgs false
set_option linter.unusedVariables false
namespace Go.V
open Go.Proofs Go.RowKit
variable {P:Program} {C:Calc} {Q:DX->Env->ae->Prop} {σ:Env} {bx:ae}
theorem vK{full:List Oper}{K K':List Cl->Env->ae->Prop}(h:∀acc σ bx,K acc σ bx->K' acc σ bx){ps:List (Nat×Nat)}:∀ {l:List Oper} {i:Nat} {acc:List Cl} {σ:Env} {bx:ae},nk P C full ps i l acc σ bx K->nk P C full ps i l acc σ bx K'
 |[],i,acc,σ,bx,hs=>h _ _ _ hs
 |o::rest,i,acc,σ,bx,hs=>by
  simp only[nk]at hs⊢;exact bz (fun s=>kM fun acc' σ' bx' hk=>by
   unfold pD at hk⊢;split at hk
   ·exact h _ _ _ hk
   ·exact vK h hk) hs
theorem FP{full:List Oper}{K K':List Cl->Env->ae->Prop}(h:∀acc σ bx,K acc σ bx->K' acc σ bx){ps:List (Nat×Nat)}{l:List Oper}{acc:List Cl}{σ:Env}{bx:ae}(hs:sk P C full ps l acc σ bx K):sk P C full ps l acc σ bx K':=by
 cases ps with
 |nil=>exact kM h hs
 |cons p ps=>exact vK h hs
theorem Jr{c:Code}:∀ {C:Calc} {Q Q':DX->Env->ae->Prop} {σ:Env} {bx:ae},(∀e σ bx,Q e σ bx->Q' e σ bx)->cR P C c Q σ bx->cR P C c Q' σ bx:=by
 induction c with
 |skip=>intro C Q Q' σ bx h hs;exact h _ _ _ hs
 |region id ops draw=>
  intro C Q Q' σ bx h hs;cases draw
  ·exact FP (fun acc _ _ hk=>by
    unfold pE at hk⊢;split at hk<;>exact h _ _ _ hk) hs
  ·simp only[cR]at hs⊢;split at hs
   ·rename_i hd;rw[if_pos hd];exact ve (fun d bx hp σ=>h _ _ _ (hp σ)) (fun _ _=>h _ _ _) hs
   ·rename_i hd;rw[if_neg hd];exact kM (fun _ _ _ hk=>⟨hk.1,h _ _ _ hk.2⟩) hs
 |seq a b iha ihb=>
  intro C Q Q' σ bx h hs;refine iha (fun e σ bx he=>?_) hs;cases e<;>first|exact ihb h he|exact h _ _ _ he
 |cond c x y ihx ihy=>
  intro C Q Q' σ bx h hs;simp only[cR]at hs⊢;unfold u0 eZ at hs⊢;split at hs
  ·split at hs
   ·rename_i h1;simp only[h1,if_true];exact ihx h hs
   ·rename_i h1;simp only[h1];exact ihy h hs
  ·exact⟨ihx h hs.1,ihy h hs.2⟩
  ·exact hs.elim
 |block id c ih=>
  intro C Q Q' σ bx h hs;refine ih (fun e σ bx he=>?_) hs;cases e with
  |exit id'=>
   simp only[mn]at he⊢;split at he
   ·rename_i h1;rw[if_pos h1];exact h _ _ _ he
   ·rename_i h1;rw[if_neg h1];exact h _ _ _ he
  |_=>exact h _ _ _ he
 |loop c ih=>
  intro C Q Q' σ bx h hs;obtain⟨I,μ,h0,h1⟩:=hs;refine⟨I,μ,h0,fun σ bx hi=>let ⟨bx0,hm,hb⟩:=h1 σ bx hi;⟨bx0,hm,ih (fun e σ bx he=>?_) hb⟩⟩;cases e<;>first|exact he|exact h _ _ _ he
 |rangeFunc g ps a b iha ihb=>
  intro C Q Q' σ bx h hs;have round:∀ {ext:Nat} {J:Nat->ae->Prop} {n:Nat} {it:List D} {bx1:ae},cR P ⟨C.o,C.tab,C.base,C.nxt+ext,C.lo,C.yl,false,false⟩ a (cp (cR P ⟨C.o,C.tab,C.base,C.nxt+ext,C.lo,C.yl,false,false⟩ b (lz C.nxt ext J n Q σ bx1)) xT) (gD σ ps.toList it) bx1->
   cR P ⟨C.o,C.tab,C.base,C.nxt+ext,C.lo,C.yl,false,false⟩ a (cp (cR P ⟨C.o,C.tab,C.base,C.nxt+ext,C.lo,C.yl,false,false⟩ b (lz C.nxt ext J n Q' σ bx1)) xT) (gD σ ps.toList it) bx1:=by
   intro ext J n it bx1 k2;refine iha (fun e σ bx he=>?_) k2;cases e with
   |normal=>
    refine ihb (fun e σ bx he=>?_) he;obtain⟨m1,m2⟩:=he;refine⟨m1,?_⟩;cases e with
    |ret=>exact fun bx2 hb=>h _ _ _ (m2 bx2 hb)
    |exit id=>exact fun bx2 hb=>h _ _ _ (m2 bx2 hb)
    |_=>exact m2
   |_=>exact he
  obtain⟨h1,h2,⟨f,caps,items,ext,g1,g2,g3,J,j0,jr,jq⟩|⟨f,t,e,bb,items,pd,ext,g1,g2,g3,g4,J,j0,jr,jq⟩⟩:=hs
  ·exact⟨h1,h2,.inl ⟨f,caps,items,ext,g1,g2,g3,J,j0,fun n it bx1 hi hj=>⟨(jr n it bx1 hi hj).1,round (jr n it bx1 hi hj).2⟩,fun bx1 hj=>h _ _ _ (jq bx1 hj)⟩⟩
  ·refine⟨h1,h2,.inr ⟨f,t,e,bb,items,pd,ext,g1,g2,g3,g4,J,j0,fun n it bx1 hi hj=>⟨(jr n it bx1 hi hj).1,round (jr n it bx1 hi hj).2⟩,fun bx1 hj=>?_⟩⟩;have:=jq bx1 hj;cases pd<;>exact h _ _ _ this
 |scope c ih=>
  intro C Q Q' σ bx h hs;refine ih (fun e σ bx he=>?_) hs;cases e<;>first|exact he|exact h _ _ _ he
 |exit id=>intro C Q Q' σ bx h hs;exact h _ _ _ hs
 |ret=>intro C Q Q' σ bx h hs;exact h _ _ _ hs
 |label l=>intro C Q Q' σ bx h hs;exact h _ _ _ hs
 |_=>intro C Q Q' σ bx h hs;exact hs.elim
theorem im{c:Code}{Q':DX->Env->ae->Prop}(h:∀e σ bx,Q e σ bx->Q' e σ bx)(hs:cD P C c Q σ bx):cD P C c Q' σ bx:=Jr h hs
noncomputable def pC(p:Nat->Prop):Nat->Nat
 |0=>0
 |n+1=>@ite _ (p (n+1)) (Classical.propDecidable _) (n+1) (pC p n)
theorem wN(p:Nat->Prop):∀n,pC p n<=n
 |0=>Nat.le_refl _
 |n+1=>by
  unfold pC;split
  ·exact Nat.le_refl _
  ·exact Nat.le_succ_of_le (wN p n)
theorem pM(p:Nat->Prop):∀n k,k<=n->p k->p (pC p n)/\k<=pC p n
 |0,k,hk,h=>by
  obtain rfl:k=0:=oM;exact⟨h,Nat.le_refl _⟩
 |n+1,k,hk,h=>by
  unfold pC;split
  ·rename_i h1;exact⟨h1,hk⟩
  ·rename_i h1;by_cases hkn:k=n+1
   ·subst hkn;exact absurd h h1
   ·exact pM p n k oM h
theorem aX{c:Code}(n:Nat)(I:Nat->Env->ae->Prop)(h0:I 0 σ bx)
 (hk:∀k σ bx,k<n->I k σ bx->cD P C c (cp (fun σ' bx'=>I (k+1) σ' bx') Q) σ bx)
 (hn:∀σ bx,I n σ bx->cD P C c (cp (fun _ _=>False) Q) σ bx):cD P C (.loop c) Q σ bx:=by
 refine Ca (fun σ bx=>∃k,k<=n/\I k σ bx) (fun σ bx=>n - pC (fun k=>I k σ bx) n) ⟨0,Nat.zero_le _,h0⟩ ?_;rintro σ bx ⟨k,hkn,hi⟩;obtain⟨g1,g2⟩:=pM (fun k=>I k σ bx) n k hkn hi;have g3:=wN (fun k=>I k σ bx) n;generalize pC (fun k=>I k σ bx) n=m at g1 g2 g3⊢;have mono:∀(K K':Env->ae->Prop),(∀σ bx,K σ bx->K' σ bx)->cD P C c (cp K Q) σ bx->cD P C c (cp K' Q) σ bx:=fun K K' hK h=>im (fun e σ bx he=>by cases e<;>first|exact hK _ _ he|exact he) h;by_cases hm:m<n
 ·refine mono _ _ (fun σ' bx' h'=>?_) (hk m σ bx hm g1);obtain⟨q1,q2⟩:=pM (fun k=>I k σ' bx') n (m+1) oM h';exact⟨⟨m+1,by omega,h'⟩,by omega⟩
 ·obtain rfl:m=n:=oM;exact mono _ _ (fun _ _ h'=>h'.elim) (hn σ bx g1)
theorem B_{c:Code}(n:Nat)(I:Nat->Env->ae->Prop)(h0:I 0 σ bx)
 (hk:∀k σ bx,k<n->I k σ bx->∃bx0,Gy C bx bx0/\cD P C c (cp (fun σ' bx'=>I (k+1) σ' bx') Q) σ bx0)
 (hn:∀σ bx,I n σ bx->∃bx0,Gy C bx bx0/\cD P C c (cp (fun _ _=>False) Q) σ bx0):cD P C (.loop c) Q σ bx:=by
 refine⟨fun σ bx=>∃k,k<=n/\I k σ bx,fun σ bx=>n - pC (fun k=>I k σ bx) n,⟨0,Nat.zero_le _,h0⟩,?_⟩;rintro σ bx ⟨k,hkn,hi⟩;dsimp only;obtain⟨g1,g2⟩:=pM (fun k=>I k σ bx) n k hkn hi;have g3:=wN (fun k=>I k σ bx) n;generalize pC (fun k=>I k σ bx) n=m at g1 g2 g3⊢;have mono:∀(K K':Env->ae->Prop) (bx:ae),(∀σ bx,K σ bx->K' σ bx)->cD P C c (cp K Q) σ bx->cD P C c (cp K' Q) σ bx:=fun K K' bx hK h=>im (fun e σ bx he=>by cases e<;>first|exact hK _ _ he|exact he) h;by_cases hm:m<n
 ·obtain⟨bx0,hb1,hb2⟩:=hk m σ bx hm g1;refine⟨bx0,hb1,mono _ _ _ (fun σ' bx' h'=>?_) hb2⟩;obtain⟨q1,q2⟩:=pM (fun k=>I k σ' bx') n (m+1) oM h';exact⟨⟨m+1,by omega,h'⟩,by omega⟩
 ·obtain rfl:m=n:=oM;obtain⟨bx0,hb1,hb2⟩:=hn σ bx g1;exact⟨bx0,hb1,mono _ _ _ (fun _ _ h'=>h'.elim) hb2⟩
theorem aK{k:Nat}(h:k<9223372036854775807):IntKind.i64.wrap ((k:Int)+1)=((k+1:Nat):Int):=by rw[wrap_i64 oM oM];rfl
end Go.V
namespace Go.V
open Go.RowKit
variable {P:Program} {X:Ctx} {ρ ρ':bN} {σ:Env} {bx:ae} {a:Act} {w:World} {s e s' e':Nat} {S:Nat->Prop} {d:D} {v:Value}
theorem aU.rC{f:FuncId}{base:Nat}{ds:List D}{Q Q' Qp:D->ae->Prop}(h:aU P f base ds bx Q Qp)
 (hq:∀d bx',Q d bx'->Q' d bx'\/∃s s' sel,s≠s'/\(bx' s).k=1/\(bx' s').k=0/\Q' d (fM s s' sel bx')):aU P f base ds bx Q' Qp:=by
 intro X ρ σ a w vs hS hlo hl hv;have fin:∀v w',(∃d bx' ρ',Q d bx'/\az X ρ' σ bx' a w'/\aE w' (ay X ρ' bx' w') ρ' d v)->∃d bx' ρ',Q' d bx'/\az X ρ' σ bx' a w'/\aE w' (ay X ρ' bx' w') ρ' d v:=by
  rintro v w' ⟨d,bx',ρ',h1,h2,h3⟩;rcases hq d bx' h1 with h1|⟨s,s',sel,k1,k2,k3,k4⟩
  ·exact⟨d,bx',ρ',h1,h2,h3⟩
  ·obtain⟨ρ2,g1,g2⟩:=h2.rename hlo k1 k2 k3 sel;exact⟨d,_,ρ2,k4,g1,g2 d v h3⟩
 exact(h X ρ σ a w vs hS hlo hl hv).mono fin fun _ _ h=>h
theorem aU.mono{f:FuncId}{base:Nat}{ds:List D}{Q Q' Qp Qp':D->ae->Prop}(h:aU P f base ds bx Q Qp)(hq:∀d bx',Q d bx'->Q' d bx')(hp:∀d bx',Qp d bx'->Qp' d bx'):aU P f base ds bx Q' Qp':=
 fun X ρ σ a w vs hS hlo hl hv=>(h X ρ σ a w vs hS hlo hl hv).mono (fun v w' ⟨d,bx',ρ',h1,h2⟩=>⟨d,bx',ρ',hq _ _ h1,h2⟩) (fun v w' ⟨d,bx',ρ',h1,h2⟩=>⟨d,bx',ρ',hp _ _ h1,h2⟩)
theorem aA{α:Type}{σ:Nat->α}{t:Nat}{v:α}{x:Nat}(h:x≠t):ao σ t v x=σ x:=by simp[ao,h]
theorem gB{n s:Nat}(h:s<n):bp n bx s=bx s:=by simp[bp,h]
theorem aW.cut{ts:List Nat}{el esz n:Nat}{x:D}{xs:List D}(h:aW bx ts el esz x xs)(hn:∀t,t∈ts->t<n):aW (bp n bx) ts el esz x xs:=h.of fun t ht=>gB (hn t ht)
theorem aW.tv{ts:List Nat}{el esz n:Nat}{x:D}{xs:List D}(h:aW (bp n bx) ts el esz x xs)(hn:∀t,t∈ts->t<n):aW bx ts el esz x xs:=h.of fun t ht=>(gB (hn t ht)).symm
theorem aW.facts{ts:List Nat}{el esz:Nat}{x:D}{xs:List D}(h:aW bx ts el esz x xs):x.cells=[x]/\x.one=true/\∀c,dz x 0 [c]=some c:=by rcases h with⟨rfl,rfl⟩|⟨t,e,_,rfl,hb⟩<;>exact⟨rfl,rfl,fun c=>by simp[dz,D.cells]⟩
def wC(bx:ae)(s el esz:Nat)(x:D)(xs:List D):Prop:=
 (x= .nilsl/\xs=[]/\(bx s).k=0)\/∃e,x= .osl s e esz 0 xs.length/\bx s=⟨e,1,esz,el,xs⟩
theorem wC.nil{s el esz:Nat}(h:(bx s).k=0):wC bx s el esz .nilsl []:=.inl ⟨rfl,rfl,h⟩
theorem wC.of{bx':ae}{s el esz:Nat}{x:D}{xs:List D}(h:wC bx s el esz x xs)(hb:bx' s=bx s):wC bx' s el esz x xs:=by unfold wC;rw[hb];exact h
theorem aW.out{ts:List Nat}{el esz:Nat}{x:D}{xs:List D}(h:aW bx ts el esz x xs)(hp:D.aF xs=true):∃r,bf bx x=some r/\bk r (.sl esz xs):=by
 rcases h with⟨rfl,rfl⟩|⟨t,e,_,rfl,hb⟩
 ·exact⟨_,qG,.nil _⟩
 ·exact⟨_,by rw[jv,hb];exact cU _ _ _ _ _ _ (by decide) rfl hp,.refl _⟩
theorem aq.pF{f:FuncId}{ds ds':List D}{d:D}(h:aq P f ds d)(hl:ds'.length=ds.length)(hw:∀(i:Nat) x x',ds'[i]? =some x->ds[i]? =some x'->bk x x'):aq P f ds' d:=by
 intro w S vs hS hg hn hv;refine h w S vs hS hg (hn.trans hl) fun i x v hx hv'=>?_;have hi:i<ds'.length:=by rw[hl];exact(List.getElem?_eq_some_iff.1 hx).1
 exact aE.pF (hw i _ x (List.getElem?_eq_getElem hi) hx) (hv i _ v (List.getElem?_eq_getElem hi) hv')
theorem aq.Pv{f:FuncId}{x x':D}{d:D}(h:aq P f [x'] d)(hw:bk x x'):aq P f [x] d:=by
 refine h.pF rfl fun i a b ha hb=>?_
 match i with
 |0=>simp at ha hb;subst ha;subst hb;exact hw
 |i+1=>simp at ha
theorem aq.Ji{f:FuncId}{x x' y y':D}{d:D}(h:aq P f [x',y'] d)(hw:bk x x')(hw2:bk y y'):aq P f [x,y] d:=by
 refine h.pF rfl fun i a b ha hb=>?_
 match i with
 |0=>simp at ha hb;subst ha;subst hb;exact hw
 |1=>simp at ha hb;subst ha;subst hb;exact hw2
 |i+2=>simp at ha
theorem qe{lo:Nat}{T:TypeId->TI}{e esz b size d:Nat}{ag ag':Bool}{z:List D}{x:D}{xs ys:List D}{K2:D×ae->Prop}(hx:aW bx [d] e esz x xs)(hz:(T e).zero.length=esz)
 (h1:(xs.length+ys.length) * b<=140737488355328) (h2:0<esz) (h3:0<b) (hlo:lo<=d)
 (hk:∀x' bx',aW bx' [d] e esz x' (xs++ys)->(∀s,s≠d->bx' s=bx s)->K2 (x',bx')):
 aI (eh lo T ⟨.slice e esz b ag,size,ag',z⟩ (some d) bx x ys) K2:=by
 by_cases hy:ys=[]
 ·subst hy;exact eY hx (hk _ _ (by simpa using hx) fun _ _=>rfl)
 ·refine eG hx hy hz h1 h2 h3 (fun t ht=>by simp at ht;subst ht;exact hlo) fun e' bx' hb hf=>hk _ _ ?_ fun s hs=>hf s hs (by simpa using hs);exact aW.mk sI hb
theorem gV{a b a' b':D}(h1:bk a a')(h2:bk b b'):bk (.tup [a,b]) (.tup [a',b']):=by
 refine .tup rfl fun i x x' hx hx'=>?_
 match i with
 |0=>simp at hx hx';subst hx;subst hx';exact h1
 |1=>simp at hx hx';subst hx;subst hx';exact h2
 |i+2=>simp at hx
end Go.V
namespace Go.V
open Go.RowKit
variable {P:Program} {C:Calc} {X:Ctx} {ρ:bN} {σ:Env} {bx:ae} {a:Act} {w:World} {n:Nat}
inductive RM where
 |ret
 |pan (d:D)
def RM.val:RM->D
 | .ret=> .raw .nilIface
 | .pan d=>d
def MR(w:World)(S:Nat->Prop)(ρ:bN):RM->FrameMode->Prop
 | .ret,u=>u= .returning
 | .pan d,u=>∃v,u= .panicking [pe v]/\aE w S ρ d v
theorem MR.imp{w w':World}{S S':Nat->Prop}{ρ ρ':bN}{m:RM}{u:FrameMode}(h:MR w S ρ m u)(hr:∀d v,aE w S ρ d v->aE w' S' ρ' d v):MR w' S' ρ' m u:=by
 cases m with
 |ret=>exact h
 |pan d=>obtain⟨v,h1,h2⟩:=h;exact⟨v,h1,hr _ _ h2⟩
theorem MR.ne{w:World}{S:Nat->Prop}{ρ:bN}{m:RM}{u:FrameMode}(h:MR w S ρ m u):u≠ .run:=by
 cases m with
 |ret=>rw[show u= .returning from h];simp
 |pan d=>obtain⟨v,h1,_⟩:=h;rw[h1];simp
theorem MR.settle{w:World}{S:Nat->Prop}{ρ:bN}{m:RM}{u:FrameMode}(h:MR w S ρ m u):settle u=u:=by
 cases m with
 |ret=>rw[show u= .returning from h];rfl
 |pan d=>obtain⟨v,h1,_⟩:=h;rw[h1];rfl
def uL(P:Program)(f:FuncId)(base:Nat)(ds:List D)(bx:ae)(m:RM)(Q:RM->ae->Prop):Prop:=
 ∀(X:Ctx) (ρ:bN) (σ:Env) (a:Act) (w:World) (vs:Array Value) (u:FrameMode),az X ρ σ bx a w->X.lo=0->vs.size=ds.length->(∀(i:Nat) x v,ds[i]? =some x->vs[i]? =some v->aE w (ay X ρ bx w) ρ x v)->MR w (ay X ρ bx w) ρ m u->
  (callFunc f vs).run P w= .ok (.enter f vs) w/\CallsDIn Fence.wide 0 P f vs u w fun e u' w'=>∃v,e= .returned v/\∃m' bx' ρ',Q m' bx'/\az X ρ' σ bx' a w'/\MR w' (ay X ρ' bx' w') ρ' m' (Go.settle u')
def vC(P:Program)(nxt:Nat):List D->RM->ae->(RM->ae->Prop)->Prop
 |[],m,bx,K=>K m bx
 | .tup (.fn (.func f) caps::args)::l,m,bx,K=>∃Q,uL P f nxt (args++caps) bx m Q/\∀m' bx',Q m' bx'->vC P nxt l m' bx' K
 |_::_,_,_,_=>False
def n9(P:Program)(nxt:Nat)(l:List D)(m:RM)(bx:ae)(K:RM->ae->Prop)(_:Tok (K m bx):=⟨⟩):Prop:=vC P nxt l m bx K
theorem CallsDIn.OP{F:Fence}{f:FuncId}{args:Array Value}{u:FrameMode}{R R':Ending->FrameMode->World->Prop}(h:CallsDIn F n P f args u w R)(hi:∀e u w,R e u w->R' e u w):CallsDIn F n P f args u w R':=by
 refine⟨h.1,fun c cs hu hr=>?_⟩;obtain⟨e,u',w',fr,g1,g2⟩:=h.2 c cs hu hr;exact⟨e,u',w',fr,hi _ _ _ g1,g2⟩
theorem sc{fn:Func}{nxt:Nat}(hlo:X.lo=0)(hml:X.ml=X.w0.heap.size)(hmd:X.md=2){K:RM->ae->Prop}{R:Ending->World->Prop}{tmps:Array Value}:∀(ds:List Deferred) (l:List D) (m:RM) (u:FrameMode) (a:Act) (ρ:bN) (σ:Env) (bx:ae) (w:World),a.defers=ds->az X ρ σ bx a w->ly (σ cB)=l->
 MR w (ay X ρ bx w) ρ m u->vC P nxt l m bx K->
 (∀ρ' σ' bx' w' m' u',(∀t,t≠cB->σ' t=σ t)->az X ρ' σ' bx' {a with defers:=[]} w'->K m' bx'->MR w' (ay X ρ' bx' w') ρ' m' u'->LeavesIn Fence.wide 0 P fn tmps R [] u' w')->LeavesInM Fence.wide 0 P fn tmps R ds u w
 |[],l,m,u,a,ρ,σ,bx,w,hd,h,hl,hm,hc,hR=>by
  obtain⟨hk,_⟩:=h.marks.resolve_left oM;rw[if_neg oM,hl,hd]at hk;cases hk;exact hR ρ σ bx w m u (fun _ _=>rfl) (h.switch h.size (.nil (.inr (.inr hl))) h.tmps) hc hm
 |d::ds,l,m,u,a,ρ,σ,bx,w,hd,h,hl,hm,hc,hR=>by
  obtain⟨hk,_⟩:=h.marks.resolve_left oM;rw[if_neg oM,hl,hd]at hk;refine⟨hm.ne,?_⟩;cases hk with
  |@mark _ r _ h1 h2 h3 h4=>
   have hw:=(h.hold r _ h1).1;obtain⟨ρ',h',_,hre⟩:=h.Ek hd hml oM (kQ w r (.deferred none)) (World.putObj_heap_same (Array.getElem?_eq_some_iff.1 hw).1) hlo;exact .inl ⟨r,_,rfl,run_takeDeferred hw,sc hlo hml hmd ds l m u {a with defers:=ds} ρ' σ bx _ rfl h' hl (hm.imp hre) hc hR⟩
  |@call f caps args l' vc va _ g1 g2 g3 g4 g5=>
   obtain⟨Q,hQ,hnext⟩:=hc;have h':az X ρ (ao σ cB (.any l')) bx {a with defers:=ds} w:=h.switch h.size (.inr ⟨by rw[if_neg oM,cO];exact g5,fun h3=>by omega⟩) (fun t=>by
    simp only[ao];split
    ·exact .pure (.any _ _)
    ·exact h.tmps t)
   obtain⟨k1,k2⟩:=hQ X ρ _ _ w (va++vc) u h' hlo (by simp[g1,g3]) (fun i x v hx hv=>by
    by_cases hi:i<args.length
    ·rw[List.getElem?_append_left hi]at hx;rw[Array.getElem?_append_left oM]at hv;exact g4 i x v hx hv
    ·rw[List.getElem?_append_right oM]at hx;rw[Array.getElem?_append_right oM,g3]at hv;exact g2 _ x v hx hv) hm
   refine .inr ⟨by simp[Fence.wide],.func f,vc,f,va++vc,rfl,by simpa[invoke]using k1,fun _ _=>trivial,CallsDIn.OP k2 ?_⟩;rintro e u' w' ⟨v,rfl,m',bx',ρ',q1,q2,q3⟩;exact sc hlo hml hmd ds l' m' _ {a with defers:=ds} ρ' _ bx' w' rfl q2 (by rw[cO];rfl) q3 (hnext _ _ q1) fun ρ2 σ2 bx2 w2 m2 u2 e1 e2 e3 e4=>hR ρ2 σ2 bx2 w2 m2 u2 (fun t ht=>by rw[e1 t ht];simp[ao,ht]) e2 e3 e4
def Eg(rv:List ResultVar):Bool:=rv.all fun r=>match r with
 | .tmp t=>t != cB
 | .cell t _=>t != cB
theorem vS{σ σ':Env}(h:∀t,t≠cB->σ' t=σ t):∀(rv:List ResultVar),Eg rv=true->fN P σ' bx rv=fN P σ bx rv
 |[],_=>rfl
 |r::rv,hr=>by
  simp only[Eg,List.all_cons,Bool.and_eq_true]at hr;have:=vS h rv hr.2;simp only[fN,this];cases r with
  |tmp t=>simp only[kB];rw[h t (by have:=hr.1;simpa using this)]
  |cell t T=>simp only[kB];rw[h t (by have:=hr.1;simpa using this)]
def n_(P:Program)(rv:List ResultVar)(σ:Env)(bG Pan:D->ae->Prop):RM->ae->Prop
 | .ret,bx=>aI (fN P σ bx rv) fun rs=>bG (iG rs) bx
 | .pan d,bx=>Pan d bx
def Ec(P:Program)(nxt:Nat)(rv:List ResultVar)(bG Pan:D->ae->Prop):DX->Env->ae->Prop
 | .normal,σ,bx| .ret,σ,bx=>n9 P nxt (ly (σ cB)) .ret bx (n_ P rv σ bG Pan)
 | .pan d,σ,bx=>n9 P nxt (ly (σ cB)) (.pan d) bx (n_ P rv σ bG Pan)
 |_,_,_=>False
def xF(P:Program)(O:eF)(tab:List (Nat×List (Nat×Nat)))(fn:Func)(base:Nat)(ds:List D)(bx:ae)(bG Pan:D->ae->Prop):Prop:=
 ∃c,fn.body=some c/\codeOk tab fn.ntmps c=true/\Eg fn.results.toList=true/\cD P ⟨O,tab,base,base+fn.ntmps,0,none,true,true⟩ c (Ec P (base+fn.ntmps) fn.results.toList bG Pan) (aR 0 ds) bx
theorem Fh(hm:P.follows .mixedOrders=true){f:FuncId}{fn:Func}{O:eF}{tab:List (Nat×List (Nat×Nat))}{base:Nat}{ds:List D}{bx:ae}{Q Qp:D->ae->Prop}(hf:P.funcs[f]? =some fn)
 (hname:(fn.name== "runtime.NumGoroutine")=false) (hlen:ds.length<=fn.ntmps) (hO:Ok P O) (h:xF P O tab fn base ds bx Q Qp):aU P f base ds bx Q Qp:=by
 obtain⟨c,hb,hok,hrv,hc⟩:=h;obtain⟨hN,hok⟩:fn.ntmps<=cB/\cj tab fn.ntmps c=true:=by simpa[codeOk,cB]using hok
 intro X ρ σ a w vs hS xlo hl hv;refine .inl ⟨Go.MuLone.run_callFunc_enter hf hname hb vs w,callsIn_wide.1 (callsIn_of_wp_marks (F:=Fence.wide) (n:=0) hf hb trivial ?_)⟩;obtain⟨k1,k2⟩:=jH (N:=fn.ntmps) hl hlen hv;have hrec:ly (aR 0 ds cB)=[]:=by
  rw[qg,if_neg oM,List.getElem?_eq_none oM];rfl
 have h0:=hS.sub (E:=fun _=>False) (N:=fn.ntmps) (ml:=w.heap.size) (md:=2) (σ':=aR 0 ds) (a':={tmps:=vs++Array.replicate (fn.ntmps - vs.size) undef,defers:=[]}) hN (fun _ h=>h.elim) k1 (.nil (.inr (.inr hrec))) (Nat.le_refl _) k2;refine cx hm c none 0 ⟨O,tab,base,base+fn.ntmps,0,none,true,true⟩ _ _ _ _ _ _ _ w ⟨hO,Nat.le_refl _,Nat.zero_le _,(fun _ _ _ hk=>by cases hk),(fun _=>rfl),(fun hf=>by have:(2:Nat)=3:=hf;omega),fun hf=>by have:(2:Nat)=3:=hf;omega⟩ (fun l hl=>by cases hl) hok h0 hc fun e e' σ' bx' a' w' ρ' hx hq h'=>?_;have fin:∀m u,MR w' (ay X ρ' bx' w') ρ' m u->vC P (base+fn.ntmps) (ly (σ' cB)) m bx' (n_ P fn.results.toList σ' Q Qp)->
  LeavesInM Fence.wide 0 P fn a'.tmps (fun e w'=>(∃v,e= .returned v/\∃d bx' ρ',Q d bx'/\az X ρ' σ bx' a w'/\aE w' (ay X ρ' bx' w') ρ' d v)\/∃v,e= .panicked [pe v]/\∃d bx' ρ',Qp d bx'/\az X ρ' σ bx' a w'/\aE w' (ay X ρ' bx' w') ρ' d v) a'.defers u w':=by
  intro m u hmu hq;refine sc rfl rfl rfl a'.defers _ m u a' ρ' σ' bx' w' rfl h' rfl hmu hq fun ρ2 σ2 bx2 w2 m2 u2 he h2 hk hm2=>?_;have hback:az X ρ2 σ bx2 a w2:=hS.back rfl rfl h2 (fun _ h=>h.elim) (fun _ h=>h.elim) (fun _ h=>h.elim) (hS.y0 xlo _ _);cases m2 with
  |ret=>
   rw[show u2= .returning from hm2];simp only[n_]at hk;cases hr:fN P σ' bx2 fn.results.toList with
   |none=>rw[hr]at hk;exact hk.elim
   |some rs=>
    rw[hr]at hk;obtain⟨v,g1,g2⟩:=mU h2 (fn:=fn) (by rw[vS he _ hrv];exact hr);exact⟨v,g1,.inl ⟨v,rfl,iG rs,bx2,ρ2,hk,hback,g2⟩⟩
  |pan d=>
   obtain⟨v,hu,hv⟩:=hm2;rw[hu];exact .inr ⟨v,rfl,d,bx2,ρ2,hk,hback,hv⟩
 rcases hx.cases with⟨rfl,rfl⟩|⟨rfl,rfl⟩|⟨_,rfl,rfl⟩|⟨_,rfl,rfl⟩|⟨d,v,rfl,rfl,hv⟩
 ·exact fin .ret _ rfl hq
 ·exact fin .ret _ rfl hq
 ·exact hq.elim
 ·exact hq.elim
 ·exact fin (.pan d) _ ⟨v,rfl,hv⟩ hq
theorem az.fy{ρ2:bN}{σ2:Env}{bx2:ae}{a2:Act}{w2:World}{E:Nat->Prop}{N ml md:Nat}(h:az X ρ σ bx a w)(k:az (X.sub ρ bx w E N ml md) ρ2 σ2 bx2 a2 w2)(hE:∀b,¬E b):∀d v,aE w (ay X ρ bx w) ρ d v->aE w2 (ay X ρ2 bx2 w2) ρ2 d v:=by
 have hlive:∀b,ay X ρ bx w b->¬(X.sub ρ bx w E N ml md).M b:=by
  rintro b hb ⟨t,p,hk,hp,rfl⟩;exact hb.2.2 t hk p hp rfl
 refine fun d v hd=>hd.du (fun b hb o ho hc=>(k.fr.block b hb.1 (fun hm=>?_)).trans ho) (fun b hb=>?_) k.r0
 ·rcases hm with hm|hm
  ·exact hlive b hb hm
  ·have:=k.ec b hm o ho;rw[hc]at this;cases this
 ·refine⟨Nat.lt_of_lt_of_le hb.1 k.fr.size,hb.2.1,fun t ht p hp e=>?_⟩;obtain⟨p',hp',_,_,hpb,_⟩:=k.box t (by rw[ht];decide);rw[hp]at hp';injection hp' with hp';subst hp';rcases hpb.2 ht with h1|h1
  ·have:=hb.1;simp only[Ctx.sub]at h1;omega
  ·exact hlive b hb (e▸h1)
def jx(P:Program):List Oper->Env->ae->Option Env
 |[],σ,_=>some σ
 |o::l,σ,bx=>if o.guard.isSome then none else match bR P σ bx o.op with
  |some v=>jx P l (put σ o.dst v) bx
  |none=>none
def AY(bG:ae->Prop):DX->Env->ae->Prop
 | .normal,_,bx| .ret,_,bx=>bG bx
 |_,_,_=>False
def yK(N:Nat)(l:List Oper):Bool:=l.all fun o=>match o.dst with
 |some d=>decide (d<N)
 |none=>true
def eF.uk(O:eF):eF:=⟨O.to,O.oF,fun _ _ _ _=>False,fun _ _ _ _ _=>False⟩
def rV(P:Program)(O:eF)(tab:List (Nat×List (Nat×Nat)))(fn:Func)(base:Nat)(ds:List D)(bx:ae)(m:RM)(bG:RM->ae->Prop):Prop:=
 fn.results.toList=[]/\((∃c,fn.body=some c/\codeOk tab fn.ntmps c=true/\cD P ⟨O.uk,tab,base,base+fn.ntmps,0,none,false,false⟩ c (AY (bG m)) (aR 0 ds) bx)\/
 (∃id t args ats ty pos af L rest σ',fn.body=some (.seq (.region id (⟨some t,.call {callee:=.builtin .recover,args,argTypes:=ats},ty,pos,af,none⟩::L).toArray false) rest)/\t<fn.ntmps/\yK fn.ntmps L=true/\codeOk tab fn.ntmps rest=true/\
  jx P L (ao (aR 0 ds) t m.val) bx=some σ'/\cD P ⟨O.uk,tab,base,base+fn.ntmps,0,none,false,false⟩ rest (AY (bG .ret)) σ' bx))
theorem Ok.uk{O:eF}(h:Ok P O):Ok P O.uk:=⟨h.to,h.oF,fun _ _ _ _ h=>h.elim,fun _ _ _ _ _ h=>h.elim⟩
theorem sE{ops:Array Oper}{Q:Exit->Act->List Frame->World->Prop}{cs:List Frame}:∀(L pre:List Oper) (σ σ':Env) (a:Act) (ρ:bN) (w:World),ops.toList=pre++L->yK X.N L=true->az X ρ σ bx a w->jx P L σ bx=some σ'->
 (∀ρ' a' w',(∀d v,aE w (ay X ρ bx w) ρ d v->aE w' (ay X ρ' bx w') ρ' d v)->az X ρ' σ' bx a' w'->Q .normal a' cs w')->wpOpsSIn Fence.wide n P ops Q (List.range' pre.length L.length) a cs w
 |[],pre,σ,σ',a,ρ,w,hops,hd,h,hr,hQ=>by
  simp only[jx,Option.some.injEq]at hr;subst hr;exact hQ ρ a w (fun _ _ h=>h) h
 |o::L,pre,σ,σ',a,ρ,w,hops,hd,h,hr,hQ=>by
  simp only[jx]at hr;split at hr
  ·cases hr
  ·rename_i hg;have hg:o.guard=none:=by simpa using hg
   simp only[yK,List.all_cons,Bool.and_eq_true]at hd;split at hr
   ·rename_i v hv;obtain⟨u,w',hrun,hb,hrep⟩:=yo h o hv;have ho:ops[pre.length]? =some o:=by rw[<-Array.getElem?_toList,hops];simp
    have hwant:Region.wanted o (yielded ops a.tmps)=true:=by simp[Region.wanted,hg]
    simp only[List.length_cons,List.range'_succ,wpOpsSIn,ho,hwant,if_true,hrun];refine⟨fun _ _=>trivial,?_⟩;have hx:=h.ext hb;have hS:∀b,ay X ρ bx w b->ay X ρ bx w' b:=fun b hb'=>⟨Nat.lt_of_lt_of_le hb'.1 hb.size,hb'.2⟩
    have hp:az X ρ (put σ o.dst v) bx (a.put o.dst u) w':=hx.put (fun t ht=>by have:=hd.1;rw[ht]at this;simpa using this) hrep;have:=sE (ops:=ops) L (pre++[o]) (put σ o.dst v) σ' (a.put o.dst u) ρ w' (by simp[hops]) hd.2 hp hr (fun ρ' a' w2 h2 h3=>hQ ρ' a' w2 (fun d v hdv=>h2 d v (hdv.mono (fun b hb'=>hb.block b hb'.1) hS (fun _ _ _ h=>h))) h3);simpa using this
   ·cases hr
theorem Fi(hm:P.follows .mixedOrders=true){f:FuncId}{fn:Func}{O:eF}{tab:List (Nat×List (Nat×Nat))}{base:Nat}{ds:List D}{bx:ae}{m:RM}{Q:RM->ae->Prop}(hf:P.funcs[f]? =some fn)
 (hname:(fn.name== "runtime.NumGoroutine")=false) (hlen:ds.length<=fn.ntmps) (hO:Ok P O) (h:rV P O tab fn base ds bx m Q):uL P f base ds bx m Q:=by
 obtain⟨hres,h⟩:=h;intro X ρ σ a w vs u hS xlo hl hv hmu;obtain⟨k1,k2⟩:=jH (N:=fn.ntmps) hl hlen hv;have fin:∀(c₀:Frame) (cs:List Frame) (u':FrameMode) (m':RM) (e:DX) (e':Exit) (σ':Env) (bx':ae) (a':Act) (w':World) (ρ':bN) (E:Nat->Prop),XR w' (ay X ρ' bx' w') ρ' e e'->AY (Q m') e σ' bx'->az (X.sub ρ bx w (fun _=>False) fn.ntmps w.heap.size 3) ρ' σ' bx' a' w'->
  MR w' (ay X ρ' bx' w') ρ' m' (Go.settle u')->
  bodyPostS P fn c₀ cs (fun e u' w'=>∃v,e= .returned v/\∃m' bx' ρ',Q m' bx'/\az X ρ' σ bx' a w'/\MR w' (ay X ρ' bx' w') ρ' m' (Go.settle u')) e' a' ({c₀ with mode:=u'}::cs) w':=by
  intro c₀ cs u' m' e e' σ' bx' a' w' ρ' E hx hq h' hm';have hd:a'.defers=[]:=by
   rcases h'.marks with h3|h3
   ·have:(3:Nat)=1:=h3;omega
   ·exact h3.2 rfl
  obtain⟨v,g1,g2⟩:=mU h' (fn:=fn) (rs:=[]) (by rw[hres];rfl);have hback:az X ρ' σ bx' a w':=hS.back rfl rfl h' (fun _ h=>h.elim) (fun _ h=>h.elim) (fun _ h=>h.elim) (hS.y0 xlo _ _);rcases hx.cases with⟨rfl,rfl⟩|⟨rfl,rfl⟩|⟨_,rfl,rfl⟩|⟨_,rfl,rfl⟩|⟨d,v,rfl,rfl,hv⟩
  ·exact⟨hd,u',rfl,v,g1,v,rfl,m',bx',ρ',hq,hback,hm'⟩
  ·exact⟨hd,u',rfl,v,g1,v,rfl,m',bx',ρ',hq,hback,hm'⟩
  all_goals exact hq.elim
 have hG:Good P ⟨O.uk,tab,base,base+fn.ntmps,0,none,false,false⟩ (X.sub ρ bx w (fun _=>False) fn.ntmps w.heap.size 3):=⟨hO.uk,Nat.le_refl _,Nat.zero_le _,(fun _ _ _ hk=>by cases hk),(fun hf=>by cases hf),(fun _ _ _ _ _ h=>h),fun _ _ _ _ _ _ h=>h⟩
 have hrec:ly (aR 0 ds cB)=[]\/fn.ntmps>cB:=by
  by_cases hN:fn.ntmps>cB
  ·exact .inr hN
  ·refine .inl ?_;rw[qg,if_neg oM,List.getElem?_eq_none oM];rfl
 rcases h with⟨c,hb,hok,hc⟩|⟨id,t,args,ats,ty,pos,af,L,rest,σ1,hb,ht,hL,hok,hrecO,hc⟩
 ·obtain⟨hN,hok⟩:fn.ntmps<=cB/\cj tab fn.ntmps c=true:=by simpa[codeOk,cB]using hok
  have h0:=hS.sub (E:=fun _=>False) (N:=fn.ntmps) (ml:=w.heap.size) (md:=3) (σ':=aR 0 ds) (a':={tmps:=vs++Array.replicate (fn.ntmps - vs.size) undef,defers:=[]}) hN (fun _ h=>h.elim) k1 (.nil (.inr (.inr (hrec.resolve_right oM)))) (Nat.le_refl _) k2;refine⟨Go.MuLone.run_callFunc_enter hf hname hb vs w,callsDIn_of_wpSIn hf hb trivial fun c₀ cs hu=>wpSIn_of_wpIn rfl ?_⟩;refine cx hm c none 0 _ _ _ _ _ _ _ _ w hG (fun l hl=>by cases hl) hok h0 hc fun e e' σ' bx' a' w' ρ' hx hq h'=>?_;subst hu;have hm':MR w' (ay X ρ' bx' w') ρ' m c₀.mode:=hmu.imp (hS.fy h' fun _ hb=>hb.elim);exact fin c₀ cs c₀.mode m e e' σ' bx' a' w' ρ' (fun _=>False) hx hq h' (by rw[hmu.settle];exact hm')
 ·obtain⟨hN,hok⟩:fn.ntmps<=cB/\cj tab fn.ntmps rest=true:=by simpa[codeOk,cB]using hok
  have hp0:ba w (ay X ρ bx w) (.raw .nilIface) .nilIface:=.raw _;have h0:=hS.sub (E:=fun _=>False) (N:=fn.ntmps) (ml:=w.heap.size) (md:=3) (σ':=aR 0 ds) (a':={tmps:=vs++Array.replicate (fn.ntmps - vs.size) undef,defers:=[]}) hN (fun _ h=>h.elim) k1 (.nil (.inr (.inr (hrec.resolve_right oM)))) (Nat.le_refl _) k2;refine⟨Go.MuLone.run_callFunc_enter hf hname hb vs w,callsDIn_of_wpSIn hf hb trivial fun c₀ cs hu=>wpSIn_seq (wpSIn_region ?_)⟩;have hrest:∀(u':FrameMode) (v:Value),Go.settle u'= .returning->aE w (ay X ρ bx w) ρ m.val v->
   wpOpsSIn Fence.wide 0 P (⟨some t,.call {callee:=.builtin .recover,args,argTypes:=ats},ty,pos,af,none⟩::L).toArray (Exit.thenS (rest.wpSIn Fence.wide 0 P (bodyPostS P fn c₀ cs (fun e u' w'=>∃v,e= .returned v/\∃m' bx' ρ',Q m' bx'/\az X ρ' σ bx' a w'/\MR w' (ay X ρ' bx' w') ρ' m' (Go.settle u')))) (bodyPostS P fn c₀ cs (fun e u' w'=>∃v,e= .returned v/\∃m' bx' ρ',Q m' bx'/\az X ρ' σ bx' a w'/\MR w' (ay X ρ' bx' w') ρ' m' (Go.settle u'))))
    (List.range' 1 L.length) (({tmps:=vs++Array.replicate (fn.ntmps - vs.size) undef,defers:=[]}:Act).put (some t) v) ({c₀ with mode:=u'}::cs) w:=by
   intro u' v hu' hv';have hp:=h0.put (dst:=some t) (d:=m.val) (v:=v) (fun t' ht'=>by injection ht' with ht';subst ht';exact ht) hv';refine sE L [⟨some t,.call {callee:=.builtin .recover,args,argTypes:=ats},ty,pos,af,none⟩] _ σ1 _ ρ w sI hL hp hrecO fun ρ2 a2 w2 _ h2=>?_;refine wpSIn_of_wpIn rfl ?_;refine cx hm rest none 0 _ _ _ _ _ _ _ _ w2 hG (fun l hl=>by cases hl) hok h2 hc fun e e' σ' bx' a' w' ρ' hx hq h'=>?_;exact fin c₀ cs u' .ret e e' σ' bx' a' w' ρ' (fun _=>False) hx hq h' hu'
  have hops:(⟨some t,.call {callee:=.builtin .recover,args,argTypes:=ats},ty,pos,af,none⟩::L).toArray[0]? =some (⟨some t,.call {callee:=.builtin .recover,args,argTypes:=ats},ty,pos,af,none⟩:Oper):=by simp
  have hrun:∀(ev:Operand->Value),(execOp ev (⟨some t,.call {callee:=.builtin .recover,args,argTypes:=ats},ty,pos,af,none⟩:Oper)).run P w= .ok .recover w:=fun ev=>by simp[execOp,resolve,invoke,builtin]
  have hr1:List.range (⟨some t,.call {callee:=.builtin .recover,args,argTypes:=ats},ty,pos,af,none⟩::L).toArray.size=0::List.range' 1 L.length:=by simp[List.range_eq_range',List.range'_succ]
  rw[hr1];simp only[wpOpsSIn,hops,hrun,Region.wanted,if_true];refine⟨fun _ _=>trivial,?_⟩;cases m with
  |ret=>
   have hu':u= .returning:=hmu;have:recoverD (c₀::cs)=none:=by simp[recoverD,hu,hu']
   simp only[this];have:=hrest c₀.mode .nilIface (by rw[hu,hu'];rfl) (.pure (.raw _));exact this
  |pan d=>
   obtain⟨v,hu',hv'⟩:=hmu;have:recoverD (c₀::cs)=some (v,{c₀ with mode:=.panicking [{v,recovered:=true}]}::cs):=by simp[recoverD,hu,hu',pe]
   simp only[this];exact hrest (.panicking [{v,recovered:=true}]) v rfl hv'
theorem aU.to{f:FuncId}{ds:List D}{d:D}{Q Qp:D->ae->Prop}(h:aU P f 0 ds (fun _=> .none) Q Qp)(hp:∀d bx,¬Qp d bx)(hQ:∀d' bx',Q d' bx'->∃r,bf bx' d'=some r/\bk r d):aq P f ds d:=by
 intro w S vs hS hglo hl hv;let X0:Ctx:=⟨w,S,w.heap.size,fun _=>False,fun _=>False,0,⟨fun _ _=>none,fun _=>none⟩,w.heap.size,0,fun _ _=>True,0⟩
 have h0:az X0 ⟨fun _ _=>none,fun _=>none⟩ (fun _=> .raw undef) (fun _=> .none) {tmps:= #[],defers:=[]} w:=
  ⟨.refl _ _,hS,Nat.le_refl _,fun _ h=>h.elim,fun _ h=>h.elim,rfl,.nil (.inl rfl),Nat.zero_le _,Nat.le_refl _,fun t=>by rw[show(#[]:Array Value).getD t undef=undef from by simp[Array.getD]];exact aE.pure (.raw _),.pure (hglo.mono (fun _ _=>rfl) (fun b hb=>⟨hS b hb,.inl hb,fun t ht=>by simp[Bx.none]at ht⟩)),fun t ht=>absurd rfl ht.1,fun t t' p p' ht=>by simp[Bx.none]at ht,(fun t e p hp=>by cases hp),(fun t e p hp=>by cases hp),(fun t e hp=>by cases hp),(fun t e hp=>by cases hp),fun _ _ _ _ _=>trivial,trivial,fun _ _ _=>trivial,(fun t e hp=>by cases hp),⟨fun t ht=>by simp[Bx.none]at ht,fun t t' p p' ht=>by simp[Bx.none]at ht⟩⟩
 have hr:=h _ _ _ _ w vs h0 rfl hl (fun i x v hx hv'=> .pure ((hv i x v hx hv').mono (fun _ _=>rfl) (fun b hb=>⟨hS b hb,.inl hb,fun t ht=>by simp[Bx.none]at ht⟩)));have fin:∀v w',(∃d bx' ρ',Q d bx'/\az X0 ρ' (fun _=> .raw undef) bx' {tmps:= #[],defers:=[]} w'/\aE w' (ay X0 ρ' bx' w') ρ' d v)->Go.V.bG w S d v w':=by
  rintro v w' ⟨d',bx',ρ',hq,g1,g3⟩;obtain⟨r,ho,hw⟩:=hQ d' bx' hq;refine⟨aE.pF hw (jO g1 _ _ v ⟨fun b hb=>?_,fun t _ hk p hp=>?_⟩ g3 ho),?_⟩
  ·rcases hb.2.1 with h1|h1
   ·exact .inl h1
   ·exact .inr ⟨h1,hb.1⟩
  ·obtain⟨p',hp',_,_,hpb,hh⟩:=g1.box t hk;rw[hp]at hp';injection hp' with hp';subst hp';exact .inr ⟨hpb.1,hh.lt⟩
  ·exact⟨g1.fr.os,g1.fr.tape,g1.fr.output,g1.fr.size,fun k hk=>g1.fr.block k hk (fun hm=>hm.elim id id)⟩
 rcases hr with⟨k1,k2⟩|⟨v,w',k1,k2⟩
 ·refine .inl ⟨k1,Calls.mono k2 ?_⟩;rintro e w' (⟨v,rfl,hg⟩|⟨v,rfl,d',bx',ρ',hq,_⟩)
  ·exact⟨v,rfl,fin v w' hg⟩
  ·exact absurd hq (hp _ _)
 ·exact .inr ⟨v,w',k1,fin v w' k2⟩
section
variable {Q:DX->Env->ae->Prop} {bG Pan:D->ae->Prop} {nxt:Nat} {K:RM->ae->Prop}
@[go_sem ↓] theorem TE(rv:List ResultVar):Ec P nxt rv bG Pan .ret σ bx=n9 P nxt (ly (σ cB)) .ret bx (n_ P rv σ bG Pan):=ax
@[go_sem ↓] theorem TD(rv:List ResultVar)(d:D):Ec P nxt rv bG Pan (.pan d) σ bx=n9 P nxt (ly (σ cB)) (.pan d) bx (n_ P rv σ bG Pan):=ax
@[go_sem ↓] theorem NP(bG:ae->Prop):AY bG .normal σ bx=bG bx:=ax
@[go_sem] theorem U_(n:Nat)(h:n<1000000000):(cB=n)=False:=by simp only[cB];exact eq_false oM
@[go_sem] theorem Vd(n:Nat)(h:n<1000000000):(n=cB)=False:=by simp only[cB];exact eq_false oM
def zB(d:D)(f:D->Prop)(_:Tok (f .undef):=⟨⟩):Prop:=match d with
 | .fn (.func g) caps=>f (.fn (.func g) caps)
 |_=>False
@[go_sem] theorem P8(g:Nat)(caps:List D)(f:D->Prop):zB (.fn (.func g) caps) f=f (.fn (.func g) caps):=ax
@[go_sem ↓] theorem NV{dst:Option Tmp}{ty:TypeId}{pos:String}{af:Array Edge}{g:Option (Nat×Bool)}{K1:Cl->Env->ae->Prop}(fo:Operand)(l:List Operand)(ats:Array TypeId):aZ P C ⟨dst,.defer {callee:=.value fo,args:=l.toArray,argTypes:=ats},ty,pos,af,g⟩ σ bx K1=(C.df=true/\zB (ev σ fo) fun fv=>K1 .n (put (ao σ cB (vP (σ cB) fv (l.map (ev σ)))) dst (.raw undef)) bx):=by
 simp only[aZ,zB];cases ev σ fo with
 |fn f caps=>cases f<;>rfl
 |_=>rfl
@[go_sem] theorem Tu(l:List D):ly (.any l)=l:=ax
@[go_sem] theorem QT(v:Value)(f:D)(args:List D):vP (.raw v) f args= .any [.tup (f::args)]:=ax
@[go_sem] theorem OJ(m:RM):n9 P nxt [] m bx K=K m bx:=ax
@[go_sem] theorem OK(rv:List ResultVar):n_ P rv σ bG Pan .ret bx=aI (fN P σ bx rv) fun rs=>bG (iG rs) bx:=ax
@[go_sem] theorem U2:RM.val .ret= .raw .nilIface:=ax
@[go_sem] theorem U1(d:D):RM.val (.pan d)=d:=ax
theorem fJ{f:FuncId}{caps args l:List D}{m:RM}(Q:RM->ae->Prop)(h:uL P f nxt (args++caps) bx m Q)(hk:∀m' bx',Q m' bx'->n9 P nxt l m' bx' K):n9 P nxt (.tup (.fn (.func f) caps::args)::l) m bx K:=⟨Q,h,hk⟩
@[go_sem] theorem OZ:jx P [] σ bx=some σ:=ax
def H0(P:Program)(l:List Oper)(σ:Env)(bx:ae)(dst:Option Tmp):Option D->Option Env
 |some v=>jx P l (put σ dst v) bx
 |none=>none
@[go_sem] theorem QU(l:List Oper)(dst:Option Tmp)(v:D):H0 P l σ bx dst (some v)=jx P l (put σ dst v) bx:=ax
@[go_sem] theorem NM(dst:Option Tmp)(op:Op)(ty:TypeId)(pos:String)(af:Array Edge)(l:List Oper):jx P (⟨dst,op,ty,pos,af,none⟩::l) σ bx=H0 P l σ bx dst (bR P σ bx op):=by simp only[jx,H0,Option.isSome_none,Bool.false_eq_true,if_false]
@[go_sem] theorem N4(x:Operand):bR P σ bx (.assign x)=some (ev σ x):=ax
@[go_sem] theorem Rj(x:Operand):bR P σ bx (.move x)=some (ev σ x):=ax
end
theorem my{O:eF}{tab:List (Nat×List (Nat×Nat))}{fn:Func}{base:Nat}{ds:List D}{bx:ae}{bG Pan:D->ae->Prop}(c:Code)(rv:List ResultVar)(n:Nat)(hc:fn.body=some c)(hr:fn.results=rv.toArray)(hn:fn.ntmps=n)(hok:codeOk tab n c=true)(hrv:Eg rv=true)
 (h:cD P ⟨O,tab,base,base+n,0,none,true,true⟩ c (Ec P (base+n) rv bG Pan) (aR 0 ds) bx):xF P O tab fn base ds bx bG Pan:=by
 subst hn;refine⟨c,hc,hok,by rw[hr];simpa using hrv,?_⟩;rw[hr];simpa using h
theorem iv{O:eF}{tab:List (Nat×List (Nat×Nat))}{fn:Func}{base:Nat}{ds:List D}{bx:ae}{m:RM}{bG:RM->ae->Prop}{id t:Nat}{args:Array Operand}{ats:Array TypeId}{ty:TypeId}{pos:String}{af:Array Edge}(L:List Oper)(rest:Code)(n:Nat)(hc:fn.body=some (.seq (.region id (⟨some t,.call {callee:=.builtin .recover,args,argTypes:=ats},ty,pos,af,none⟩::L).toArray false) rest))(hr:fn.results= #[])(hn:fn.ntmps=n)
 (hd:(decide (t<n)&&yK n L)=true) (hok:codeOk tab n rest=true) (σ':Env)
 (ho:jx P L (ao (aR 0 ds) t m.val) bx=some σ') (h:cD P ⟨O.uk,tab,base,base+n,0,none,false,false⟩ rest (AY (bG .ret)) σ' bx):rV P O tab fn base ds bx m bG:=by
 subst hn;simp only[Bool.and_eq_true,decide_eq_true_eq]at hd;exact⟨by rw[hr],.inr ⟨id,t,args,ats,ty,pos,af,L,rest,σ',hc,hd.1,hd.2,hok,ho,h⟩⟩
@[go_sem ↓] theorem NG:isNil (.const (.slice none 0 0))=false:=ax
@[go_sem] theorem Oo(t e:Nat):(D.omap t e).cells=[.omap t e]:=ax
attribute [go_sem] reduceIte Nat.reduceMul Nat.reduceEqDiff Nat.reduceAdd Nat.reduceLeDiff Nat.reduceLT Nat.reduceSub Int.reduceLT Int.reduceLE Int.reduceEq Int.reduceToNat Option.map_some List.length_map List.getElem?_map Int.toNat_natCast
section
variable {P:Program} {Q:DX->Env->ae->Prop} {σ:Env} {bx:ae} {o:eF} {b n lo:Nat} {yl:Option (List (List D)×Nat×Nat)} {pn df:Bool}
@[go_sem ↓ high] theorem Ll(id:Nat)(l:List Oper):cD P ⟨o,[],b,n,lo,yl,pn,df⟩ (.region id l.toArray false) Q σ bx=ku P ⟨o,[],b,n,lo,yl,pn,df⟩ l l [] σ bx fun acc σ' bx'=>pE Q acc σ' bx':=by simp[cD,cR,sk,jN]
end
end Go.V
