/- Plain laws: VD. -/
import Derived.Test.YtkgloohlmogakaaGreatDoorVt
import Derived.Test.YtkgloohlmogakaaGreatDoorVC
import Derived.RecoverIn
set_option linter.all false
set_option maxHeartbeats 8000000
namespace Go.V
open Go.Proofs Go.RowKit
variable {P:Program} {C:Calc} {Q:DX->Env->ae->Prop} {σ:Env} {bx:ae}
theorem Df{full:List Oper}{K K':List Cl->Env->ae->Prop}(h:∀acc σ bx,K acc σ bx->K' acc σ bx){ps:List (Nat×Nat)}:∀ {l:List Oper} {i:Nat} {acc:List Cl} {σ:Env} {bx:ae},sX P C full ps i l acc σ bx K->sX P C full ps i l acc σ bx K'
 |[],i,acc,σ,bx,hs=>h _ _ _ hs
 |o::rest,i,acc,σ,bx,hs=>by
  simp only[sX]at hs⊢;exact ca (fun s=>pL fun r7 σ' bx' hk=>by
   unfold vG at hk⊢;split at hk
   ·exact h _ _ _ hk
   ·exact Df h hk) hs
theorem OC{full:List Oper}{K K':List Cl->Env->ae->Prop}(h:∀acc σ bx,K acc σ bx->K' acc σ bx){ps:List (Nat×Nat)}{l:List Oper}{acc:List Cl}{σ:Env}{bx:ae}(hs:zo P C full ps l acc σ bx K):zo P C full ps l acc σ bx K':=by
 cases ps with
 |nil=>exact pL h hs
 |cons p ps=>exact Df h hs
theorem Tq{c:Code}:∀ {C:Calc} {Q Q':DX->Env->ae->Prop} {σ:Env} {bx:ae},(∀e σ bx,Q e σ bx->Q' e σ bx)->cR P C c Q σ bx->cR P C c Q' σ bx:=by
 induction c with
 |skip=>intro C Q Q' σ bx h hs;exact h _ _ _ hs
 |region id ops draw=>
  intro C Q Q' σ bx h hs;cases draw
  ·exact OC (fun acc _ _ hk=>by
    unfold vH at hk⊢;split at hk<;>exact h _ _ _ hk) hs
  ·simp only[cR]at hs⊢;split at hs
   ·rename_i hd;rw[if_pos hd];exact wQ (fun d bx hp σ=>h _ _ _ (hp σ)) (fun _ _=>h _ _ _) hs
   ·rename_i hd;rw[if_neg hd];exact pL (fun _ _ _ hk=>⟨hk.1,h _ _ _ hk.2⟩) hs
 |seq a b iha ihb=>
  intro C Q Q' σ bx h hs;refine iha (fun e σ bx he=>?_) hs;cases e<;>first|exact ihb h he|exact h _ _ _ he
 |cond c x y ihx ihy=>
  intro C Q Q' σ bx h hs;simp only[cR]at hs⊢;unfold Cu iE at hs⊢;split at hs
  ·split at hs
   ·rename_i h1;simp only[h1,if_true];exact ihx h hs
   ·rename_i h1;simp only[h1];exact ihy h hs
  ·exact⟨ihx h hs.1,ihy h hs.2⟩
  ·exact hs.elim
 |block id c ih=>
  intro C Q Q' σ bx h hs;refine ih (fun e σ bx he=>?_) hs;cases e with
  |exit Fh=>
   simp only[rA]at he⊢;split at he
   ·rename_i h1;rw[if_pos h1];exact h _ _ _ he
   ·rename_i h1;rw[if_neg h1];exact h _ _ _ he
  |_=>exact h _ _ _ he
 |loop c ih=>
  intro C Q Q' σ bx h hs;obtain⟨I,μ,h0,h1⟩:=hs;refine⟨I,μ,h0,fun σ bx hi=>let ⟨bx0,hm,hb⟩:=h1 σ bx hi;⟨bx0,hm,ih (fun e σ bx he=>?_) hb⟩⟩;cases e<;>first|exact he|exact h _ _ _ he
 |rangeFunc g ps a b iha ihb=>
  intro C Q Q' σ bx h hs;have round:∀ {ext:Nat} {J:Nat->ae->Prop} {n:Nat} {it:List D} {bx1:ae},cR P ⟨C.o,C.tab,C.base,C.bk+ext,C.lo,C.yl,false,false⟩ a (dM (cR P ⟨C.o,C.tab,C.base,C.bk+ext,C.lo,C.yl,false,false⟩ b (qo C.bk ext J n Q σ bx1)) Fv) (kC σ ps.toList it) bx1->
   cR P ⟨C.o,C.tab,C.base,C.bk+ext,C.lo,C.yl,false,false⟩ a (dM (cR P ⟨C.o,C.tab,C.base,C.bk+ext,C.lo,C.yl,false,false⟩ b (qo C.bk ext J n Q' σ bx1)) Fv) (kC σ ps.toList it) bx1:=by
   intro ext J n it bx1 k2;refine iha (fun e σ bx he=>?_) k2;cases e with
   |normal=>
    refine ihb (fun e σ bx he=>?_) he;obtain⟨m1,m2⟩:=he;refine⟨m1,?_⟩;cases e with
    |ret=>exact fun bK hb=>h _ _ _ (m2 bK hb)
    |exit id=>exact fun bK hb=>h _ _ _ (m2 bK hb)
    |_=>exact m2
   |_=>exact he
  obtain⟨h1,h2,⟨f,caps,items,ext,g1,g2,g3,J,j0,jr,jq⟩|⟨f,t,e,bb,items,pd,ext,g1,g2,g3,g4,J,j0,jr,jq⟩⟩:=hs
  ·exact⟨h1,h2,.inl ⟨f,caps,items,ext,g1,g2,g3,J,j0,fun n it bx1 hi hj=>⟨(jr n it bx1 hi hj).1,round (jr n it bx1 hi hj).2⟩,fun bx1 hj=>h _ _ _ (jq bx1 hj)⟩⟩
  ·refine⟨h1,h2,.inr ⟨f,t,e,bb,items,pd,ext,g1,g2,g3,g4,J,j0,fun n it bx1 hi hj=>⟨(jr n it bx1 hi hj).1,round (jr n it bx1 hi hj).2⟩,fun bx1 hj=>?_⟩⟩;have:=jq bx1 hj;cases pd<;>exact h _ _ _ this
 |scope c ih=>
  intro C Q Q' σ bx h hs;refine ih (fun e σ bx he=>?_) hs;cases e<;>first|exact he|exact h _ _ _ he
 |exit id=>intro C Q Q' σ bx h hs;exact h _ _ _ hs
 |ret=>intro C Q Q' σ bx h hs;exact h _ _ _ hs
 |label l=>intro C Q Q' σ bx h hs;exact h _ _ _ hs
 |_=>intro C Q Q' σ bx h hs;exact hs.elim
def lL{c:Code}{Q':DX->Env->ae->Prop}(h:∀e σ bx,Q e σ bx->Q' e σ bx)(hs:cD P C c Q σ bx):cD P C c Q' σ bx:=Tq h hs
noncomputable def vB(p:Nat->Prop):Nat->Nat
 |0=>0
 |n+1=>@ite _ (p (n+1)) (Classical.propDecidable _) (n+1) (vB p n)
theorem D4(p:Nat->Prop):∀n,vB p n<=n
 |0=>Nat.le_refl _
 |n+1=>by
  unfold vB;split
  ·exact Nat.le_refl _
  ·exact Nat.le_succ_of_le (D4 p n)
theorem vP(p:Nat->Prop):∀n k,k<=n->p k->p (vB p n)/\k<=vB p n
 |0,k,hk,h=>by
  obtain rfl:k=0:=oM;exact⟨h,Nat.le_refl _⟩
 |n+1,k,hk,h=>by
  unfold vB;split
  ·rename_i h1;exact⟨h1,hk⟩
  ·rename_i h1;by_cases N9:k=n+1
   ·subst N9;exact absurd h h1
   ·exact vP p n k oM h
def bo{c:Code}(n:Nat)(I:Nat->Env->ae->Prop)(h0:I 0 σ bx)
 (hk:∀k σ bx,k<n->I k σ bx->cD P C c (dM (fun σ' bx'=>I (k+1) σ' bx') Q) σ bx)
 (hn:∀σ bx,I n σ bx->cD P C c (dM (fun _ _=>False) Q) σ bx):cD P C (.loop c) Q σ bx:=by
 refine JL (fun σ bx=>∃k,k<=n/\I k σ bx) (fun σ bx=>n - vB (fun k=>I k σ bx) n) ⟨0,Nat.zero_le _,h0⟩ ?_;rintro σ bx ⟨k,N9,hi⟩;obtain⟨g1,g2⟩:=vP (fun k=>I k σ bx) n k N9 hi;have g3:=D4 (fun k=>I k σ bx) n;generalize vB (fun k=>I k σ bx) n=m at g1 g2 g3⊢;have mono:∀(K K':Env->ae->Prop),(∀σ bx,K σ bx->K' σ bx)->cD P C c (dM K Q) σ bx->cD P C c (dM K' Q) σ bx:=fun K K' hK h=>lL (fun e σ bx he=>by cases e<;>first|exact hK _ _ he|exact he) h;by_cases hm:m<n
 ·refine mono _ _ (fun σ' bx' h'=>?_) (hk m σ bx hm g1);obtain⟨q1,q2⟩:=vP (fun k=>I k σ' bx') n (m+1) oM h';exact⟨⟨m+1,by omega,h'⟩,by omega⟩
 ·obtain rfl:m=n:=oM;exact mono _ _ (fun _ _ h'=>h'.elim) (hn σ bx g1)
def Ac{c:Code}(n:Nat)(I:Nat->Env->ae->Prop)(h0:I 0 σ bx)
 (hk:∀k σ bx,k<n->I k σ bx->∃bx0,Pm C bx bx0/\cD P C c (dM (fun σ' bx'=>I (k+1) σ' bx') Q) σ bx0)
 (hn:∀σ bx,I n σ bx->∃bx0,Pm C bx bx0/\cD P C c (dM (fun _ _=>False) Q) σ bx0):cD P C (.loop c) Q σ bx:=by
 refine⟨fun σ bx=>∃k,k<=n/\I k σ bx,fun σ bx=>n - vB (fun k=>I k σ bx) n,⟨0,Nat.zero_le _,h0⟩,?_⟩;rintro σ bx ⟨k,N9,hi⟩;dsimp only;obtain⟨g1,g2⟩:=vP (fun k=>I k σ bx) n k N9 hi;have g3:=D4 (fun k=>I k σ bx) n;generalize vB (fun k=>I k σ bx) n=m at g1 g2 g3⊢;have mono:∀(K K':Env->ae->Prop) (bx:ae),(∀σ bx,K σ bx->K' σ bx)->cD P C c (dM K Q) σ bx->cD P C c (dM K' Q) σ bx:=fun K K' bx hK h=>lL (fun e σ bx he=>by cases e<;>first|exact hK _ _ he|exact he) h;by_cases hm:m<n
 ·obtain⟨bx0,uO,qC⟩:=hk m σ bx hm g1;refine⟨bx0,uO,mono _ _ _ (fun σ' bx' h'=>?_) qC⟩;obtain⟨q1,q2⟩:=vP (fun k=>I k σ' bx') n (m+1) oM h';exact⟨⟨m+1,by omega,h'⟩,by omega⟩
 ·obtain rfl:m=n:=oM;obtain⟨bx0,uO,qC⟩:=hn σ bx g1;exact⟨bx0,uO,mono _ _ _ (fun _ _ h'=>h'.elim) qC⟩
def aE{k:Nat}(h:k<9223372036854775807):IntKind.i64.wrap ((k:Int)+1)=((k+1:Nat):Int):=by rw[wrap_i64 oM oM];rfl
end Go.V
namespace Go.V
open Go.RowKit
variable {P:Program} {X:Ctx} {ρ ρ':cQ} {σ:Env} {bx:ae} {a:Act} {w:World} {s e s' e':Nat} {S:Nat->Prop} {d:D} {v:Value}
theorem bj.yg{f:FuncId}{base:Nat}{ds:List D}{Q Q' Qp:D->ae->Prop}(h:bj P f base ds bx Q Qp)
 (hq:∀d bx',Q d bx'->Q' d bx'\/∃s s' oV,s≠s'/\(bx' s).k=1/\(bx' s').k=0/\Q' d (jD s s' oV bx')):bj P f base ds bx Q' Qp:=by
 intro X ρ σ a w vs hS bH hl hv;have fin:∀v w',(∃d bx' ρ',Q d bx'/\aA X ρ' σ bx' a w'/\aJ w' (az X ρ' bx' w') ρ' d v)->∃d bx' ρ',Q' d bx'/\aA X ρ' σ bx' a w'/\aJ w' (az X ρ' bx' w') ρ' d v:=by
  rintro v w' ⟨d,bx',ρ',h1,h2,h3⟩;rcases hq d bx' h1 with h1|⟨s,s',oV,k1,k2,k3,k4⟩
  ·exact⟨d,bx',ρ',h1,h2,h3⟩
  ·obtain⟨ρ2,g1,g2⟩:=h2.rename bH k1 k2 k3 oV;exact⟨d,_,ρ2,k4,g1,g2 d v h3⟩
 exact(h X ρ σ a w vs hS bH hl hv).mono fin fun _ _ h=>h
theorem bj.mono{f:FuncId}{base:Nat}{ds:List D}{Q Q' Qp Qp':D->ae->Prop}(h:bj P f base ds bx Q Qp)(hq:∀d bx',Q d bx'->Q' d bx')(hp:∀d bx',Qp d bx'->Qp' d bx'):bj P f base ds bx Q' Qp':=
 fun X ρ σ a w vs hS bH hl hv=>(h X ρ σ a w vs hS bH hl hv).mono (fun v w' ⟨d,bx',ρ',h1,h2⟩=>⟨d,bx',ρ',hq _ _ h1,h2⟩) (fun v w' ⟨d,bx',ρ',h1,h2⟩=>⟨d,bx',ρ',hp _ _ h1,h2⟩)
def aD{α:Type}{σ:Nat->α}{t:Nat}{v:α}{x:Nat}(h:x≠t):aj σ t v x=σ x:=by simp[aj,h]
def ky{n s:Nat}(h:s<n):bU n bx s=bx s:=by simp[bU,h]
theorem aS.cut{ts:List Nat}{el esz n:Nat}{x:D}{xs:List D}(h:aS bx ts el esz x xs)(hn:∀t,t∈ts->t<n):aS (bU n bx) ts el esz x xs:=h.of fun t ht=>ky (hn t ht)
theorem aS.Az{ts:List Nat}{el esz n:Nat}{x:D}{xs:List D}(h:aS (bU n bx) ts el esz x xs)(hn:∀t,t∈ts->t<n):aS bx ts el esz x xs:=h.of fun t ht=>(ky (hn t ht)).symm
theorem aS.facts{ts:List Nat}{el esz:Nat}{x:D}{xs:List D}(h:aS bx ts el esz x xs):x.cells=[x]/\x.one=true/\∀c,fl x 0 [c]=some c:=by rcases h with⟨rfl,rfl⟩|⟨t,e,_,rfl,hb⟩<;>exact⟨rfl,rfl,fun c=>by simp[fl,D.cells]⟩
def DS(bx:ae)(s el esz:Nat)(x:D)(xs:List D):Prop:=
 (x= .aq/\xs=[]/\(bx s).k=0)\/∃e,x= .bp s e esz 0 xs.length/\bx s=⟨e,1,esz,el,xs⟩
theorem DS.nil{s el esz:Nat}(h:(bx s).k=0):DS bx s el esz .aq []:=.inl ⟨rfl,rfl,h⟩
theorem DS.of{bx':ae}{s el esz:Nat}{x:D}{xs:List D}(h:DS bx s el esz x xs)(hb:bx' s=bx s):DS bx' s el esz x xs:=by unfold DS;rw[hb];exact h
theorem aS.out{ts:List Nat}{el esz:Nat}{x:D}{xs:List D}(h:aS bx ts el esz x xs)(hp:D.aF xs=true):∃r,bD bx x=some r/\bN r (.sl esz xs):=by
 rcases h with⟨rfl,rfl⟩|⟨t,e,_,rfl,hb⟩
 ·exact⟨_,xi,.nil _⟩
 ·exact⟨_,by rw[ma,hb];exact ej _ _ _ _ _ _ (by decide) rfl hp,.refl _⟩
theorem ao.uy{f:FuncId}{ds ds':List D}{d:D}(h:ao P f ds d)(hl:ds'.length=ds.length)(hw:∀(i:Nat) x x',ds'[i]? =some x->ds[i]? =some x'->bN x x'):ao P f ds' d:=by
 intro w S vs hS hg hn hv;refine h w S vs hS hg (hn.trans hl) fun i x v hx aX=>?_;have hi:i<ds'.length:=by rw[hl];exact(gS.1 hx).1
 exact aJ.uy (hw i _ x (gE hi) hx) (hv i _ v (gE hi) aX)
theorem ao.Ti{f:FuncId}{x x':D}{d:D}(h:ao P f [x'] d)(hw:bN x x'):ao P f [x] d:=by
 refine h.uy rfl fun i a b ha hb=>?_
 match i with
 |0=>simp at ha hb;subst ha;subst hb;exact hw
 |i+1=>simp at ha
theorem ao.Tj{f:FuncId}{x x' y y':D}{d:D}(h:ao P f [x',y'] d)(hw:bN x x')(hZ:bN y y'):ao P f [x,y] d:=by
 refine h.uy rfl fun i a b ha hb=>?_
 match i with
 |0=>simp at ha hb;subst ha;subst hb;exact hw
 |1=>simp at ha hb;subst ha;subst hb;exact hZ
 |i+2=>simp at ha
def wG{lo:Nat}{T:TypeId->TI}{e esz b size d:Nat}{ag ag':Bool}{z:List D}{x:D}{xs ys:List D}{K2:D×ae->Prop}(hx:aS bx [d] e esz x xs)(hz:(T e).zero.length=esz)
 (h1:(xs.length+ys.length) * b<=140737488355328) (h2:0<esz) (h3:0<b) (bH:lo<=d)
 (hk:∀x' bx',aS bx' [d] e esz x' (xs++ys)->(∀s,s≠d->bx' s=bx s)->K2 (x',bx')):
 aM (fN lo T ⟨.slice e esz b ag,size,ag',z⟩ (some d) bx x ys) K2:=by
 by_cases hy:ys=[]
 ·subst hy;exact iD hx (hk _ _ (by simpa using hx) fun _ _=>rfl)
 ·refine eJ hx hy hz h1 h2 h3 (fun t ht=>by simp at ht;subst ht;exact bH) fun e' bx' hb hf=>hk _ _ ?_ fun s hs=>hf s hs (by simpa using hs);exact aS.mk sI hb
theorem lk{a b a' b':D}(h1:bN a a')(h2:bN b b'):bN (.aI [a,b]) (.aI [a',b']):=by
 refine .aI rfl fun i x x' hx dQ=>?_
 match i with
 |0=>simp at hx dQ;subst hx;subst dQ;exact h1
 |1=>simp at hx dQ;subst hx;subst dQ;exact h2
 |i+2=>simp at hx
end Go.V
namespace Go.V
open Go.RowKit
variable {P:Program} {C:Calc} {X:Ctx} {ρ:cQ} {σ:Env} {bx:ae} {a:Act} {w:World} {n:Nat}
inductive RM where
 |ret
 |cX (d:D)
def RM.val:RM->D
 | .ret=> .raw .nilIface
 | .cX d=>d
def MR(w:World)(S:Nat->Prop)(ρ:cQ):RM->FrameMode->Prop
 | .ret,u=>u= .returning
 | .cX d,u=>∃v,u= .panicking [pe v]/\aJ w S ρ d v
theorem MR.imp{w w':World}{S S':Nat->Prop}{ρ ρ':cQ}{m:RM}{u:FrameMode}(h:MR w S ρ m u)(hr:∀d v,aJ w S ρ d v->aJ w' S' ρ' d v):MR w' S' ρ' m u:=by
 cases m with
 |ret=>exact h
 |cX d=>obtain⟨v,h1,h2⟩:=h;exact⟨v,h1,hr _ _ h2⟩
theorem MR.ne{w:World}{S:Nat->Prop}{ρ:cQ}{m:RM}{u:FrameMode}(h:MR w S ρ m u):u≠ .run:=by
 cases m with
 |ret=>rw[show u= .returning from h];simp
 |cX d=>obtain⟨v,h1,_⟩:=h;rw[h1];simp
theorem MR.settle{w:World}{S:Nat->Prop}{ρ:cQ}{m:RM}{u:FrameMode}(h:MR w S ρ m u):settle u=u:=by
 cases m with
 |ret=>rw[show u= .returning from h];rfl
 |cX d=>obtain⟨v,h1,_⟩:=h;rw[h1];rfl
def Cc(P:Program)(f:FuncId)(base:Nat)(ds:List D)(bx:ae)(m:RM)(Q:RM->ae->Prop):Prop:=
 ∀(X:Ctx) (ρ:cQ) (σ:Env) (a:Act) (w:World) (vs:Array Value) (u:FrameMode),aA X ρ σ bx a w->X.lo=0->vs.size=ds.length->(∀(i:Nat) x v,ds[i]? =some x->vs[i]? =some v->aJ w (az X ρ bx w) ρ x v)->MR w (az X ρ bx w) ρ m u->
  (callFunc f vs).run P w= .ok (.enter f vs) w/\CallsDIn Fence.wide 0 P f vs u w fun e u' w'=>∃v,e= .returned v/\∃m' bx' ρ',Q m' bx'/\aA X ρ' σ bx' a w'/\MR w' (az X ρ' bx' w') ρ' m' (Go.settle u')
def C9(P:Program)(bk:Nat):List D->RM->ae->(RM->ae->Prop)->Prop
 |[],m,bx,K=>K m bx
 | .aI (.fn (.func f) caps::args)::l,m,bx,K=>∃Q,Cc P f bk (args++caps) bx m Q/\∀m' bx',Q m' bx'->C9 P bk l m' bx' K
 |_::_,_,_,_=>False
def tZ(P:Program)(bk:Nat)(l:List D)(m:RM)(bx:ae)(K:RM->ae->Prop)(_:Tok (K m bx):=⟨⟩):Prop:=C9 P bk l m bx K
theorem CallsDIn.aaj{F:Fence}{f:FuncId}{args:Array Value}{u:FrameMode}{R R':Ending->FrameMode->World->Prop}(h:CallsDIn F n P f args u w R)(hi:∀e u w,R e u w->R' e u w):CallsDIn F n P f args u w R':=by
 refine⟨h.1,fun c cs hu hr=>?_⟩;obtain⟨e,u',w',fr,g1,g2⟩:=h.2 c cs hu hr;exact⟨e,u',w',fr,hi _ _ _ g1,g2⟩
theorem zg{fn:Func}{bk:Nat}(bH:X.lo=0)(yW:X.ml=X.w0.heap.size)(mR:X.md=2){K:RM->ae->Prop}{R:Ending->World->Prop}{tmps:Array Value}:∀(ds:List Deferred) (l:List D) (m:RM) (u:FrameMode) (a:Act) (ρ:cQ) (σ:Env) (bx:ae) (w:World),a.defers=ds->aA X ρ σ bx a w->qn (σ en)=l->
 MR w (az X ρ bx w) ρ m u->C9 P bk l m bx K->
 (∀ρ' σ' bx' w' m' u',(∀t,t≠en->σ' t=σ t)->aA X ρ' σ' bx' {a with defers:=[]} w'->K m' bx'->MR w' (az X ρ' bx' w') ρ' m' u'->LeavesIn Fence.wide 0 P fn tmps R [] u' w')->LeavesInM Fence.wide 0 P fn tmps R ds u w
 |[],l,m,u,a,ρ,σ,bx,w,hd,h,hl,hm,hc,hR=>by
  obtain⟨hk,_⟩:=h.marks.resolve_left oM;rw[if_neg oM,hl,hd]at hk;cases hk;exact hR ρ σ bx w m u (fun _ _=>rfl) (h.switch h.size (.nil (.inr (.inr hl))) h.tmps) hc hm
 |d::ds,l,m,u,a,ρ,σ,bx,w,hd,h,hl,hm,hc,hR=>by
  obtain⟨hk,_⟩:=h.marks.resolve_left oM;rw[if_neg oM,hl,hd]at hk;refine⟨hm.ne,?_⟩;cases hk with
  |@mark _ r _ h1 h2 h3 h4=>
   have hw:=(h.hold r _ h1).1;obtain⟨ρ',h',_,CX⟩:=h.MD hd yW oM (pM w r (.deferred none)) (World.putObj_heap_same (Array.getElem?_eq_some_iff.1 hw).1) bH;exact .inl ⟨r,_,rfl,run_takeDeferred hw,zg bH yW mR ds l m u {a with defers:=ds} ρ' σ bx _ rfl h' hl (hm.imp CX) hc hR⟩
  |@call f caps args l' vc va _ g1 g2 g3 g4 g5=>
   obtain⟨Q,hQ,Z0⟩:=hc;have h':aA X ρ (aj σ en (.any l')) bx {a with defers:=ds} w:=h.switch h.size (.inr ⟨by rw[if_neg oM,dC];exact g5,fun h3=>by omega⟩) (fun t=>by
    simp only[aj];split
    ·exact .pure (.any _ _)
    ·exact h.tmps t)
   obtain⟨k1,k2⟩:=hQ X ρ _ _ w (va++vc) u h' bH (by simp[g1,g3]) (fun i x v hx hv=>by
    by_cases hi:i<args.length
    ·rw[List.getElem?_append_left hi]at hx;rw[Array.getElem?_append_left oM]at hv;exact g4 i x v hx hv
    ·rw[List.getElem?_append_right oM]at hx;rw[Array.getElem?_append_right oM,g3]at hv;exact g2 _ x v hx hv) hm
   refine .inr ⟨by simp[Fence.wide],.func f,vc,f,va++vc,rfl,by simpa[invoke]using k1,fun _ _=>trivial,CallsDIn.aaj k2 ?_⟩;rintro e u' w' ⟨v,rfl,m',bx',ρ',q1,q2,q3⟩;exact zg bH yW mR ds l' m' _ {a with defers:=ds} ρ' _ bx' w' rfl q2 (by rw[dC];rfl) q3 (Z0 _ _ q1) fun ρ2 σ2 bK w2 m2 u2 e1 e2 e3 e4=>hR ρ2 σ2 bK w2 m2 u2 (fun t ht=>by rw[e1 t ht];simp[aj,ht]) e2 e3 e4
def Mx(rv:List ResultVar):Bool:=rv.all fun r=>match r with
 | .tmp t=>t != en
 | .cell t _=>t != en
theorem Dq{σ σ':Env}(h:∀t,t≠en->σ' t=σ t):∀(rv:List ResultVar),Mx rv=true->jE P σ' bx rv=jE P σ bx rv
 |[],_=>rfl
 |r::rv,hr=>by
  simp only[Mx,List.all_cons,bA]at hr;have:=Dq h rv hr.2;simp only[jE,this];cases r with
  |tmp t=>simp only[pv];rw[h t (by have:=hr.1;simpa using this)]
  |cell t T=>simp only[pv];rw[h t (by have:=hr.1;simpa using this)]
def t_(P:Program)(rv:List ResultVar)(σ:Env)(cI Pan:D->ae->Prop):RM->ae->Prop
 | .ret,bx=>aM (jE P σ bx rv) fun rs=>cI (mg rs) bx
 | .cX d,bx=>Pan d bx
def Mt(P:Program)(bk:Nat)(rv:List ResultVar)(cI Pan:D->ae->Prop):DX->Env->ae->Prop
 | .normal,σ,bx| .ret,σ,bx=>tZ P bk (qn (σ en)) .ret bx (t_ P rv σ cI Pan)
 | .cX d,σ,bx=>tZ P bk (qn (σ en)) (.cX d) bx (t_ P rv σ cI Pan)
 |_,_,_=>False
def ET(P:Program)(O:gO)(tab:List (Nat×List (Nat×Nat)))(fn:Func)(base:Nat)(ds:List D)(bx:ae)(cI Pan:D->ae->Prop):Prop:=
 ∃c,fn.body=some c/\codeOk tab fn.ntmps c=true/\Mx fn.results.toList=true/\cD P ⟨O,tab,base,base+fn.ntmps,0,none,true,true⟩ c (Mt P (base+fn.ntmps) fn.results.toList cI Pan) (bF 0 ds) bx
def NF(hm:P.follows .mixedOrders=true){f:FuncId}{fn:Func}{O:gO}{tab:List (Nat×List (Nat×Nat))}{base:Nat}{ds:List D}{bx:ae}{Q Qp:D->ae->Prop}(hf:P.funcs[f]? =some fn)
 (eT:(fn.name== "runtime.NumGoroutine")=false) (hlen:ds.length<=fn.ntmps) (hO:Ok P O) (h:ET P O tab fn base ds bx Q Qp):bj P f base ds bx Q Qp:=by
 obtain⟨c,hb,bC,AW,hc⟩:=h;obtain⟨hN,bC⟩:fn.ntmps<=en/\dH tab fn.ntmps c=true:=by simpa[codeOk,en]using bC
 intro X ρ σ a w vs hS mA hl hv;refine .inl ⟨Go.MuLone.run_callFunc_enter hf eT hb vs w,callsIn_wide.1 (callsIn_of_wp_marks (F:=Fence.wide) (n:=0) hf hb trivial ?_)⟩;obtain⟨k1,k2⟩:=nU (N:=fn.ntmps) hl hlen hv;have qO:qn (bF 0 ds en)=[]:=by
  rw[wH,if_neg oM,List.getElem?_eq_none oM];rfl
 have h0:=hS.sub (E:=fun _=>False) (N:=fn.ntmps) (ml:=w.heap.size) (md:=2) (σ':=bF 0 ds) (a':={tmps:=vs++Array.replicate (fn.ntmps - vs.size) undef,defers:=[]}) hN (fun _ h=>h.elim) k1 (.nil (.inr (.inr qO))) (Nat.le_refl _) k2;refine dZ hm c none 0 ⟨O,tab,base,base+fn.ntmps,0,none,true,true⟩ _ _ _ _ _ _ _ w ⟨hO,Nat.le_refl _,Nat.zero_le _,(fun _ _ _ hk=>by cases hk),(fun _=>rfl),(fun hf=>by have:(2:Nat)=3:=hf;omega),fun hf=>by have:(2:Nat)=3:=hf;omega⟩ (fun l hl=>by cases hl) bC h0 hc fun e e' σ' bx' a' w' ρ' hx hq h'=>?_;have fin:∀m u,MR w' (az X ρ' bx' w') ρ' m u->C9 P (base+fn.ntmps) (qn (σ' en)) m bx' (t_ P fn.results.toList σ' Q Qp)->
  LeavesInM Fence.wide 0 P fn a'.tmps (fun e w'=>(∃v,e= .returned v/\∃d bx' ρ',Q d bx'/\aA X ρ' σ bx' a w'/\aJ w' (az X ρ' bx' w') ρ' d v)\/∃v,e= .panicked [pe v]/\∃d bx' ρ',Qp d bx'/\aA X ρ' σ bx' a w'/\aJ w' (az X ρ' bx' w') ρ' d v) a'.defers u w':=by
  intro m u Ka hq;refine zg rfl rfl rfl a'.defers _ m u a' ρ' σ' bx' w' rfl h' rfl Ka hq fun ρ2 σ2 bK w2 m2 u2 he h2 hk qb=>?_;have sR:aA X ρ2 σ bK a w2:=hS.back rfl rfl h2 (fun _ h=>h.elim) (fun _ h=>h.elim) (fun _ h=>h.elim) (hS.y0 mA _ _);cases m2 with
  |ret=>
   rw[show u2= .returning from qb];simp only[t_]at hk;cases hr:jE P σ' bK fn.results.toList with
   |none=>rw[hr]at hk;exact hk.elim
   |some rs=>
    rw[hr]at hk;obtain⟨v,g1,g2⟩:=si h2 (fn:=fn) (by rw[Dq he _ AW];exact hr);exact⟨v,g1,.inl ⟨v,rfl,mg rs,bK,ρ2,hk,sR,g2⟩⟩
  |cX d=>
   obtain⟨v,hu,hv⟩:=qb;rw[hu];exact .inr ⟨v,rfl,d,bK,ρ2,hk,sR,hv⟩
 rcases hx.cases with⟨rfl,rfl⟩|⟨rfl,rfl⟩|⟨_,rfl,rfl⟩|⟨_,rfl,rfl⟩|⟨d,v,rfl,rfl,hv⟩
 ·exact fin .ret _ rfl hq
 ·exact fin .ret _ rfl hq
 ·exact hq.elim
 ·exact hq.elim
 ·exact fin (.cX d) _ ⟨v,rfl,hv⟩ hq
theorem aA.je{ρ2:cQ}{σ2:Env}{bK:ae}{a2:Act}{w2:World}{E:Nat->Prop}{N ml md:Nat}(h:aA X ρ σ bx a w)(k:aA (X.sub ρ bx w E N ml md) ρ2 σ2 bK a2 w2)(hE:∀b,¬E b):∀d v,aJ w (az X ρ bx w) ρ d v->aJ w2 (az X ρ2 bK w2) ρ2 d v:=by
 have wY:∀b,az X ρ bx w b->¬(X.sub ρ bx w E N ml md).M b:=by
  rintro b hb ⟨t,p,hk,hp,rfl⟩;exact hb.2.2 t hk p hp rfl
 refine fun d v hd=>hd.fg (fun b hb o ho hc=>(k.fr.block b hb.1 (fun hm=>?_)).trans ho) (fun b hb=>?_) k.r0
 ·rcases hm with hm|hm
  ·exact wY b hb hm
  ·have:=k.ec b hm o ho;rw[hc]at this;cases this
 ·refine⟨Nat.lt_of_lt_of_le hb.1 k.fr.size,hb.2.1,fun t ht p hp e=>?_⟩;obtain⟨p',bL,_,_,gN,_⟩:=k.box t (by rw[ht];decide);rw[hp]at bL;injection bL with bL;subst bL;rcases gN.2 ht with h1|h1
  ·have:=hb.1;simp only[Ctx.sub]at h1;omega
  ·exact wY b hb (e▸h1)
def nL(P:Program):List Oper->Env->ae->Option Env
 |[],σ,_=>some σ
 |o::l,σ,bx=>if o.guard.isSome then none else match cT P σ bx o.op with
  |some v=>nL P l (put σ o.dst v) bx
  |none=>none
def IC(cI:ae->Prop):DX->Env->ae->Prop
 | .normal,_,bx| .ret,_,bx=>cI bx
 |_,_,_=>False
def F4(N:Nat)(l:List Oper):Bool:=l.all fun o=>match o.dst with
 |some d=>decide (d<N)
 |none=>true
def gO.BD(O:gO):gO:=⟨O.to,O.ux,fun _ _ _ _=>False,fun _ _ _ _ _=>False⟩
def yI(P:Program)(O:gO)(tab:List (Nat×List (Nat×Nat)))(fn:Func)(base:Nat)(ds:List D)(bx:ae)(m:RM)(cI:RM->ae->Prop):Prop:=
 fn.results.toList=[]/\((∃c,fn.body=some c/\codeOk tab fn.ntmps c=true/\cD P ⟨O.BD,tab,base,base+fn.ntmps,0,none,false,false⟩ c (IC (cI m)) (bF 0 ds) bx)\/
 (∃id t args cA ty pos af L rest σ',fn.body=some (.seq (.region id (⟨some t,.call {callee:=.builtin .recover,args,argTypes:=cA},ty,pos,af,none⟩::L).toArray false) rest)/\t<fn.ntmps/\F4 fn.ntmps L=true/\codeOk tab fn.ntmps rest=true/\
  nL P L (aj (bF 0 ds) t m.val) bx=some σ'/\cD P ⟨O.BD,tab,base,base+fn.ntmps,0,none,false,false⟩ rest (IC (cI .ret)) σ' bx))
theorem Ok.BD{O:gO}(h:Ok P O):Ok P O.BD:=⟨h.to,h.ux,fun _ _ _ _ h=>h.elim,fun _ _ _ _ _ h=>h.elim⟩
theorem zF{ops:Array Oper}{Q:Exit->Act->List Frame->World->Prop}{cs:List Frame}:∀(L pre:List Oper) (σ σ':Env) (a:Act) (ρ:cQ) (w:World),ops.toList=pre++L->F4 X.N L=true->aA X ρ σ bx a w->nL P L σ bx=some σ'->
 (∀ρ' a' w',(∀d v,aJ w (az X ρ bx w) ρ d v->aJ w' (az X ρ' bx w') ρ' d v)->aA X ρ' σ' bx a' w'->Q .normal a' cs w')->wpOpsSIn Fence.wide n P ops Q (List.range' pre.length L.length) a cs w
 |[],pre,σ,σ',a,ρ,w,Ht,hd,h,hr,hQ=>by
  simp only[nL,sJ]at hr;subst hr;exact hQ ρ a w (fun _ _ h=>h) h
 |o::L,pre,σ,σ',a,ρ,w,Ht,hd,h,hr,hQ=>by
  simp only[nL]at hr;split at hr
  ·cases hr
  ·rename_i hg;have hg:o.guard=none:=by simpa using hg
   simp only[F4,List.all_cons,bA]at hd;split at hr
   ·rename_i v hv;obtain⟨u,w',bQ,hb,fw⟩:=FN h o hv;have ho:ops[pre.length]? =some o:=by rw[<-aG,Ht];simp
    have Z_:Region.wanted o (yielded ops a.tmps)=true:=by simp[Region.wanted,hg]
    simp only[List.length_cons,List.range'_succ,wpOpsSIn,ho,Z_,if_true,bQ];refine⟨fun _ _=>trivial,?_⟩;have hx:=h.ext hb;have hS:∀b,az X ρ bx w b->az X ρ bx w' b:=fun b eo=>⟨Nat.lt_of_lt_of_le eo.1 hb.size,eo.2⟩
    have hp:aA X ρ (put σ o.dst v) bx (a.put o.dst u) w':=hx.put (fun t ht=>by have:=hd.1;rw[ht]at this;simpa using this) fw;have:=zF (ops:=ops) L (pre++[o]) (put σ o.dst v) σ' (a.put o.dst u) ρ w' (by simp[Ht]) hd.2 hp hr (fun ρ' a' w2 h2 h3=>hQ ρ' a' w2 (fun d v hdv=>h2 d v (hdv.mono (fun b eo=>hb.block b eo.1) hS (fun _ _ _ h=>h))) h3);simpa using this
   ·cases hr
def NG(hm:P.follows .mixedOrders=true){f:FuncId}{fn:Func}{O:gO}{tab:List (Nat×List (Nat×Nat))}{base:Nat}{ds:List D}{bx:ae}{m:RM}{Q:RM->ae->Prop}(hf:P.funcs[f]? =some fn)
 (eT:(fn.name== "runtime.NumGoroutine")=false) (hlen:ds.length<=fn.ntmps) (hO:Ok P O) (h:yI P O tab fn base ds bx m Q):Cc P f base ds bx m Q:=by
 obtain⟨Bw,h⟩:=h;intro X ρ σ a w vs u hS mA hl hv Ka;obtain⟨k1,k2⟩:=nU (N:=fn.ntmps) hl hlen hv;have fin:∀(c₀:Frame) (cs:List Frame) (u':FrameMode) (m':RM) (e:DX) (e':Exit) (σ':Env) (bx':ae) (a':Act) (w':World) (ρ':cQ) (E:Nat->Prop),XR w' (az X ρ' bx' w') ρ' e e'->IC (Q m') e σ' bx'->aA (X.sub ρ bx w (fun _=>False) fn.ntmps w.heap.size 3) ρ' σ' bx' a' w'->
  MR w' (az X ρ' bx' w') ρ' m' (Go.settle u')->
  bodyPostS P fn c₀ cs (fun e u' w'=>∃v,e= .returned v/\∃m' bx' ρ',Q m' bx'/\aA X ρ' σ bx' a w'/\MR w' (az X ρ' bx' w') ρ' m' (Go.settle u')) e' a' ({c₀ with mode:=u'}::cs) w':=by
  intro c₀ cs u' m' e e' σ' bx' a' w' ρ' E hx hq h' tT;have hd:a'.defers=[]:=by
   rcases h'.marks with h3|h3
   ·have:(3:Nat)=1:=h3;omega
   ·exact h3.2 rfl
  obtain⟨v,g1,g2⟩:=si h' (fn:=fn) (rs:=[]) (by rw[Bw];rfl);have sR:aA X ρ' σ bx' a w':=hS.back rfl rfl h' (fun _ h=>h.elim) (fun _ h=>h.elim) (fun _ h=>h.elim) (hS.y0 mA _ _);rcases hx.cases with⟨rfl,rfl⟩|⟨rfl,rfl⟩|⟨_,rfl,rfl⟩|⟨_,rfl,rfl⟩|⟨d,v,rfl,rfl,hv⟩
  ·exact⟨hd,u',rfl,v,g1,v,rfl,m',bx',ρ',hq,sR,tT⟩
  ·exact⟨hd,u',rfl,v,g1,v,rfl,m',bx',ρ',hq,sR,tT⟩
  all_goals exact hq.elim
 have hG:Good P ⟨O.BD,tab,base,base+fn.ntmps,0,none,false,false⟩ (X.sub ρ bx w (fun _=>False) fn.ntmps w.heap.size 3):=⟨hO.BD,Nat.le_refl _,Nat.zero_le _,(fun _ _ _ hk=>by cases hk),(fun hf=>by cases hf),(fun _ _ _ _ _ h=>h),fun _ _ _ _ _ _ h=>h⟩
 have qO:qn (bF 0 ds en)=[]\/fn.ntmps>en:=by
  by_cases hN:fn.ntmps>en
  ·exact .inr hN
  ·refine .inl ?_;rw[wH,if_neg oM,List.getElem?_eq_none oM];rfl
 rcases h with⟨c,hb,bC,hc⟩|⟨id,t,args,cA,ty,pos,af,L,rest,σ1,hb,ht,hL,bC,Z5,hc⟩
 ·obtain⟨hN,bC⟩:fn.ntmps<=en/\dH tab fn.ntmps c=true:=by simpa[codeOk,en]using bC
  have h0:=hS.sub (E:=fun _=>False) (N:=fn.ntmps) (ml:=w.heap.size) (md:=3) (σ':=bF 0 ds) (a':={tmps:=vs++Array.replicate (fn.ntmps - vs.size) undef,defers:=[]}) hN (fun _ h=>h.elim) k1 (.nil (.inr (.inr (qO.resolve_right oM)))) (Nat.le_refl _) k2;refine⟨Go.MuLone.run_callFunc_enter hf eT hb vs w,callsDIn_of_wpSIn hf hb trivial fun c₀ cs hu=>wpSIn_of_wpIn rfl ?_⟩;refine dZ hm c none 0 _ _ _ _ _ _ _ _ w hG (fun l hl=>by cases hl) bC h0 hc fun e e' σ' bx' a' w' ρ' hx hq h'=>?_;subst hu;have tT:MR w' (az X ρ' bx' w') ρ' m c₀.mode:=Ka.imp (hS.je h' fun _ hb=>hb.elim);exact fin c₀ cs c₀.mode m e e' σ' bx' a' w' ρ' (fun _=>False) hx hq h' (by rw[Ka.settle];exact tT)
 ·obtain⟨hN,bC⟩:fn.ntmps<=en/\dH tab fn.ntmps rest=true:=by simpa[codeOk,en]using bC
  have E_:bB w (az X ρ bx w) (.raw .nilIface) .nilIface:=.raw _;have h0:=hS.sub (E:=fun _=>False) (N:=fn.ntmps) (ml:=w.heap.size) (md:=3) (σ':=bF 0 ds) (a':={tmps:=vs++Array.replicate (fn.ntmps - vs.size) undef,defers:=[]}) hN (fun _ h=>h.elim) k1 (.nil (.inr (.inr (qO.resolve_right oM)))) (Nat.le_refl _) k2;refine⟨Go.MuLone.run_callFunc_enter hf eT hb vs w,callsDIn_of_wpSIn hf hb trivial fun c₀ cs hu=>wpSIn_seq (wpSIn_region ?_)⟩;have F9:∀(u':FrameMode) (v:Value),Go.settle u'= .returning->aJ w (az X ρ bx w) ρ m.val v->
   wpOpsSIn Fence.wide 0 P (⟨some t,.call {callee:=.builtin .recover,args,argTypes:=cA},ty,pos,af,none⟩::L).toArray (Exit.thenS (rest.wpSIn Fence.wide 0 P (bodyPostS P fn c₀ cs (fun e u' w'=>∃v,e= .returned v/\∃m' bx' ρ',Q m' bx'/\aA X ρ' σ bx' a w'/\MR w' (az X ρ' bx' w') ρ' m' (Go.settle u')))) (bodyPostS P fn c₀ cs (fun e u' w'=>∃v,e= .returned v/\∃m' bx' ρ',Q m' bx'/\aA X ρ' σ bx' a w'/\MR w' (az X ρ' bx' w') ρ' m' (Go.settle u'))))
    (List.range' 1 L.length) (({tmps:=vs++Array.replicate (fn.ntmps - vs.size) undef,defers:=[]}:Act).put (some t) v) ({c₀ with mode:=u'}::cs) w:=by
   intro u' v gu aX;have hp:=h0.put (dst:=some t) (d:=m.val) (v:=v) (fun t' oR=>by injection oR with oR;subst oR;exact ht) aX;refine zF L [⟨some t,.call {callee:=.builtin .recover,args,argTypes:=cA},ty,pos,af,none⟩] _ σ1 _ ρ w sI hL hp Z5 fun ρ2 a2 w2 _ h2=>?_;refine wpSIn_of_wpIn rfl ?_;refine dZ hm rest none 0 _ _ _ _ _ _ _ _ w2 hG (fun l hl=>by cases hl) bC h2 hc fun e e' σ' bx' a' w' ρ' hx hq h'=>?_;exact fin c₀ cs u' .ret e e' σ' bx' a' w' ρ' (fun _=>False) hx hq h' gu
  have Ht:(⟨some t,.call {callee:=.builtin .recover,args,argTypes:=cA},ty,pos,af,none⟩::L).toArray[0]? =some (⟨some t,.call {callee:=.builtin .recover,args,argTypes:=cA},ty,pos,af,none⟩:Oper):=by simp
  have bQ:∀(ev:Operand->Value),(execOp ev (⟨some t,.call {callee:=.builtin .recover,args,argTypes:=cA},ty,pos,af,none⟩:Oper)).run P w= .ok .recover w:=fun ev=>by simp[execOp,resolve,invoke,builtin]
  have oA:List.range (⟨some t,.call {callee:=.builtin .recover,args,argTypes:=cA},ty,pos,af,none⟩::L).toArray.size=0::List.range' 1 L.length:=by simp[List.range_eq_range',List.range'_succ]
  rw[oA];simp only[wpOpsSIn,Ht,bQ,Region.wanted,if_true];refine⟨fun _ _=>trivial,?_⟩;cases m with
  |ret=>
   have gu:u= .returning:=Ka;have:recoverD (c₀::cs)=none:=by simp[recoverD,hu,gu]
   simp only[this];have:=F9 c₀.mode .nilIface (by rw[hu,gu];rfl) (.pure (.raw _));exact this
  |cX d=>
   obtain⟨v,gu,aX⟩:=Ka;have:recoverD (c₀::cs)=some (v,{c₀ with mode:=.panicking [{v,recovered:=true}]}::cs):=by simp[recoverD,hu,gu,pe]
   simp only[this];exact F9 (.panicking [{v,recovered:=true}]) v rfl aX
theorem bj.to{f:FuncId}{ds:List D}{d:D}{Q Qp:D->ae->Prop}(h:bj P f 0 ds (fun _=> .none) Q Qp)(hp:∀d bx,¬Qp d bx)(hQ:∀d' bx',Q d' bx'->∃r,bD bx' d'=some r/\bN r d):ao P f ds d:=by
 intro w S vs hS Hm hl hv;let X0:Ctx:=⟨w,S,w.heap.size,fun _=>False,fun _=>False,0,⟨fun _ _=>none,fun _=>none⟩,w.heap.size,0,fun _ _=>True,0⟩
 have h0:aA X0 ⟨fun _ _=>none,fun _=>none⟩ (fun _=> .raw undef) (fun _=> .none) {tmps:= #[],defers:=[]} w:=
  ⟨.refl _ _,hS,Nat.le_refl _,fun _ h=>h.elim,fun _ h=>h.elim,rfl,.nil (.inl rfl),Nat.zero_le _,Nat.le_refl _,fun t=>by rw[show(#[]:Array Value).getD t undef=undef from by simp[Array.getD]];exact aJ.pure (.raw _),.pure (Hm.mono (fun _ _=>rfl) (fun b hb=>⟨hS b hb,.inl hb,fun t ht=>by simp[Bx.none]at ht⟩)),fun t ht=>absurd rfl ht.1,fun t t' p p' ht=>by simp[Bx.none]at ht,(fun t e p hp=>by cases hp),(fun t e p hp=>by cases hp),(fun t e hp=>by cases hp),(fun t e hp=>by cases hp),fun _ _ _ _ _=>trivial,trivial,fun _ _ _=>trivial,(fun t e hp=>by cases hp),⟨fun t ht=>by simp[Bx.none]at ht,fun t t' p p' ht=>by simp[Bx.none]at ht⟩⟩
 have hr:=h _ _ _ _ w vs h0 rfl hl (fun i x v hx aX=> .pure ((hv i x v hx aX).mono (fun _ _=>rfl) (fun b hb=>⟨hS b hb,.inl hb,fun t ht=>by simp[Bx.none]at ht⟩)));have fin:∀v w',(∃d bx' ρ',Q d bx'/\aA X0 ρ' (fun _=> .raw undef) bx' {tmps:= #[],defers:=[]} w'/\aJ w' (az X0 ρ' bx' w') ρ' d v)->Go.V.cI w S d v w':=by
  rintro v w' ⟨d',bx',ρ',hq,g1,g3⟩;obtain⟨r,ho,hw⟩:=hQ d' bx' hq;refine⟨aJ.uy hw (n_ g1 _ _ v ⟨fun b hb=>?_,fun t _ hk p hp=>?_⟩ g3 ho),?_⟩
  ·rcases hb.2.1 with h1|h1
   ·exact .inl h1
   ·exact .inr ⟨h1,hb.1⟩
  ·obtain⟨p',bL,_,_,gN,hh⟩:=g1.box t hk;rw[hp]at bL;injection bL with bL;subst bL;exact .inr ⟨gN.1,hh.lt⟩
  ·exact⟨g1.fr.os,g1.fr.tape,g1.fr.output,g1.fr.size,fun k hk=>g1.fr.block k hk (fun hm=>hm.elim id id)⟩
 rcases hr with⟨k1,k2⟩|⟨v,w',k1,k2⟩
 ·refine .inl ⟨k1,Calls.mono k2 ?_⟩;rintro e w' (⟨v,rfl,hg⟩|⟨v,rfl,d',bx',ρ',hq,_⟩)
  ·exact⟨v,rfl,fin v w' hg⟩
  ·exact absurd hq (hp _ _)
 ·exact .inr ⟨v,w',k1,fin v w' k2⟩
section
variable {Q:DX->Env->ae->Prop} {cI Pan:D->ae->Prop} {bk:Nat} {K:RM->ae->Prop}
@[go_sem ↓] def agx(rv:List ResultVar):Mt P bk rv cI Pan .ret σ bx=tZ P bk (qn (σ en)) .ret bx (t_ P rv σ cI Pan):=ay
@[go_sem ↓] def agw(rv:List ResultVar)(d:D):Mt P bk rv cI Pan (.cX d) σ bx=tZ P bk (qn (σ en)) (.cX d) bx (t_ P rv σ cI Pan):=ay
@[go_sem ↓] def Y4(cI:ae->Prop):IC cI .normal σ bx=cI bx:=ay
@[go_sem] def aid(n:Nat)(h:n<1000000000):(en=n)=False:=by simp only[en];exact eq_false oM
@[go_sem] def aii(n:Nat)(h:n<1000000000):(n=en)=False:=by simp only[en];exact eq_false oM
def GJ(d:D)(f:D->Prop)(_:Tok (f .undef):=⟨⟩):Prop:=match d with
 | .fn (.func g) caps=>f (.fn (.func g) caps)
 |_=>False
@[go_sem] def abB(g:Nat)(caps:List D)(f:D->Prop):GJ (.fn (.func g) caps) f=f (.fn (.func g) caps):=ay
@[go_sem ↓] theorem Y_{dst:Option Tmp}{ty:TypeId}{pos:String}{af:Array Edge}{g:Option (Nat×Bool)}{K1:Cl->Env->ae->Prop}(fo:Operand)(l:List Operand)(cA:Array TypeId):bq P C ⟨dst,.defer {callee:=.value fo,args:=l.toArray,argTypes:=cA},ty,pos,af,g⟩ σ bx K1=(C.df=true/\GJ (ev σ fo) fun fv=>K1 .n (put (aj σ en (Dk (σ en) fv (l.map (ev σ)))) dst (.raw undef)) bx):=by
 simp only[bq,GJ];cases ev σ fo with
 |fn f caps=>cases f<;>rfl
 |_=>rfl
@[go_sem] def ago(l:List D):qn (.any l)=l:=ay
@[go_sem] def adi(v:Value)(f:D)(args:List D):Dk (.raw v) f args= .any [.aI (f::args)]:=ay
@[go_sem] def aad(m:RM):tZ P bk [] m bx K=K m bx:=ay
@[go_sem] def aae(rv:List ResultVar):t_ P rv σ cI Pan .ret bx=aM (jE P σ bx rv) fun rs=>cI (mg rs) bx:=ay
@[go_sem] def ahY:RM.val .ret= .raw .nilIface:=ay
@[go_sem] def ahX(d:D):RM.val (.cX d)=d:=ay
def jz{f:FuncId}{caps args l:List D}{m:RM}(Q:RM->ae->Prop)(h:Cc P f bk (args++caps) bx m Q)(hk:∀m' bx',Q m' bx'->tZ P bk l m' bx' K):tZ P bk (.aI (.fn (.func f) caps::args)::l) m bx K:=⟨Q,h,hk⟩
@[go_sem] def aat:nL P [] σ bx=some σ:=ay
def Q_(P:Program)(l:List Oper)(σ:Env)(bx:ae)(dst:Option Tmp):Option D->Option Env
 |some v=>nL P l (put σ dst v) bx
 |none=>none
@[go_sem] def adl(l:List Oper)(dst:Option Tmp)(v:D):Q_ P l σ bx dst (some v)=nL P l (put σ dst v) bx:=ay
@[go_sem] def Y1(dst:Option Tmp)(op:Op)(ty:TypeId)(pos:String)(af:Array Edge)(l:List Oper):nL P (⟨dst,op,ty,pos,af,none⟩::l) σ bx=Q_ P l σ bx dst (cT P σ bx op):=by simp only[nL,Q_,Option.isSome_none,Bool.false_eq_true,if_false]
@[go_sem] def Zh(x:Operand):cT P σ bx (.assign x)=some (ev σ x):=ay
@[go_sem] def adN(x:Operand):cT P σ bx (.move x)=some (ev σ x):=ay
end
def rG{O:gO}{tab:List (Nat×List (Nat×Nat))}{fn:Func}{base:Nat}{ds:List D}{bx:ae}{cI Pan:D->ae->Prop}(c:Code)(rv:List ResultVar)(n:Nat)(hc:fn.body=some c)(hr:fn.results=rv.toArray)(hn:fn.ntmps=n)(bC:codeOk tab n c=true)(AW:Mx rv=true)
 (h:cD P ⟨O,tab,base,base+n,0,none,true,true⟩ c (Mt P (base+n) rv cI Pan) (bF 0 ds) bx):ET P O tab fn base ds bx cI Pan:=by
 subst hn;refine⟨c,hc,bC,by rw[hr];simpa using AW,?_⟩;rw[hr];simpa using h
def lV{O:gO}{tab:List (Nat×List (Nat×Nat))}{fn:Func}{base:Nat}{ds:List D}{bx:ae}{m:RM}{cI:RM->ae->Prop}{id t:Nat}{args:Array Operand}{cA:Array TypeId}{ty:TypeId}{pos:String}{af:Array Edge}(L:List Oper)(rest:Code)(n:Nat)(hc:fn.body=some (.seq (.region id (⟨some t,.call {callee:=.builtin .recover,args,argTypes:=cA},ty,pos,af,none⟩::L).toArray false) rest))(hr:fn.results= #[])(hn:fn.ntmps=n)
 (hd:(decide (t<n)&&F4 n L)=true) (bC:codeOk tab n rest=true) (σ':Env)
 (ho:nL P L (aj (bF 0 ds) t m.val) bx=some σ') (h:cD P ⟨O.BD,tab,base,base+n,0,none,false,false⟩ rest (IC (cI .ret)) σ' bx):yI P O tab fn base ds bx m cI:=by
 subst hn;simp only[bA,decide_eq_true_eq]at hd;exact⟨by rw[hr],.inr ⟨id,t,args,cA,ty,pos,af,L,rest,σ',hc,hd.1,hd.2,bC,ho,h⟩⟩
@[go_sem ↓] def YV:isNil (.const (.slice none 0 0))=false:=ay
@[go_sem] def ZC(t e:Nat):(D.omap t e).cells=[.omap t e]:=ay
attribute [go_sem] reduceIte Nat.reduceMul Nat.reduceEqDiff Nat.reduceAdd Nat.reduceLeDiff Nat.reduceLT Nat.reduceSub Int.reduceLT Int.reduceLE Int.reduceEq Int.reduceToNat Option.map_some List.length_map gM Int.toNat_natCast
section
variable {P:Program} {Q:DX->Env->ae->Prop} {σ:Env} {bx:ae} {o:gO} {b n lo:Nat} {yl:Option (List (List D)×Nat×Nat)} {pn df:Bool}
@[go_sem ↓ high] def Vt(id:Nat)(l:List Oper):cD P ⟨o,[],b,n,lo,yl,pn,df⟩ (.region id l.toArray false) Q σ bx=po P ⟨o,[],b,n,lo,yl,pn,df⟩ l l [] σ bx fun acc σ' bx'=>vH Q acc σ' bx':=by simp[cD,cR,zo,n9]
end
class BP(b:Bool)(p q:outParam Prop):Prop where
 t:b=true->p
 f:b=false->q
instance (priority:=low)(b:Bool):BP b (b=true) (b=false):=⟨id,id⟩
instance(p:Prop)[Decidable p]:BP (decide p) p (¬p):=⟨of_decide_eq_true,of_decide_eq_false⟩
def zJ{b:Bool}{p q x y:Prop}[h:BP b p q](refine_1:p->x)(refine_2:q->y):iE b x y:=aZ (fun e=>refine_1 (h.t e)) fun e=>refine_2 (h.f e)
end Go.V
