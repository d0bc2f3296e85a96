/- Lemmas on plain data and programs: part VD. -/
import Derived.Test.YtkgloohlmogakaaGreatDoorVt
import Derived.Test.YtkgloohlmogakaaGreatDoorVC
import Derived.RecoverIn
set_option linter.all false
set_option maxHeartbeats 8000000
namespace Go.V
open Go.Proofs Go.RowKit
variable {P:Program} {C:Calc} {Q:DX->Env->ae->Prop} {σ:Env} {bx:ae}
theorem C2{full:List Oper}{K K':List Cl->Env->ae->Prop}(h:∀acc σ bx,K acc σ bx->K' acc σ bx){ps:List (Nat×Nat)}:∀ {l:List Oper} {i:Nat} {acc:List Cl} {σ:Env} {bx:ae},sH P C full ps i l acc σ bx K->sH P C full ps i l acc σ bx K'
 |[],i,acc,σ,bx,hs=>h _ _ _ hs
 |o::rest,i,acc,σ,bx,hs=>by
  simp only[sH]at hs⊢;exact cg (fun s=>px fun rP σ' bx' hk=>by
   unfold vb at hk⊢;split at hk
   ·exact h _ _ _ hk
   ·exact C2 h hk) hs
theorem N8{full:List Oper}{K K':List Cl->Env->ae->Prop}(h:∀acc σ bx,K acc σ bx->K' acc σ bx){ps:List (Nat×Nat)}{l:List Oper}{acc:List Cl}{σ:Env}{bx:ae}(hs:y_ P C full ps l acc σ bx K):y_ P C full ps l acc σ bx K':=by
 cases ps with
 |nil=>exact px h hs
 |cons p ps=>exact C2 h hs
theorem SV{c:Code}:∀ {C:Calc} {Q Q':DX->Env->ae->Prop} {σ:Env} {bx:ae},(∀e σ bx,Q e σ bx->Q' e σ bx)->cR P C c Q σ bx->cR P C c Q' σ bx:=by
 induction c with
 |skip=>intro C Q Q' σ bx h hs;exact h _ _ _ hs
 |region id ops draw=>
  intro C Q Q' σ bx h hs;cases draw
  ·exact N8 (fun acc _ _ hk=>by
    unfold vd at hk⊢;split at hk<;>exact h _ _ _ hk) hs
  ·simp only[cR]at hs⊢;split at hs
   ·rename_i hd;rw[if_pos hd];exact wq (fun d bx hp σ=>h _ _ _ (hp σ)) (fun _ _=>h _ _ _) hs
   ·rename_i hd;rw[if_neg hd];exact px (fun _ _ _ hk=>⟨hk.1,h _ _ _ hk.2⟩) hs
 |seq a b iha ihb=>
  intro C Q Q' σ bx h hs;refine iha (fun e σ bx he=>?_) hs;cases e<;>first|exact ihb h he|exact h _ _ _ he
 |cond c x y ihx ihy=>
  intro C Q Q' σ bx h hs;simp only[cR]at hs⊢;unfold Ce iC at hs⊢;split at hs
  ·split at hs
   ·rename_i h1;simp only[h1,if_true];exact ihx h hs
   ·rename_i h1;simp only[h1];exact ihy h hs
  ·exact⟨ihx h hs.1,ihy h hs.2⟩
  ·exact hs.elim
 |block id c ih=>
  intro C Q Q' σ bx h hs;refine ih (fun e σ bx he=>?_) hs;cases e with
  |exit E0=>
   simp only[rb]at he⊢;split at he
   ·rename_i h1;rw[if_pos h1];exact h _ _ _ he
   ·rename_i h1;rw[if_neg h1];exact h _ _ _ he
  |_=>exact h _ _ _ he
 |loop c ih=>
  intro C Q Q' σ bx h hs;obtain⟨I,μ,h0,h1⟩:=hs;refine⟨I,μ,h0,fun σ bx hi=>let ⟨bx0,hm,hb⟩:=h1 σ bx hi;⟨bx0,hm,ih (fun e σ bx he=>?_) hb⟩⟩;cases e<;>first|exact he|exact h _ _ _ he
 |rangeFunc g ps a b iha ihb=>
  intro C Q Q' σ bx h hs;have round:∀ {ext:Nat} {J:Nat->ae->Prop} {n:Nat} {it:List D} {bx1:ae},cR P ⟨C.o,C.tab,C.base,C.bk+ext,C.lo,C.yl,false,false⟩ a (dG (cR P ⟨C.o,C.tab,C.base,C.bk+ext,C.lo,C.yl,false,false⟩ b (pZ C.bk ext J n Q σ bx1)) Fa) (ku σ ps.toList it) bx1->
   cR P ⟨C.o,C.tab,C.base,C.bk+ext,C.lo,C.yl,false,false⟩ a (dG (cR P ⟨C.o,C.tab,C.base,C.bk+ext,C.lo,C.yl,false,false⟩ b (pZ C.bk ext J n Q' σ bx1)) Fa) (ku σ ps.toList it) bx1:=by
   intro ext J n it bx1 k2;refine iha (fun e σ bx he=>?_) k2;cases e with
   |normal=>
    refine ihb (fun e σ bx he=>?_) he;obtain⟨m1,m2⟩:=he;refine⟨m1,?_⟩;cases e with
    |ret=>exact fun bK hb=>h _ _ _ (m2 bK hb)
    |exit id=>exact fun bK hb=>h _ _ _ (m2 bK hb)
    |_=>exact m2
   |_=>exact he
  obtain⟨h1,h2,⟨f,caps,items,ext,g1,g2,g3,J,j0,jr,jq⟩|⟨f,t,e,bb,items,pd,ext,g1,g2,g3,g4,J,j0,jr,jq⟩⟩:=hs
  ·exact⟨h1,h2,.inl ⟨f,caps,items,ext,g1,g2,g3,J,j0,fun n it bx1 hi hj=>⟨(jr n it bx1 hi hj).1,round (jr n it bx1 hi hj).2⟩,fun bx1 hj=>h _ _ _ (jq bx1 hj)⟩⟩
  ·refine⟨h1,h2,.inr ⟨f,t,e,bb,items,pd,ext,g1,g2,g3,g4,J,j0,fun n it bx1 hi hj=>⟨(jr n it bx1 hi hj).1,round (jr n it bx1 hi hj).2⟩,fun bx1 hj=>?_⟩⟩;have:=jq bx1 hj;cases pd<;>exact h _ _ _ this
 |scope c ih=>
  intro C Q Q' σ bx h hs;refine ih (fun e σ bx he=>?_) hs;cases e<;>first|exact he|exact h _ _ _ he
 |exit id=>intro C Q Q' σ bx h hs;exact h _ _ _ hs
 |ret=>intro C Q Q' σ bx h hs;exact h _ _ _ hs
 |label l=>intro C Q Q' σ bx h hs;exact h _ _ _ hs
 |_=>intro C Q Q' σ bx h hs;exact hs.elim
def lD{c:Code}{Q':DX->Env->ae->Prop}(h:∀e σ bx,Q e σ bx->Q' e σ bx)(hs:cD P C c Q σ bx):cD P C c Q' σ bx:=SV h hs
noncomputable def u0(p:Nat->Prop):Nat->Nat
 |0=>0
 |n+1=>@ite _ (p (n+1)) (Classical.propDecidable _) (n+1) (u0 p n)
theorem DP(p:Nat->Prop):∀n,u0 p n<=n
 |0=>Nat.le_refl _
 |n+1=>by
  unfold u0;split
  ·exact Nat.le_refl _
  ·exact Nat.le_succ_of_le (DP p n)
theorem vp(p:Nat->Prop):∀n k,k<=n->p k->p (u0 p n)/\k<=u0 p n
 |0,k,hk,h=>by
  obtain rfl:k=0:=oM;exact⟨h,Nat.le_refl _⟩
 |n+1,k,hk,h=>by
  unfold u0;split
  ·rename_i h1;exact⟨h1,hk⟩
  ·rename_i h1;by_cases NG:k=n+1
   ·subst NG;exact absurd h h1
   ·exact vp p n k oM h
def bo{c:Code}(n:Nat)(I:Nat->Env->ae->Prop)(h0:I 0 σ bx)
 (hk:∀k σ bx,k<n->I k σ bx->cD P C c (dG (fun σ' bx'=>I (k+1) σ' bx') Q) σ bx)
 (hn:∀σ bx,I n σ bx->cD P C c (dG (fun _ _=>False) Q) σ bx):cD P C (.loop c) Q σ bx:=by
 refine Jp (fun σ bx=>∃k,k<=n/\I k σ bx) (fun σ bx=>n - u0 (fun k=>I k σ bx) n) ⟨0,Nat.zero_le _,h0⟩ ?_;rintro σ bx ⟨k,NG,hi⟩;obtain⟨g1,g2⟩:=vp (fun k=>I k σ bx) n k NG hi;have g3:=DP (fun k=>I k σ bx) n;generalize u0 (fun k=>I k σ bx) n=m at g1 g2 g3⊢;have mono:∀(K K':Env->ae->Prop),(∀σ bx,K σ bx->K' σ bx)->cD P C c (dG K Q) σ bx->cD P C c (dG K' Q) σ bx:=fun K K' hK h=>lD (fun e σ bx he=>by cases e<;>first|exact hK _ _ he|exact he) h;by_cases hm:m<n
 ·refine mono _ _ (fun σ' bx' h'=>?_) (hk m σ bx hm g1);obtain⟨q1,q2⟩:=vp (fun k=>I k σ' bx') n (m+1) oM h';exact⟨⟨m+1,by omega,h'⟩,by omega⟩
 ·obtain rfl:m=n:=oM;exact mono _ _ (fun _ _ h'=>h'.elim) (hn σ bx g1)
def vj{c:Code}(n:Nat)(I:Nat->Env->ae->Prop)(h0:I 0 σ bx)
 (hk:∀k σ bx,k<n->I k σ bx->∃bx0,OX C bx bx0/\cD P C c (dG (fun σ' bx'=>I (k+1) σ' bx') Q) σ bx0)
 (hn:∀σ bx,I n σ bx->∃bx0,OX C bx bx0/\cD P C c (dG (fun _ _=>False) Q) σ bx0):cD P C (.loop c) Q σ bx:=by
 refine⟨fun σ bx=>∃k,k<=n/\I k σ bx,fun σ bx=>n - u0 (fun k=>I k σ bx) n,⟨0,Nat.zero_le _,h0⟩,?_⟩;rintro σ bx ⟨k,NG,hi⟩;dsimp only;obtain⟨g1,g2⟩:=vp (fun k=>I k σ bx) n k NG hi;have g3:=DP (fun k=>I k σ bx) n;generalize u0 (fun k=>I k σ bx) n=m at g1 g2 g3⊢;have mono:∀(K K':Env->ae->Prop) (bx:ae),(∀σ bx,K σ bx->K' σ bx)->cD P C c (dG K Q) σ bx->cD P C c (dG K' Q) σ bx:=fun K K' bx hK h=>lD (fun e σ bx he=>by cases e<;>first|exact hK _ _ he|exact he) h;by_cases hm:m<n
 ·obtain⟨bx0,yt,oy⟩:=hk m σ bx hm g1;refine⟨bx0,yt,mono _ _ _ (fun σ' bx' h'=>?_) oy⟩;obtain⟨q1,q2⟩:=vp (fun k=>I k σ' bx') n (m+1) oM h';exact⟨⟨m+1,by omega,h'⟩,by omega⟩
 ·obtain rfl:m=n:=oM;obtain⟨bx0,yt,oy⟩:=hn σ bx g1;exact⟨bx0,yt,mono _ _ _ (fun _ _ h'=>h'.elim) oy⟩
def aD{k:Nat}(h:k<9223372036854775807):IntKind.i64.wrap ((k:Int)+1)=((k+1:Nat):Int):=by rw[wrap_i64 oM oM];rfl
end Go.V
namespace Go.V
open Go.RowKit
variable {P:Program} {X:Ctx} {ρ ρ':cM} {σ:Env} {bx:ae} {a:Act} {w:World} {s e s' e':Nat} {S:Nat->Prop} {d:D} {v:Value}
theorem bj.xS{f:FuncId}{base:Nat}{ds:List D}{Q Q' Qp:D->ae->Prop}(h:bj P f base ds bx Q Qp)
 (hq:∀d bx',Q d bx'->Q' d bx'\/∃s s' oL,s≠s'/\(bx' s).k=1/\(bx' s').k=0/\Q' d (jC s s' oL bx')):bj P f base ds bx Q' Qp:=by
 intro X ρ σ a w vs hS bF hl hv;have fin:∀v w',(∃d bx' ρ',Q d bx'/\aA X ρ' σ bx' a w'/\aH w' (az X ρ' bx' w') ρ' d v)->∃d bx' ρ',Q' d bx'/\aA X ρ' σ bx' a w'/\aH w' (az X ρ' bx' w') ρ' d v:=by
  rintro v w' ⟨d,bx',ρ',h1,h2,h3⟩;rcases hq d bx' h1 with h1|⟨s,s',oL,k1,k2,k3,k4⟩
  ·exact⟨d,bx',ρ',h1,h2,h3⟩
  ·obtain⟨ρ2,g1,g2⟩:=h2.rename bF k1 k2 k3 oL;exact⟨d,_,ρ2,k4,g1,g2 d v h3⟩
 exact(h X ρ σ a w vs hS bF hl hv).mono fin fun _ _ h=>h
theorem bj.mono{f:FuncId}{base:Nat}{ds:List D}{Q Q' Qp Qp':D->ae->Prop}(h:bj P f base ds bx Q Qp)(hq:∀d bx',Q d bx'->Q' d bx')(hp:∀d bx',Qp d bx'->Qp' d bx'):bj P f base ds bx Q' Qp':=
 fun X ρ σ a w vs hS bF hl hv=>(h X ρ σ a w vs hS bF hl hv).mono (fun v w' ⟨d,bx',ρ',h1,h2⟩=>⟨d,bx',ρ',hq _ _ h1,h2⟩) (fun v w' ⟨d,bx',ρ',h1,h2⟩=>⟨d,bx',ρ',hp _ _ h1,h2⟩)
def aB{α:Type}{σ:Nat->α}{t:Nat}{v:α}{x:Nat}(h:x≠t):ak σ t v x=σ x:=by simp[ak,h]
def km{n s:Nat}(h:s<n):bU n bx s=bx s:=by simp[bU,h]
theorem aX.cut{ts:List Nat}{el esz n:Nat}{x:D}{xs:List D}(h:aX bx ts el esz x xs)(hn:∀t,t∈ts->t<n):aX (bU n bx) ts el esz x xs:=h.of fun t ht=>km (hn t ht)
theorem aX.Ak{ts:List Nat}{el esz n:Nat}{x:D}{xs:List D}(h:aX (bU n bx) ts el esz x xs)(hn:∀t,t∈ts->t<n):aX bx ts el esz x xs:=h.of fun t ht=>(km (hn t ht)).symm
theorem aX.facts{ts:List Nat}{el esz:Nat}{x:D}{xs:List D}(h:aX bx ts el esz x xs):x.cells=[x]/\x.one=true/\∀c,fi x 0 [c]=some c:=by rcases h with⟨rfl,rfl⟩|⟨t,e,_,rfl,hb⟩<;>exact⟨rfl,rfl,fun c=>by simp[fi,D.cells]⟩
def DD(bx:ae)(s el esz:Nat)(x:D)(xs:List D):Prop:=
 (x= .aq/\xs=[]/\(bx s).k=0)\/∃e,x= .bE s e esz 0 xs.length/\bx s=⟨e,1,esz,el,xs⟩
theorem DD.nil{s el esz:Nat}(h:(bx s).k=0):DD bx s el esz .aq []:=.inl ⟨rfl,rfl,h⟩
theorem DD.of{bx':ae}{s el esz:Nat}{x:D}{xs:List D}(h:DD bx s el esz x xs)(hb:bx' s=bx s):DD bx' s el esz x xs:=by unfold DD;rw[hb];exact h
theorem aX.out{ts:List Nat}{el esz:Nat}{x:D}{xs:List D}(h:aX bx ts el esz x xs)(hp:D.aF xs=true):∃r,bz bx x=some r/\bN r (.sl esz xs):=by
 rcases h with⟨rfl,rfl⟩|⟨t,e,_,rfl,hb⟩
 ·exact⟨_,wQ,.nil _⟩
 ·exact⟨_,by rw[lX,hb];exact eK _ _ _ _ _ _ (by decide) rfl hp,.refl _⟩
theorem ao.ve{f:FuncId}{ds ds':List D}{d:D}(h:ao P f ds d)(hl:ds'.length=ds.length)(hw:∀(i:Nat) x x',ds'[i]? =some x->ds[i]? =some x'->bN x x'):ao P f ds' d:=by
 intro w S vs hS hg hn hv;refine h w S vs hS hg (hn.trans hl) fun i x v hx aT=>?_;have hi:i<ds'.length:=by rw[hl];exact(gS.1 hx).1
 exact aH.ve (hw i _ x (gE hi) hx) (hv i _ v (gE hi) aT)
theorem ao.SM{f:FuncId}{x x':D}{d:D}(h:ao P f [x'] d)(hw:bN x x'):ao P f [x] d:=by
 refine h.ve rfl fun i a b ha hb=>?_
 match i with
 |0=>simp at ha hb;subst ha;subst hb;exact hw
 |i+1=>simp at ha
theorem ao.SN{f:FuncId}{x x' y y':D}{d:D}(h:ao P f [x',y'] d)(hw:bN x x')(iL:bN y y'):ao P f [x,y] d:=by
 refine h.ve rfl fun i a b ha hb=>?_
 match i with
 |0=>simp at ha hb;subst ha;subst hb;exact hw
 |1=>simp at ha hb;subst ha;subst hb;exact iL
 |i+2=>simp at ha
def vY{lo:Nat}{T:TypeId->TI}{e esz b size d:Nat}{ag fk:Bool}{z:List D}{x:D}{xs ys:List D}{K2:D×ae->Prop}(hx:aX bx [d] e esz x xs)(hz:(T e).zero.length=esz)
 (h1:(xs.length+ys.length) * b<=140737488355328) (h2:0<esz) (h3:0<b) (bF:lo<=d)
 (hk:∀x' bx',aX bx' [d] e esz x' (xs++ys)->(∀s,s≠d->bx' s=bx s)->K2 (x',bx')):
 aK (f_ lo T ⟨.slice e esz b ag,size,fk,z⟩ (some d) bx x ys) K2:=by
 by_cases hy:ys=[]
 ·subst hy;exact iB hx (hk _ _ (by simpa using hx) fun _ _=>rfl)
 ·refine gP hx hy hz h1 h2 h3 (fun t ht=>by simp at ht;subst ht;exact bF) fun e' bx' hb hf=>hk _ _ ?_ fun s hs=>hf s hs (by simpa using hs);exact aX.mk sI hb
theorem kW{a b a' b':D}(h1:bN a a')(h2:bN b b'):bN (.aL [a,b]) (.aL [a',b']):=by
 refine .aL rfl fun i x x' hx dJ=>?_
 match i with
 |0=>simp at hx dJ;subst hx;subst dJ;exact h1
 |1=>simp at hx dJ;subst hx;subst dJ;exact h2
 |i+2=>simp at hx
end Go.V
namespace Go.V
open Go.RowKit
variable {P:Program} {C:Calc} {X:Ctx} {ρ:cM} {σ:Env} {bx:ae} {a:Act} {w:World} {n:Nat}
inductive RM where
 |ret
 |cU (d:D)
def RM.val:RM->D
 | .ret=> .raw .nilIface
 | .cU d=>d
def MR(w:World)(S:Nat->Prop)(ρ:cM):RM->FrameMode->Prop
 | .ret,u=>u= .returning
 | .cU d,u=>∃v,u= .panicking [pe v]/\aH w S ρ d v
theorem MR.imp{w w':World}{S S':Nat->Prop}{ρ ρ':cM}{m:RM}{u:FrameMode}(h:MR w S ρ m u)(hr:∀d v,aH w S ρ d v->aH w' S' ρ' d v):MR w' S' ρ' m u:=by
 cases m with
 |ret=>exact h
 |cU d=>obtain⟨v,h1,h2⟩:=h;exact⟨v,h1,hr _ _ h2⟩
theorem MR.ne{w:World}{S:Nat->Prop}{ρ:cM}{m:RM}{u:FrameMode}(h:MR w S ρ m u):u≠ .run:=by
 cases m with
 |ret=>rw[show u= .returning from h];simp
 |cU d=>obtain⟨v,h1,_⟩:=h;rw[h1];simp
theorem MR.settle{w:World}{S:Nat->Prop}{ρ:cM}{m:RM}{u:FrameMode}(h:MR w S ρ m u):settle u=u:=by
 cases m with
 |ret=>rw[show u= .returning from h];rfl
 |cU d=>obtain⟨v,h1,_⟩:=h;rw[h1];rfl
def BS(P:Program)(f:FuncId)(base:Nat)(ds:List D)(bx:ae)(m:RM)(Q:RM->ae->Prop):Prop:=
 ∀(X:Ctx) (ρ:cM) (σ:Env) (a:Act) (w:World) (vs:Array Value) (u:FrameMode),aA X ρ σ bx a w->X.lo=0->vs.size=ds.length->(∀(i:Nat) x v,ds[i]? =some x->vs[i]? =some v->aH w (az X ρ bx w) ρ x v)->MR w (az X ρ bx w) ρ m u->
  (callFunc f vs).run P w= .ok (.enter f vs) w/\CallsDIn Fence.wide 0 P f vs u w fun e u' w'=>∃v,e= .returned v/\∃m' bx' ρ',Q m' bx'/\aA X ρ' σ bx' a w'/\MR w' (az X ρ' bx' w') ρ' m' (Go.settle u')
def CV(P:Program)(bk:Nat):List D->RM->ae->(RM->ae->Prop)->Prop
 |[],m,bx,K=>K m bx
 | .aL (.fn (.func f) caps::args)::l,m,bx,K=>∃Q,BS P f bk (args++caps) bx m Q/\∀m' bx',Q m' bx'->CV P bk l m' bx' K
 |_::_,_,_,_=>False
def tK(P:Program)(bk:Nat)(l:List D)(m:RM)(bx:ae)(K:RM->ae->Prop)(_:Tok (K m bx):=⟨⟩):Prop:=CV P bk l m bx K
theorem CallsDIn.ZQ{F:Fence}{f:FuncId}{args:Array Value}{u:FrameMode}{R R':Ending->FrameMode->World->Prop}(h:CallsDIn F n P f args u w R)(hi:∀e u w,R e u w->R' e u w):CallsDIn F n P f args u w R':=by
 refine⟨h.1,fun c cs hu hr=>?_⟩;obtain⟨e,u',w',fr,g1,g2⟩:=h.2 c cs hu hr;exact⟨e,u',w',fr,hi _ _ _ g1,g2⟩
theorem yX{fn:Func}{bk:Nat}(bF:X.lo=0)(yG:X.ml=X.w0.heap.size)(mM:X.md=2){K:RM->ae->Prop}{R:Ending->World->Prop}{tmps:Array Value}:∀(ds:List Deferred) (l:List D) (m:RM) (u:FrameMode) (a:Act) (ρ:cM) (σ:Env) (bx:ae) (w:World),a.defers=ds->aA X ρ σ bx a w->pY (σ ed)=l->
 MR w (az X ρ bx w) ρ m u->CV P bk l m bx K->
 (∀ρ' σ' bx' w' m' u',(∀t,t≠ed->σ' t=σ t)->aA X ρ' σ' bx' {a with defers:=[]} w'->K m' bx'->MR w' (az X ρ' bx' w') ρ' m' u'->LeavesIn Fence.wide 0 P fn tmps R [] u' w')->LeavesInM Fence.wide 0 P fn tmps R ds u w
 |[],l,m,u,a,ρ,σ,bx,w,hd,h,hl,hm,hc,hR=>by
  obtain⟨hk,_⟩:=h.marks.resolve_left oM;rw[if_neg oM,hl,hd]at hk;cases hk;exact hR ρ σ bx w m u (fun _ _=>rfl) (h.switch h.size (.nil (.inr (.inr hl))) h.tmps) hc hm
 |d::ds,l,m,u,a,ρ,σ,bx,w,hd,h,hl,hm,hc,hR=>by
  obtain⟨hk,_⟩:=h.marks.resolve_left oM;rw[if_neg oM,hl,hd]at hk;refine⟨hm.ne,?_⟩;cases hk with
  |@mark _ r _ h1 h2 h3 h4=>
   have hw:=(h.hold r _ h1).1;obtain⟨ρ',h',_,CJ⟩:=h.Mb hd yG oM (py w r (.deferred none)) (World.putObj_heap_same (Array.getElem?_eq_some_iff.1 hw).1) bF;exact .inl ⟨r,_,rfl,run_takeDeferred hw,yX bF yG mM ds l m u {a with defers:=ds} ρ' σ bx _ rfl h' hl (hm.imp CJ) hc hR⟩
  |@call f caps args l' vc va _ g1 g2 g3 g4 g5=>
   obtain⟨Q,hQ,Zw⟩:=hc;have h':aA X ρ (ak σ ed (.any l')) bx {a with defers:=ds} w:=h.switch h.size (.inr ⟨by rw[if_neg oM,eC];exact g5,fun h3=>by omega⟩) (fun t=>by
    simp only[ak];split
    ·exact .pure (.any _ _)
    ·exact h.tmps t)
   obtain⟨k1,k2⟩:=hQ X ρ _ _ w (va++vc) u h' bF (by simp[g1,g3]) (fun i x v hx hv=>by
    by_cases hi:i<args.length
    ·rw[List.getElem?_append_left hi]at hx;rw[Array.getElem?_append_left oM]at hv;exact g4 i x v hx hv
    ·rw[List.getElem?_append_right oM]at hx;rw[Array.getElem?_append_right oM,g3]at hv;exact g2 _ x v hx hv) hm
   refine .inr ⟨by simp[Fence.wide],.func f,vc,f,va++vc,rfl,by simpa[invoke]using k1,fun _ _=>trivial,CallsDIn.ZQ k2 ?_⟩;rintro e u' w' ⟨v,rfl,m',bx',ρ',q1,q2,q3⟩;exact yX bF yG mM ds l' m' _ {a with defers:=ds} ρ' _ bx' w' rfl q2 (by rw[eC];rfl) q3 (Zw _ _ q1) fun ρ2 σ2 bK w2 m2 u2 e1 e2 e3 e4=>hR ρ2 σ2 bK w2 m2 u2 (fun t ht=>by rw[e1 t ht];simp[ak,ht]) e2 e3 e4
def L8(rv:List ResultVar):Bool:=rv.all fun r=>match r with
 | .tmp t=>t != ed
 | .cell t _=>t != ed
theorem Db{σ σ':Env}(h:∀t,t≠ed->σ' t=σ t):∀(rv:List ResultVar),L8 rv=true->jD P σ' bx rv=jD P σ bx rv
 |[],_=>rfl
 |r::rv,hr=>by
  simp only[L8,List.all_cons,bA]at hr;have:=Db h rv hr.2;simp only[jD,this];cases r with
  |tmp t=>simp only[o7];rw[h t (by have:=hr.1;simpa using this)]
  |cell t T=>simp only[o7];rw[h t (by have:=hr.1;simpa using this)]
def tM(P:Program)(rv:List ResultVar)(σ:Env)(cB Pan:D->ae->Prop):RM->ae->Prop
 | .ret,bx=>aK (jD P σ bx rv) fun rs=>cB (l9 rs) bx
 | .cU d,bx=>Pan d bx
def L4(P:Program)(bk:Nat)(rv:List ResultVar)(cB Pan:D->ae->Prop):DX->Env->ae->Prop
 | .normal,σ,bx| .ret,σ,bx=>tK P bk (pY (σ ed)) .ret bx (tM P rv σ cB Pan)
 | .cU d,σ,bx=>tK P bk (pY (σ ed)) (.cU d) bx (tM P rv σ cB Pan)
 |_,_,_=>False
def EF(P:Program)(O:gN)(tab:List (Nat×List (Nat×Nat)))(fn:Func)(base:Nat)(ds:List D)(bx:ae)(cB Pan:D->ae->Prop):Prop:=
 ∃c,fn.body=some c/\codeOk tab fn.ntmps c=true/\L8 fn.results.toList=true/\cD P ⟨O,tab,base,base+fn.ntmps,0,none,true,true⟩ c (L4 P (base+fn.ntmps) fn.results.toList cB Pan) (bB 0 ds) bx
def Nc(hm:P.follows .mixedOrders=true){f:FuncId}{fn:Func}{O:gN}{tab:List (Nat×List (Nat×Nat))}{base:Nat}{ds:List D}{bx:ae}{Q Qp:D->ae->Prop}(hf:P.funcs[f]? =some fn)
 (eM:(fn.name== "runtime.NumGoroutine")=false) (hlen:ds.length<=fn.ntmps) (hO:Ok P O) (h:EF P O tab fn base ds bx Q Qp):bj P f base ds bx Q Qp:=by
 obtain⟨c,hb,bD,AF,hc⟩:=h;obtain⟨hN,bD⟩:fn.ntmps<=ed/\dA tab fn.ntmps c=true:=by simpa[codeOk,ed]using bD
 intro X ρ σ a w vs hS mn hl hv;refine .inl ⟨Go.MuLone.run_callFunc_enter hf eM hb vs w,callsIn_wide.1 (callsIn_of_wp_marks (F:=Fence.wide) (n:=0) hf hb trivial ?_)⟩;obtain⟨k1,k2⟩:=nN (N:=fn.ntmps) hl hlen hv;have qy:pY (bB 0 ds ed)=[]:=by
  rw[vZ,if_neg oM,List.getElem?_eq_none oM];rfl
 have h0:=hS.sub (E:=fun _=>False) (N:=fn.ntmps) (ml:=w.heap.size) (md:=2) (σ':=bB 0 ds) (a':={tmps:=vs++Array.replicate (fn.ntmps - vs.size) undef,defers:=[]}) hN (fun _ h=>h.elim) k1 (.nil (.inr (.inr qy))) (Nat.le_refl _) k2;refine dS hm c none 0 ⟨O,tab,base,base+fn.ntmps,0,none,true,true⟩ _ _ _ _ _ _ _ w ⟨hO,Nat.le_refl _,Nat.zero_le _,(fun _ _ _ hk=>by cases hk),(fun _=>rfl),(fun hf=>by have:(2:Nat)=3:=hf;omega),fun hf=>by have:(2:Nat)=3:=hf;omega⟩ (fun l hl=>by cases hl) bD h0 hc fun e e' σ' bx' a' w' ρ' hx hq h'=>?_;have fin:∀m u,MR w' (az X ρ' bx' w') ρ' m u->CV P (base+fn.ntmps) (pY (σ' ed)) m bx' (tM P fn.results.toList σ' Q Qp)->
  LeavesInM Fence.wide 0 P fn a'.tmps (fun e w'=>(∃v,e= .returned v/\∃d bx' ρ',Q d bx'/\aA X ρ' σ bx' a w'/\aH w' (az X ρ' bx' w') ρ' d v)\/∃v,e= .panicked [pe v]/\∃d bx' ρ',Qp d bx'/\aA X ρ' σ bx' a w'/\aH w' (az X ρ' bx' w') ρ' d v) a'.defers u w':=by
  intro m u JP hq;refine yX rfl rfl rfl a'.defers _ m u a' ρ' σ' bx' w' rfl h' rfl JP hq fun ρ2 σ2 bK w2 m2 u2 he h2 hk oB=>?_;have sA:aA X ρ2 σ bK a w2:=hS.back rfl rfl h2 (fun _ h=>h.elim) (fun _ h=>h.elim) (fun _ h=>h.elim) (hS.y0 mn _ _);cases m2 with
  |ret=>
   rw[show u2= .returning from oB];simp only[tM]at hk;cases hr:jD P σ' bK fn.results.toList with
   |none=>rw[hr]at hk;exact hk.elim
   |some rs=>
    rw[hr]at hk;obtain⟨v,g1,g2⟩:=rZ h2 (fn:=fn) (by rw[Db he _ AF];exact hr);exact⟨v,g1,.inl ⟨v,rfl,l9 rs,bK,ρ2,hk,sA,g2⟩⟩
  |cU d=>
   obtain⟨v,hu,hv⟩:=oB;rw[hu];exact .inr ⟨v,rfl,d,bK,ρ2,hk,sA,hv⟩
 rcases hx.cases with⟨rfl,rfl⟩|⟨rfl,rfl⟩|⟨_,rfl,rfl⟩|⟨_,rfl,rfl⟩|⟨d,v,rfl,rfl,hv⟩
 ·exact fin .ret _ rfl hq
 ·exact fin .ret _ rfl hq
 ·exact hq.elim
 ·exact hq.elim
 ·exact fin (.cU d) _ ⟨v,rfl,hv⟩ hq
theorem aA.jb{ρ2:cM}{σ2:Env}{bK:ae}{a2:Act}{w2:World}{E:Nat->Prop}{N ml md:Nat}(h:aA X ρ σ bx a w)(k:aA (X.sub ρ bx w E N ml md) ρ2 σ2 bK a2 w2)(hE:∀b,¬E b):∀d v,aH w (az X ρ bx w) ρ d v->aH w2 (az X ρ2 bK w2) ρ2 d v:=by
 have wE:∀b,az X ρ bx w b->¬(X.sub ρ bx w E N ml md).M b:=by
  rintro b hb ⟨t,p,hk,hp,rfl⟩;exact hb.2.2 t hk p hp rfl
 refine fun d v hd=>hd.fc (fun b hb o ho hc=>(k.fr.block b hb.1 (fun hm=>?_)).trans ho) (fun b hb=>?_) k.r0
 ·rcases hm with hm|hm
  ·exact wE b hb hm
  ·have:=k.ec b hm o ho;rw[hc]at this;cases this
 ·refine⟨Nat.lt_of_lt_of_le hb.1 k.fr.size,hb.2.1,fun t ht p hp e=>?_⟩;obtain⟨p',bJ,_,_,gJ,_⟩:=k.box t (by rw[ht];decide);rw[hp]at bJ;injection bJ with bJ;subst bJ;rcases gJ.2 ht with h1|h1
  ·have:=hb.1;simp only[Ctx.sub]at h1;omega
  ·exact wE b hb (e▸h1)
def ny(P:Program):List Oper->Env->ae->Option Env
 |[],σ,_=>some σ
 |o::l,σ,bx=>if o.guard.isSome then none else match cQ P σ bx o.op with
  |some v=>ny P l (put σ o.dst v) bx
  |none=>none
def Ij(cB:ae->Prop):DX->Env->ae->Prop
 | .normal,_,bx| .ret,_,bx=>cB bx
 |_,_,_=>False
def FM(N:Nat)(l:List Oper):Bool:=l.all fun o=>match o.dst with
 |some d=>decide (d<N)
 |none=>true
def gN.Bl(O:gN):gN:=⟨O.to,O.ud,fun _ _ _ _=>False,fun _ _ _ _ _=>False⟩
def yk(P:Program)(O:gN)(tab:List (Nat×List (Nat×Nat)))(fn:Func)(base:Nat)(ds:List D)(bx:ae)(m:RM)(cB:RM->ae->Prop):Prop:=
 fn.results.toList=[]/\((∃c,fn.body=some c/\codeOk tab fn.ntmps c=true/\cD P ⟨O.Bl,tab,base,base+fn.ntmps,0,none,false,false⟩ c (Ij (cB m)) (bB 0 ds) bx)\/
 (∃id t args cx ty pos af L rest σ',fn.body=some (.seq (.region id (⟨some t,.call {callee:=.builtin .recover,args,argTypes:=cx},ty,pos,af,none⟩::L).toArray false) rest)/\t<fn.ntmps/\FM fn.ntmps L=true/\codeOk tab fn.ntmps rest=true/\
  ny P L (ak (bB 0 ds) t m.val) bx=some σ'/\cD P ⟨O.Bl,tab,base,base+fn.ntmps,0,none,false,false⟩ rest (Ij (cB .ret)) σ' bx))
theorem Ok.Bl{O:gN}(h:Ok P O):Ok P O.Bl:=⟨h.to,h.ud,fun _ _ _ _ h=>h.elim,fun _ _ _ _ _ h=>h.elim⟩
theorem zp{ops:Array Oper}{Q:Exit->Act->List Frame->World->Prop}{cs:List Frame}:∀(L pre:List Oper) (σ σ':Env) (a:Act) (ρ:cM) (w:World),ops.toList=pre++L->FM X.N L=true->aA X ρ σ bx a w->ny P L σ bx=some σ'->
 (∀ρ' a' w',(∀d v,aH w (az X ρ bx w) ρ d v->aH w' (az X ρ' bx w') ρ' d v)->aA X ρ' σ' bx a' w'->Q .normal a' cs w')->wpOpsSIn Fence.wide n P ops Q (List.range' pre.length L.length) a cs w
 |[],pre,σ,σ',a,ρ,w,Hb,hd,h,hr,hQ=>by
  simp only[ny,sJ]at hr;subst hr;exact hQ ρ a w (fun _ _ h=>h) h
 |o::L,pre,σ,σ',a,ρ,w,Hb,hd,h,hr,hQ=>by
  simp only[ny]at hr;split at hr
  ·cases hr
  ·rename_i hg;have hg:o.guard=none:=by simpa using hg
   simp only[FM,List.all_cons,bA]at hd;split at hr
   ·rename_i v hv;obtain⟨u,w',bR,hb,fq⟩:=Fx h o hv;have ho:ops[pre.length]? =some o:=by rw[<-aG,Hb];simp
    have ZG:Region.wanted o (yielded ops a.tmps)=true:=by simp[Region.wanted,hg]
    simp only[List.length_cons,List.range'_succ,wpOpsSIn,ho,ZG,if_true,bR];refine⟨fun _ _=>trivial,?_⟩;have hx:=h.ext hb;have hS:∀b,az X ρ bx w b->az X ρ bx w' b:=fun b eg=>⟨Nat.lt_of_lt_of_le eg.1 hb.size,eg.2⟩
    have hp:aA X ρ (put σ o.dst v) bx (a.put o.dst u) w':=hx.put (fun t ht=>by have:=hd.1;rw[ht]at this;simpa using this) fq;have:=zp (ops:=ops) L (pre++[o]) (put σ o.dst v) σ' (a.put o.dst u) ρ w' (by simp[Hb]) hd.2 hp hr (fun ρ' a' w2 h2 h3=>hQ ρ' a' w2 (fun d v hdv=>h2 d v (hdv.mono (fun b eg=>hb.block b eg.1) hS (fun _ _ _ h=>h))) h3);simpa using this
   ·cases hr
def Nd(hm:P.follows .mixedOrders=true){f:FuncId}{fn:Func}{O:gN}{tab:List (Nat×List (Nat×Nat))}{base:Nat}{ds:List D}{bx:ae}{m:RM}{Q:RM->ae->Prop}(hf:P.funcs[f]? =some fn)
 (eM:(fn.name== "runtime.NumGoroutine")=false) (hlen:ds.length<=fn.ntmps) (hO:Ok P O) (h:yk P O tab fn base ds bx m Q):BS P f base ds bx m Q:=by
 obtain⟨Bg,h⟩:=h;intro X ρ σ a w vs u hS mn hl hv JP;obtain⟨k1,k2⟩:=nN (N:=fn.ntmps) hl hlen hv;have fin:∀(c₀:Frame) (cs:List Frame) (u':FrameMode) (m':RM) (e:DX) (e':Exit) (σ':Env) (bx':ae) (a':Act) (w':World) (ρ':cM) (E:Nat->Prop),XR w' (az X ρ' bx' w') ρ' e e'->Ij (Q m') e σ' bx'->aA (X.sub ρ bx w (fun _=>False) fn.ntmps w.heap.size 3) ρ' σ' bx' a' w'->
  MR w' (az X ρ' bx' w') ρ' m' (Go.settle u')->
  bodyPostS P fn c₀ cs (fun e u' w'=>∃v,e= .returned v/\∃m' bx' ρ',Q m' bx'/\aA X ρ' σ bx' a w'/\MR w' (az X ρ' bx' w') ρ' m' (Go.settle u')) e' a' ({c₀ with mode:=u'}::cs) w':=by
  intro c₀ cs u' m' e e' σ' bx' a' w' ρ' E hx hq h' tB;have hd:a'.defers=[]:=by
   rcases h'.marks with h3|h3
   ·have:(3:Nat)=1:=h3;omega
   ·exact h3.2 rfl
  obtain⟨v,g1,g2⟩:=rZ h' (fn:=fn) (rs:=[]) (by rw[Bg];rfl);have sA:aA X ρ' σ bx' a w':=hS.back rfl rfl h' (fun _ h=>h.elim) (fun _ h=>h.elim) (fun _ h=>h.elim) (hS.y0 mn _ _);rcases hx.cases with⟨rfl,rfl⟩|⟨rfl,rfl⟩|⟨_,rfl,rfl⟩|⟨_,rfl,rfl⟩|⟨d,v,rfl,rfl,hv⟩
  ·exact⟨hd,u',rfl,v,g1,v,rfl,m',bx',ρ',hq,sA,tB⟩
  ·exact⟨hd,u',rfl,v,g1,v,rfl,m',bx',ρ',hq,sA,tB⟩
  all_goals exact hq.elim
 have hG:Good P ⟨O.Bl,tab,base,base+fn.ntmps,0,none,false,false⟩ (X.sub ρ bx w (fun _=>False) fn.ntmps w.heap.size 3):=⟨hO.Bl,Nat.le_refl _,Nat.zero_le _,(fun _ _ _ hk=>by cases hk),(fun hf=>by cases hf),(fun _ _ _ _ _ h=>h),fun _ _ _ _ _ _ h=>h⟩
 have qy:pY (bB 0 ds ed)=[]\/fn.ntmps>ed:=by
  by_cases hN:fn.ntmps>ed
  ·exact .inr hN
  ·refine .inl ?_;rw[vZ,if_neg oM,List.getElem?_eq_none oM];rfl
 rcases h with⟨c,hb,bD,hc⟩|⟨id,t,args,cx,ty,pos,af,L,rest,σ1,hb,ht,hL,bD,ZB,hc⟩
 ·obtain⟨hN,bD⟩:fn.ntmps<=ed/\dA tab fn.ntmps c=true:=by simpa[codeOk,ed]using bD
  have h0:=hS.sub (E:=fun _=>False) (N:=fn.ntmps) (ml:=w.heap.size) (md:=3) (σ':=bB 0 ds) (a':={tmps:=vs++Array.replicate (fn.ntmps - vs.size) undef,defers:=[]}) hN (fun _ h=>h.elim) k1 (.nil (.inr (.inr (qy.resolve_right oM)))) (Nat.le_refl _) k2;refine⟨Go.MuLone.run_callFunc_enter hf eM hb vs w,callsDIn_of_wpSIn hf hb trivial fun c₀ cs hu=>wpSIn_of_wpIn rfl ?_⟩;refine dS hm c none 0 _ _ _ _ _ _ _ _ w hG (fun l hl=>by cases hl) bD h0 hc fun e e' σ' bx' a' w' ρ' hx hq h'=>?_;subst hu;have tB:MR w' (az X ρ' bx' w') ρ' m c₀.mode:=JP.imp (hS.jb h' fun _ hb=>hb.elim);exact fin c₀ cs c₀.mode m e e' σ' bx' a' w' ρ' (fun _=>False) hx hq h' (by rw[JP.settle];exact tB)
 ·obtain⟨hN,bD⟩:fn.ntmps<=ed/\dA tab fn.ntmps rest=true:=by simpa[codeOk,ed]using bD
  have EU:br w (az X ρ bx w) (.raw .nilIface) .nilIface:=.raw _;have h0:=hS.sub (E:=fun _=>False) (N:=fn.ntmps) (ml:=w.heap.size) (md:=3) (σ':=bB 0 ds) (a':={tmps:=vs++Array.replicate (fn.ntmps - vs.size) undef,defers:=[]}) hN (fun _ h=>h.elim) k1 (.nil (.inr (.inr (qy.resolve_right oM)))) (Nat.le_refl _) k2;refine⟨Go.MuLone.run_callFunc_enter hf eM hb vs w,callsDIn_of_wpSIn hf hb trivial fun c₀ cs hu=>wpSIn_seq (wpSIn_region ?_)⟩;have FQ:∀(u':FrameMode) (v:Value),Go.settle u'= .returning->aH w (az X ρ bx w) ρ m.val v->
   wpOpsSIn Fence.wide 0 P (⟨some t,.call {callee:=.builtin .recover,args,argTypes:=cx},ty,pos,af,none⟩::L).toArray (Exit.thenS (rest.wpSIn Fence.wide 0 P (bodyPostS P fn c₀ cs (fun e u' w'=>∃v,e= .returned v/\∃m' bx' ρ',Q m' bx'/\aA X ρ' σ bx' a w'/\MR w' (az X ρ' bx' w') ρ' m' (Go.settle u')))) (bodyPostS P fn c₀ cs (fun e u' w'=>∃v,e= .returned v/\∃m' bx' ρ',Q m' bx'/\aA X ρ' σ bx' a w'/\MR w' (az X ρ' bx' w') ρ' m' (Go.settle u'))))
    (List.range' 1 L.length) (({tmps:=vs++Array.replicate (fn.ntmps - vs.size) undef,defers:=[]}:Act).put (some t) v) ({c₀ with mode:=u'}::cs) w:=by
   intro u' v gp aT;have hp:=h0.put (dst:=some t) (d:=m.val) (v:=v) (fun t' oG=>by injection oG with oG;subst oG;exact ht) aT;refine zp L [⟨some t,.call {callee:=.builtin .recover,args,argTypes:=cx},ty,pos,af,none⟩] _ σ1 _ ρ w sI hL hp ZB fun ρ2 a2 w2 _ h2=>?_;refine wpSIn_of_wpIn rfl ?_;refine dS hm rest none 0 _ _ _ _ _ _ _ _ w2 hG (fun l hl=>by cases hl) bD h2 hc fun e e' σ' bx' a' w' ρ' hx hq h'=>?_;exact fin c₀ cs u' .ret e e' σ' bx' a' w' ρ' (fun _=>False) hx hq h' gp
  have Hb:(⟨some t,.call {callee:=.builtin .recover,args,argTypes:=cx},ty,pos,af,none⟩::L).toArray[0]? =some (⟨some t,.call {callee:=.builtin .recover,args,argTypes:=cx},ty,pos,af,none⟩:Oper):=by simp
  have bR:∀(ev:Operand->Value),(execOp ev (⟨some t,.call {callee:=.builtin .recover,args,argTypes:=cx},ty,pos,af,none⟩:Oper)).run P w= .ok .recover w:=fun ev=>by simp[execOp,resolve,invoke,builtin]
  have oe:List.range (⟨some t,.call {callee:=.builtin .recover,args,argTypes:=cx},ty,pos,af,none⟩::L).toArray.size=0::List.range' 1 L.length:=by simp[List.range_eq_range',List.range'_succ]
  rw[oe];simp only[wpOpsSIn,Hb,bR,Region.wanted,if_true];refine⟨fun _ _=>trivial,?_⟩;cases m with
  |ret=>
   have gp:u= .returning:=JP;have:recoverD (c₀::cs)=none:=by simp[recoverD,hu,gp]
   simp only[this];have:=FQ c₀.mode .nilIface (by rw[hu,gp];rfl) (.pure (.raw _));exact this
  |cU d=>
   obtain⟨v,gp,aT⟩:=JP;have:recoverD (c₀::cs)=some (v,{c₀ with mode:=.panicking [{v,recovered:=true}]}::cs):=by simp[recoverD,hu,gp,pe]
   simp only[this];exact FQ (.panicking [{v,recovered:=true}]) v rfl aT
theorem bj.to{f:FuncId}{ds:List D}{d:D}{Q Qp:D->ae->Prop}(h:bj P f 0 ds (fun _=> .none) Q Qp)(hp:∀d bx,¬Qp d bx)(hQ:∀d' bx',Q d' bx'->∃r,bz bx' d'=some r/\bN r d):ao P f ds d:=by
 intro w S vs hS G6 hl hv;let X0:Ctx:=⟨w,S,w.heap.size,fun _=>False,fun _=>False,0,⟨fun _ _=>none,fun _=>none⟩,w.heap.size,0,fun _ _=>True,0⟩
 have h0:aA X0 ⟨fun _ _=>none,fun _=>none⟩ (fun _=> .raw undef) (fun _=> .none) {tmps:= #[],defers:=[]} w:=
  ⟨.refl _ _,hS,Nat.le_refl _,fun _ h=>h.elim,fun _ h=>h.elim,rfl,.nil (.inl rfl),Nat.zero_le _,Nat.le_refl _,fun t=>by rw[show(#[]:Array Value).getD t undef=undef from by simp[Array.getD]];exact aH.pure (.raw _),.pure (G6.mono (fun _ _=>rfl) (fun b hb=>⟨hS b hb,.inl hb,fun t ht=>by simp[Bx.none]at ht⟩)),fun t ht=>absurd rfl ht.1,fun t t' p p' ht=>by simp[Bx.none]at ht,(fun t e p hp=>by cases hp),(fun t e p hp=>by cases hp),(fun t e hp=>by cases hp),(fun t e hp=>by cases hp),fun _ _ _ _ _=>trivial,trivial,fun _ _ _=>trivial,(fun t e hp=>by cases hp),⟨fun t ht=>by simp[Bx.none]at ht,fun t t' p p' ht=>by simp[Bx.none]at ht⟩⟩
 have hr:=h _ _ _ _ w vs h0 rfl hl (fun i x v hx aT=> .pure ((hv i x v hx aT).mono (fun _ _=>rfl) (fun b hb=>⟨hS b hb,.inl hb,fun t ht=>by simp[Bx.none]at ht⟩)));have fin:∀v w',(∃d bx' ρ',Q d bx'/\aA X0 ρ' (fun _=> .raw undef) bx' {tmps:= #[],defers:=[]} w'/\aH w' (az X0 ρ' bx' w') ρ' d v)->Go.V.cB w S d v w':=by
  rintro v w' ⟨d',bx',ρ',hq,g1,g3⟩;obtain⟨r,ho,hw⟩:=hQ d' bx' hq;refine⟨aH.ve hw (nV g1 _ _ v ⟨fun b hb=>?_,fun t _ hk p hp=>?_⟩ g3 ho),?_⟩
  ·rcases hb.2.1 with h1|h1
   ·exact .inl h1
   ·exact .inr ⟨h1,hb.1⟩
  ·obtain⟨p',bJ,_,_,gJ,hh⟩:=g1.box t hk;rw[hp]at bJ;injection bJ with bJ;subst bJ;exact .inr ⟨gJ.1,hh.lt⟩
  ·exact⟨g1.fr.os,g1.fr.tape,g1.fr.output,g1.fr.size,fun k hk=>g1.fr.block k hk (fun hm=>hm.elim id id)⟩
 rcases hr with⟨k1,k2⟩|⟨v,w',k1,k2⟩
 ·refine .inl ⟨k1,Calls.mono k2 ?_⟩;rintro e w' (⟨v,rfl,hg⟩|⟨v,rfl,d',bx',ρ',hq,_⟩)
  ·exact⟨v,rfl,fin v w' hg⟩
  ·exact absurd hq (hp _ _)
 ·exact .inr ⟨v,w',k1,fin v w' k2⟩
section
variable {Q:DX->Env->ae->Prop} {cB Pan:D->ae->Prop} {bk:Nat} {K:RM->ae->Prop}
@[go_sem ↓] def afW(rv:List ResultVar):L4 P bk rv cB Pan .ret σ bx=tK P bk (pY (σ ed)) .ret bx (tM P rv σ cB Pan):=ay
@[go_sem ↓] def afV(rv:List ResultVar)(d:D):L4 P bk rv cB Pan (.cU d) σ bx=tK P bk (pY (σ ed)) (.cU d) bx (tM P rv σ cB Pan):=ay
@[go_sem ↓] def YA(cB:ae->Prop):Ij cB .normal σ bx=cB bx:=ay
@[go_sem] def ahz(n:Nat)(h:n<1000000000):(ed=n)=False:=by simp only[ed];exact eq_false oM
@[go_sem] def ahD(n:Nat)(h:n<1000000000):(n=ed)=False:=by simp only[ed];exact eq_false oM
def Gt(d:D)(f:D->Prop)(_:Tok (f .undef):=⟨⟩):Prop:=match d with
 | .fn (.func g) caps=>f (.fn (.func g) caps)
 |_=>False
@[go_sem] def aa4(g:Nat)(caps:List D)(f:D->Prop):Gt (.fn (.func g) caps) f=f (.fn (.func g) caps):=ay
@[go_sem ↓] theorem YG{dst:Option Tmp}{ty:TypeId}{pos:String}{af:Array Edge}{g:Option (Nat×Bool)}{K1:Cl->Env->ae->Prop}(fo:Operand)(l:List Operand)(cx:Array TypeId):bp P C ⟨dst,.defer {callee:=.value fo,args:=l.toArray,argTypes:=cx},ty,pos,af,g⟩ σ bx K1=(C.df=true/\Gt (ev σ fo) fun fv=>K1 .n (put (ak σ ed (C7 (σ ed) fv (l.map (ev σ)))) dst (.raw undef)) bx):=by
 simp only[bp,Gt];cases ev σ fo with
 |fn f caps=>cases f<;>rfl
 |_=>rfl
@[go_sem] def afN(l:List D):pY (.any l)=l:=ay
@[go_sem] def acI(v:Value)(f:D)(args:List D):C7 (.raw v) f args= .any [.aL (f::args)]:=ay
@[go_sem] def ZK(m:RM):tK P bk [] m bx K=K m bx:=ay
@[go_sem] def ZL(rv:List ResultVar):tM P rv σ cB Pan .ret bx=aK (jD P σ bx rv) fun rs=>cB (l9 rs) bx:=ay
@[go_sem] def ahk:RM.val .ret= .raw .nilIface:=ay
@[go_sem] def ahj(d:D):RM.val (.cU d)=d:=ay
def jw{f:FuncId}{caps args l:List D}{m:RM}(Q:RM->ae->Prop)(h:BS P f bk (args++caps) bx m Q)(hk:∀m' bx',Q m' bx'->tK P bk l m' bx' K):tK P bk (.aL (.fn (.func f) caps::args)::l) m bx K:=⟨Q,h,hk⟩
@[go_sem] def Z0:ny P [] σ bx=some σ:=ay
def QJ(P:Program)(l:List Oper)(σ:Env)(bx:ae)(dst:Option Tmp):Option D->Option Env
 |some v=>ny P l (put σ dst v) bx
 |none=>none
@[go_sem] def acL(l:List Oper)(dst:Option Tmp)(v:D):QJ P l σ bx dst (some v)=ny P l (put σ dst v) bx:=ay
@[go_sem] def Yx(dst:Option Tmp)(op:Op)(ty:TypeId)(pos:String)(af:Array Edge)(l:List Oper):ny P (⟨dst,op,ty,pos,af,none⟩::l) σ bx=QJ P l σ bx dst (cQ P σ bx op):=by simp only[ny,QJ,Option.isSome_none,Bool.false_eq_true,if_false]
@[go_sem] def YO(x:Operand):cQ P σ bx (.assign x)=some (ev σ x):=ay
@[go_sem] def ade(x:Operand):cQ P σ bx (.move x)=some (ev σ x):=ay
end
def rk{O:gN}{tab:List (Nat×List (Nat×Nat))}{fn:Func}{base:Nat}{ds:List D}{bx:ae}{cB Pan:D->ae->Prop}(c:Code)(rv:List ResultVar)(n:Nat)(hc:fn.body=some c)(hr:fn.results=rv.toArray)(hn:fn.ntmps=n)(bD:codeOk tab n c=true)(AF:L8 rv=true)
 (h:cD P ⟨O,tab,base,base+n,0,none,true,true⟩ c (L4 P (base+n) rv cB Pan) (bB 0 ds) bx):EF P O tab fn base ds bx cB Pan:=by
 subst hn;refine⟨c,hc,bD,by rw[hr];simpa using AF,?_⟩;rw[hr];simpa using h
def lO{O:gN}{tab:List (Nat×List (Nat×Nat))}{fn:Func}{base:Nat}{ds:List D}{bx:ae}{m:RM}{cB:RM->ae->Prop}{id t:Nat}{args:Array Operand}{cx:Array TypeId}{ty:TypeId}{pos:String}{af:Array Edge}(L:List Oper)(rest:Code)(n:Nat)(hc:fn.body=some (.seq (.region id (⟨some t,.call {callee:=.builtin .recover,args,argTypes:=cx},ty,pos,af,none⟩::L).toArray false) rest))(hr:fn.results= #[])(hn:fn.ntmps=n)
 (hd:(decide (t<n)&&FM n L)=true) (bD:codeOk tab n rest=true) (σ':Env)
 (ho:ny P L (ak (bB 0 ds) t m.val) bx=some σ') (h:cD P ⟨O.Bl,tab,base,base+n,0,none,false,false⟩ rest (Ij (cB .ret)) σ' bx):yk P O tab fn base ds bx m cB:=by
 subst hn;simp only[bA,decide_eq_true_eq]at hd;exact⟨by rw[hr],.inr ⟨id,t,args,cx,ty,pos,af,L,rest,σ',hc,hd.1,hd.2,bD,ho,h⟩⟩
@[go_sem ↓] def Yr:isNil (.const (.slice none 0 0))=false:=ay
@[go_sem] def Y9(t e:Nat):(D.omap t e).cells=[.omap t e]:=ay
attribute [go_sem] reduceIte Nat.reduceMul Nat.reduceEqDiff Nat.reduceAdd Nat.reduceLeDiff Nat.reduceLT Nat.reduceSub Int.reduceLT Int.reduceLE Int.reduceEq Int.reduceToNat Option.map_some List.length_map gM Int.toNat_natCast
section
variable {P:Program} {Q:DX->Env->ae->Prop} {σ:Env} {bx:ae} {o:gN} {b n lo:Nat} {yl:Option (List (List D)×Nat×Nat)} {pn df:Bool}
@[go_sem ↓ high] def UZ(id:Nat)(l:List Oper):cD P ⟨o,[],b,n,lo,yl,pn,df⟩ (.region id l.toArray false) Q σ bx=oZ P ⟨o,[],b,n,lo,yl,pn,df⟩ l l [] σ bx fun acc σ' bx'=>vd Q acc σ' bx':=by simp[cD,cR,y_,nU]
end
class BP(b:Bool)(p q:outParam Prop):Prop where
 t:b=true->p
 f:b=false->q
instance (priority:=low)(b:Bool):BP b (b=true) (b=false):=⟨id,id⟩
instance(p:Prop)[Decidable p]:BP (decide p) p (¬p):=⟨of_decide_eq_true,of_decide_eq_false⟩
def zJ{b:Bool}{p q x y:Prop}[h:BP b p q](refine_1:p->x)(refine_2:q->y):iC b x y:=aY (fun e=>refine_1 (h.t e)) fun e=>refine_2 (h.f e)
end Go.V
