/- Lemmas on plain data and programs: part VD. -/
import Derived.Test.YtkknfajchefgaaaGreatDoorVt
import Derived.Test.YtkknfajchefgaaaGreatDoorVC
import Derived.RecoverIn
set_option linter.all false
set_option maxHeartbeats 8000000
namespace Go.V
open Go.Proofs Go.RowKit
variable {P:Program} {C:Calc} {Q:DX->Env->ab->Prop} {σ:Env} {bx:ab}
theorem Hg{full:List Oper}{K K':List Cl->Env->ab->Prop}(h:∀acc σ bx,K acc σ bx->K' acc σ bx){ps:List (Nat×Nat)}:∀ {l:List Oper} {i:Nat} {acc:List Cl} {σ:Env} {bx:ab},ya P C full ps i l acc σ bx K->ya P C full ps i l acc σ bx K'
 |[],i,acc,σ,bx,hs=>h _ _ _ hs
 |o::rest,i,acc,σ,bx,hs=>by
  simp only[ya]at hs⊢;exact cZ (fun s=>oU fun BW σ' bx' hk=>by
   unfold xv at hk⊢;split at hk
   ·exact awN
   ·exact Hg h hk) hs
theorem WA{full:List Oper}{K K':List Cl->Env->ab->Prop}(h:∀acc σ bx,K acc σ bx->K' acc σ bx){ps:List (Nat×Nat)}{l:List Oper}{acc:List Cl}{σ:Env}{bx:ab}(hs:C8 P C full ps l acc σ bx K):C8 P C full ps l acc σ bx K':=by
 cases ps with
 |nil=>exact oU h hs
 |cons p ps=>exact Hg h hs
theorem G9{K K':Cl->Env->ab->Prop}(h:∀c σ bx,K c σ bx->K' c σ bx):∀ {l:List Oper} {σ:Env} {bx:ab},wj P C l σ bx K->wj P C l σ bx K'
 |[],_,_,hs=>hs
 |[_],_,_,hs=>s_ h hs
 |_::p::l,_,_,hs=>G9 h (l:=p::l) hs
def WD{Pn Js:D->ab->Prop}{c:Cl}(h:∀d,Pn d bx->Js d bx)(hs:ug Pn c bx):ug Js c bx:=by
 unfold ug at hs⊢
 exact awN
theorem abG{c:Code}:∀ {C:Calc} {Q Q':DX->Env->ab->Prop} {σ:Env} {bx:ab},(∀e σ bx,Q e σ bx->Q' e σ bx)->cR P C c Q σ bx->cR P C c Q' σ bx:=by
 induction c with
 |skip=>intro C Q Q' σ bx h hs;exact h _ _ _ hs
 |region id ops draw=>
  intro C Q Q' σ bx h hs;cases draw
  ·exact WA (fun acc _ _ hk=>by
    unfold yJ at hk⊢
    grind) hs
  ·simp only[cR]at hs⊢;split at hs
   ·rename_i hd;rw[aaO hd]
    grind [Gc]
   ·rename_i hd;rw[aaw hd];split at hs
    ·rename_i hl;rw[aaO hl];exact oU (fun _ _ _ hk=>⟨hk.1,G9 (fun c σ bx hx=>mW (fun hp=>WD (fun d hp=>h _ _ _ hp) hp) (fun hq=>h _ _ _ hq) hx) hk.2⟩) hs
    ·rename_i hl;rw[aaw hl];exact oU (fun _ _ _ hk=>⟨hk.1,h _ _ _ hk.2⟩) hs
 |seq a b iha ihb=>
  intro C Q Q' σ bx h hs;refine iha (fun e σ bx he=>?_) hs;cases e<;>first|exact ihb h he|exact h _ _ _ he
 |cond c x y ihx ihy=>
  intro C Q Q' σ bx h hs;simp only[cR]at hs⊢;unfold F8 je at hs⊢
  exact awN
 |block id c ih=>
  intro C Q Q' σ bx h hs;refine ih (fun e σ bx he=>?_) hs;cases e with
  |exit Kn=>
   simp only[uO]at he⊢
   exact awN
  |_=>exact h _ _ _ he
 |loop c ih=>
  intro C Q Q' σ bx h hs;obtain⟨I,μ,h0,h1⟩:=hs;refine⟨I,μ,h0,fun σ bx hi=>let ⟨bx0,hm,hb⟩:=h1 σ bx hi;⟨bx0,hm,ih (fun e σ bx he=>?_) hb⟩⟩;cases e<;>first|exact he|exact h _ _ _ he
 |rangeFunc g ps a b iha ihb=>
  intro C Q Q' σ bx h hs;have round:∀ {ext:Nat} {J:Nat->ab->Prop} {n:Nat} {it:List D} {bx1:ab},cR P ⟨C.o,C.tab,C.base,C.aN+ext,C.lo,C.yl,false,false⟩ a (dK (cR P ⟨C.o,C.tab,C.base,C.aN+ext,C.lo,C.yl,false,false⟩ b (qC C.aN ext J n Q σ bx1)) KC) (kp σ ps.toList it) bx1->
   cR P ⟨C.o,C.tab,C.base,C.aN+ext,C.lo,C.yl,false,false⟩ a (dK (cR P ⟨C.o,C.tab,C.base,C.aN+ext,C.lo,C.yl,false,false⟩ b (qC C.aN ext J n Q' σ bx1)) KC) (kp σ ps.toList it) bx1:=by
   intro ext J n it bx1 k2;refine iha (fun e σ bx he=>?_) k2;cases e with
   |normal=>
    refine ihb (fun e σ bx he=>?_) he;obtain⟨m1,m2⟩:=he;refine⟨m1,?_⟩
    exact awN
   |_=>exact he
  obtain⟨f,caps,items,ext,g1,g2,g3,h2,J,j0,jr,jq⟩|⟨f,t,e,bb,items,pd,ext,g1,g2,g3,g4,g5,h2,J,j0,jr,jq⟩:=hs
  ·exact .inl ⟨f,caps,items,ext,g1,g2,g3,h2,J,j0,fun n it bx1 hi hj=>⟨(jr n it bx1 hi hj).1,round (jr n it bx1 hi hj).2⟩,fun bx1 hj=>h _ _ _ (jq bx1 hj)⟩
  ·refine .inr ⟨f,t,e,bb,items,pd,ext,g1,g2,g3,g4,g5,h2,J,j0,fun n it bx1 hi hj=>⟨(jr n it bx1 hi hj).1,round (jr n it bx1 hi hj).2⟩,fun bx1 hj=>?_⟩;have:=jq bx1 hj;cases pd<;>exact h _ _ _ this
 |scope c ih=>
  intro C Q Q' σ bx h hs;refine ih (fun e σ bx he=>?_) hs;cases e<;>first|exact he|exact h _ _ _ he
 |exit id=>intro C Q Q' σ bx h hs;exact h _ _ _ hs
 |ret=>intro C Q Q' σ bx h hs;exact h _ _ _ hs
 |label l=>intro C Q Q' σ bx h hs;exact h _ _ _ hs
 |_=>intro C Q Q' σ bx h hs;exact hs.elim
def my{c:Code}{Q':DX->Env->ab->Prop}(h:∀e σ bx,Q e σ bx->Q' e σ bx)(hs:cD P C c Q σ bx):cD P C c Q' σ bx:=abG h hs
noncomputable def yv(p:Nat->Prop):Nat->Nat
 |0=>0
 |n+1=>@ite _ (p (n+1)) (Classical.propDecidable _) (n+1) (yv p n)
theorem Iv(p:Nat->Prop):∀n,yv p n<=n
 |0=>aaN _
 |n+1=>by
  unfold yv;split
  ·exact awN
  ·exact Nat.le_succ_of_le (Iv p n)
theorem za(p:Nat->Prop):∀n k,k<=n->p k->p (yv p n)/\k<=yv p n
 |0,k,hk,h=>by
  obtain rfl:k=0:=oM;exact⟨h,aaN _⟩
 |n+1,k,hk,h=>by
  unfold yv;split
  ·exact awN
  ·rename_i h1;by_cases hkn:k=n+1
   ·exact awN
   ·exact za p n k oM h
def bB{c:Code}(n:Nat)(I:Nat->Env->ab->Prop)(h0:I 0 σ bx)
 (hk:∀k σ bx,k<n->I k σ bx->cD P C c (dK (fun σ' bx'=>I (k+1) σ' bx') Q) σ bx)
 (hn:∀σ bx,I n σ bx->cD P C c (dK (fun _ _=>False) Q) σ bx):cD P C (.loop c) Q σ bx:=by
 refine pc (fun σ bx=>∃k,k<=n/\I k σ bx) (fun σ bx=>n - yv (fun k=>I k σ bx) n) ⟨0,aes _,h0⟩ ?_;rintro σ bx ⟨k,hkn,hi⟩;obtain⟨g1,g2⟩:=za (fun k=>I k σ bx) n k hkn hi;have g3:=Iv (fun k=>I k σ bx) n;generalize yv (fun k=>I k σ bx) n=m at g1 g2 g3⊢;have mono:∀(K K':Env->ab->Prop),(∀σ bx,K σ bx->K' σ bx)->cD P C c (dK K Q) σ bx->cD P C c (dK K' Q) σ bx:=fun K K' hK h=>my (fun e σ bx he=>ar5) h;by_cases hm:m<n
 ·refine mono _ _ (fun σ' bx' h'=>?_) (hk m σ bx hm g1);obtain⟨q1,q2⟩:=za (fun k=>I k σ' bx') n (m+1) oM h'
  exact awN
 exact awN
def P_{c:Code}(n:Nat)(I:Nat->Env->ab->Prop)(h0:I 0 σ bx)
 (hk:∀k σ bx,k<n->I k σ bx->∃bx0,XZ C bx bx0/\cD P C c (dK (fun σ' bx'=>I (k+1) σ' bx') Q) σ bx0)
 (hn:∀σ bx,I n σ bx->∃bx0,XZ C bx bx0/\cD P C c (dK (fun _ _=>False) Q) σ bx0):cD P C (.loop c) Q σ bx:=by
 refine⟨fun σ bx=>∃k,k<=n/\I k σ bx,fun σ bx=>n - yv (fun k=>I k σ bx) n,⟨0,aes _,h0⟩,?_⟩;rintro σ bx ⟨k,hkn,hi⟩;dsimp only;obtain⟨g1,g2⟩:=za (fun k=>I k σ bx) n k hkn hi;have g3:=Iv (fun k=>I k σ bx) n;generalize yv (fun k=>I k σ bx) n=m at g1 g2 g3⊢;have mono:∀(K K':Env->ab->Prop) (bx:ab),(∀σ bx,K σ bx->K' σ bx)->cD P C c (dK K Q) σ bx->cD P C c (dK K' Q) σ bx:=fun K K' bx hK h=>my (fun e σ bx he=>ar5) h;by_cases hm:m<n
 ·obtain⟨bx0,gN,oe⟩:=hk m σ bx hm g1;refine⟨bx0,gN,mono _ _ _ (fun σ' bx' h'=>?_) oe⟩;obtain⟨q1,q2⟩:=za (fun k=>I k σ' bx') n (m+1) oM h'
  exact awN
 ·obtain rfl:m=n:=oM;obtain⟨bx0,gN,oe⟩:=hn σ bx g1;exact⟨bx0,gN,mono _ _ _ (fun _ _ h'=>h'.elim) oe⟩
def aR{k:Nat}(h:k<9223372036854775807):IntKind.i64.wrap ((k:Int)+1)=((k+1:Nat):Int):=avz
end Go.V
namespace Go.V
open Go.RowKit
variable {P:Program} {X:Ctx} {ρ ρ':bX} {σ:Env} {bx:ab} {a:Act} {w:World} {s e s' e':Nat} {S:Nat->Prop} {d:D} {v:Value}
theorem az.BN{f:FuncId}{base:Nat}{ds:List D}{Q Q' Qp:D->ab->Prop}(h:az P f base ds bx Q Qp)
 (hq:∀d bx',Q d bx'->Q' d bx'\/∃s s' rQ,s≠s'/\(bx' s).k=1/\(bx' s').k=0/\Q' d (jR s s' rQ bx')):az P f base ds bx Q' Qp:=by
 intro X ρ σ a w vs hS bC hl hv;have fin:∀v w',(∃d bx' ρ',Q d bx'/\aw X ρ' σ bx' a w'/\aG w' (ay X ρ' bx' w') ρ' d v)->∃d bx' ρ',Q' d bx'/\aw X ρ' σ bx' a w'/\aG w' (ay X ρ' bx' w') ρ' d v:=by
  rintro v w' ⟨d,bx',ρ',h1,h2,h3⟩;rcases hq d bx' h1 with h1|⟨s,s',rQ,k1,k2,k3,k4⟩
  ·exact awN
  ·obtain⟨ρ2,g1,g2⟩:=h2.rename bC k1 k2 k3 rQ
   exact awN
 exact(h X ρ σ a w vs hS bC hl hv).mono fin fun _ _ h=>h
theorem az.mono{f:FuncId}{base:Nat}{ds:List D}{Q Q' Qp Qp':D->ab->Prop}(h:az P f base ds bx Q Qp)(hq:∀d bx',Q d bx'->Q' d bx')(hp:∀d bx',Qp d bx'->Qp' d bx'):az P f base ds bx Q' Qp':=
 fun X ρ σ a w vs hS bC hl hv=>(h X ρ σ a w vs hS bC hl hv).mono (fun v w' ⟨d,bx',ρ',h1,h2⟩=>⟨d,bx',ρ',hq _ _ h1,h2⟩) (fun v w' ⟨d,bx',ρ',h1,h2⟩=>⟨d,bx',ρ',hp _ _ h1,h2⟩)
theorem al{α:Type}{σ:Nat->α}{t:Nat}{v:α}{x:Nat}(h:x≠t):ah σ t v x=σ x:=by simp[ah,h]
def iD{n s:Nat}(h:s<n):bg n bx s=bx s:=by simp[bg,h]
theorem aP.cut{ts:List Nat}{el esz n:Nat}{x:D}{xs:List D}(h:aP bx ts el esz x xs)(hn:∀t,t∈ts->t<n):aP (bg n bx) ts el esz x xs:=h.of fun t ht=>iD (hn t ht)
theorem aP.HU{ts:List Nat}{el esz n:Nat}{x:D}{xs:List D}(h:aP (bg n bx) ts el esz x xs)(hn:∀t,t∈ts->t<n):aP bx ts el esz x xs:=h.of fun t ht=>(iD (hn t ht)).symm
theorem aP.facts{ts:List Nat}{el esz:Nat}{x:D}{xs:List D}(h:aP bx ts el esz x xs):x.cells=[x]/\x.one=true/\∀c,ed x 0 [c]=some c:=by rcases h with⟨rfl,rfl⟩|⟨t,e,_,rfl,hb⟩<;>exact⟨rfl,rfl,fun c=>avu⟩
def H7(bx:ab)(s el esz:Nat)(x:D)(xs:List D):Prop:=
 (x= .ak/\xs=[]/\(bx s).k=0)\/∃e,x= .ba s e esz 0 xs.length/\bx s=⟨e,1,esz,el,xs⟩
theorem H7.nil{s el esz:Nat}(h:(bx s).k=0):H7 bx s el esz .ak []:=.inl ⟨rfl,rfl,h⟩
theorem H7.of{bx':ab}{s el esz:Nat}{x:D}{xs:List D}(h:H7 bx s el esz x xs)(hb:bx' s=bx s):H7 bx' s el esz x xs:=by grind [H7]
theorem aP.out{ts:List Nat}{el esz:Nat}{x:D}{xs:List D}(h:aP bx ts el esz x xs)(hp:D.aH xs=true):∃r,aU bx x=some r/\bA r (.sl esz xs):=by
 rcases h with⟨rfl,rfl⟩|⟨t,e,_,rfl,hb⟩
 ·exact⟨_,Hi,.nil _⟩
 ·exact⟨_,arF,.refl _⟩
theorem av.yM{f:FuncId}{ds ds':List D}{d:D}(h:av P f ds d)(hl:ds'.length=ds.length)(hw:∀(i:Nat) x x',ds'[i]? =some x->ds[i]? =some x'->bA x x'):av P f ds' d:=by
 intro w S vs hS hg hn hv;refine h w S vs hS hg (hn.trans hl) fun i x v hx cq=>?_
 grind [aG.yM]
theorem av.aby{f:FuncId}{x x':D}{d:D}(h:av P f [x'] d)(hw:bA x x'):av P f [x] d:=by
 refine h.yM rfl fun i a b ha hb=>?_
 exact awN
theorem av.ajB{f:FuncId}{x x' y y':D}{d:D}(h:av P f [x',y'] d)(hw:bA x x')(nG:bA y y'):av P f [x,y] d:=by
 refine h.yM rfl fun i a b ha hb=>?_
 match i with
 |0=>simp at ha hb;subst ha;subst hb;exact hw
 |1=>simp at ha hb;subst ha;subst hb;exact nG
 |i+2=>simp at ha
def sd{lo:Nat}{T:TypeId->TI}{e esz b size d:Nat}{ag jV:Bool}{z:List D}{x:D}{xs ys:List D}{K2:D×ab->Prop}(hx:aP bx [d] e esz x xs)(hz:(T e).zero.length=esz)
 (h1:(xs.length+ys.length) * b<=140737488355328) (h2:0<esz) (h3:0<b) (bC:lo<=d)
 (hk:∀x' bx',aP bx' [d] e esz x' (xs++ys)->(∀s,s≠d->bx' s=bx s)->K2 (x',bx')):
 aJ (jC lo T ⟨.slice e esz b ag,size,jV,z⟩ (some d) bx x ys) K2:=by
 by_cases hy:ys=[]
 ·subst hy;exact nJ hx (hk _ _ awN fun _ _=>rfl)
 grind [il,aP.mk]
def vq{a b a' b':D}(h1:bA a a')(h2:bA b b'):bA (.aL [a,b]) (.aL [a',b']):=by
 refine .aL rfl fun i x x' hx jc=>?_
 exact awN
end Go.V
namespace Go.V
open Go.RowKit
variable {P:Program} {C:Calc} {X:Ctx} {ρ:bX} {σ:Env} {bx:ab} {a:Act} {w:World} {n:Nat}
inductive RM where
 |ret
 |cd (d:D)
def RM.val:RM->D
 | .ret=> .raw .nilIface
 | .cd d=>d
def MR(w:World)(S:Nat->Prop)(ρ:bX):RM->FrameMode->Prop
 | .ret,u=>u= .returning
 | .cd d,u=>∃v,u= .panicking [pe v]/\aG w S ρ d v
theorem MR.imp{w w':World}{S S':Nat->Prop}{ρ ρ':bX}{m:RM}{u:FrameMode}(h:MR w S ρ m u)(hr:∀d v,aG w S ρ d v->aG w' S' ρ' d v):MR w' S' ρ' m u:=by
 cases m with
 |ret=>exact h
 |cd d=>obtain⟨v,h1,h2⟩:=h;exact⟨v,h1,hr _ _ h2⟩
theorem MR.ne{w:World}{S:Nat->Prop}{ρ:bX}{m:RM}{u:FrameMode}(h:MR w S ρ m u):u≠ .run:=by
 cases m with
 |ret=>rw[show u= .returning from h];simp
 |cd d=>obtain⟨v,h1,_⟩:=h;exact awN
theorem MR.settle{w:World}{S:Nat->Prop}{ρ:bX}{m:RM}{u:FrameMode}(h:MR w S ρ m u):settle u=u:=by
 cases m with
 |ret=>rw[show u= .returning from h];rfl
 |cd d=>obtain⟨v,h1,_⟩:=h;rw[h1];rfl
def BS(P:Program)(f:FuncId)(base:Nat)(ds:List D)(bx:ab)(m:RM)(Q:RM->ab->Prop):Prop:=
 ∀(X:Ctx) (ρ:bX) (σ:Env) (a:Act) (w:World) (vs:Array Value) (u:FrameMode),aw X ρ σ bx a w->X.lo=0->vs.size=ds.length->(∀(i:Nat) x v,ds[i]? =some x->vs[i]? =some v->aG w (ay X ρ bx w) ρ x v)->MR w (ay X ρ bx w) ρ m u->
  (callFunc f vs).run P w= .ok (.enter f vs) w/\CallsDIn Fence.wide 0 P f vs u w fun e u' w'=>∃v,e= .returned v/\∃m' bx' ρ',Q m' bx'/\aw X ρ' σ bx' a w'/\MR w' (ay X ρ' bx' w') ρ' m' (Go.settle u')
def Hc(P:Program)(aN:Nat):List D->RM->ab->(RM->ab->Prop)->Prop
 |[],m,bx,K=>K m bx
 | .aL (.fn (.func f) caps::args)::l,m,bx,K=>∃Q,BS P f aN (args++caps) bx m Q/\∀m' bx',Q m' bx'->Hc P aN l m' bx' K
 |_::_,_,_,_=>False
def xl(P:Program)(aN:Nat)(l:List D)(m:RM)(bx:ab)(K:RM->ab->Prop)(_:Tok (K m bx):=⟨⟩):Prop:=Hc P aN l m bx K
theorem CallsDIn.aiP{F:Fence}{f:FuncId}{args:Array Value}{u:FrameMode}{R R':Ending->FrameMode->World->Prop}(h:CallsDIn F n P f args u w R)(hi:∀e u w,R e u w->R' e u w):CallsDIn F n P f args u w R':=by
 refine⟨h.1,fun c cs hu hr=>?_⟩;obtain⟨e,u',w',fr,g1,g2⟩:=h.2 c cs hu hr
 exact awN
theorem CU{fn:Func}{aN:Nat}(bC:X.lo=0)(vR:X.ml=X.w0.heap.size)(mR:X.md=2){K:RM->ab->Prop}{R:Ending->World->Prop}{tmps:Array Value}:∀(ds:List Deferred) (l:List D) (m:RM) (u:FrameMode) (a:Act) (ρ:bX) (σ:Env) (bx:ab) (w:World),a.defers=ds->aw X ρ σ bx a w->q_ (σ eI)=l->
 MR w (ay X ρ bx w) ρ m u->Hc P aN l m bx K->
 (∀ρ' σ' bx' w' m' u',(∀t,t≠eI->σ' t=σ t)->aw X ρ' σ' bx' {a with defers:=[]} w'->K m' bx'->MR w' (ay X ρ' bx' w') ρ' m' u'->LeavesIn Fence.wide 0 P fn tmps R [] u' w')->LeavesInM Fence.wide 0 P fn tmps R ds u w
 |[],l,m,u,a,ρ,σ,bx,w,hd,h,hl,hm,hc,hR=>by
  obtain⟨hk,_⟩:=h.marks.resolve_left oM;rw[aaw oM,hl,hd]at hk;cases hk;exact hR ρ σ bx w m u (fun _ _=>rfl) (h.switch h.size (.nil (.inr (.inr hl))) h.tmps) hc hm
 |d::ds,l,m,u,a,ρ,σ,bx,w,hd,h,hl,hm,hc,hR=>by
  obtain⟨hk,_⟩:=h.marks.resolve_left oM;rw[aaw oM,hl,hd]at hk;refine⟨hm.ne,?_⟩;cases hk with
  |@mark _ r _ h1 h2 h3 h4=>
   have hw:=(h.hold r _ h1).1;obtain⟨ρ',h',_,VY⟩:=h.TR hd vR oM (rM w r (.deferred none)) (World.putObj_heap_same (aaW.1 hw).1) bC;exact .inl ⟨r,_,rfl,run_takeDeferred hw,CU bC vR mR ds l m u {a with defers:=ds} ρ' σ bx _ rfl h' hl (hm.imp VY) hc hR⟩
  |@call f caps args l' vc va _ g1 g2 g3 g4 g5=>
   obtain⟨Q,hQ,air⟩:=hc;have h':aw X ρ (ah σ eI (.any l')) bx {a with defers:=ds} w:=h.switch h.size (.inr ⟨by rw[aaw oM,aY];exact g5,fun h3=>awO⟩) (fun t=>by
    simp only[ah];split
    ·exact .pure (.any _ _)
    ·exact h.tmps t)
   obtain⟨k1,k2⟩:=hQ X ρ _ _ w (va++vc) u h' bC awN (fun i x v hx hv=>awN) hm;refine .inr ⟨by simp[Fence.wide],.func f,vc,f,va++vc,rfl,by simpa[invoke]using k1,fun _ _=>trivial,CallsDIn.aiP k2 ?_⟩;rintro e u' w' ⟨v,rfl,m',bx',ρ',q1,q2,q3⟩;exact CU bC vR mR ds l' m' _ {a with defers:=ds} ρ' _ bx' w' rfl q2 (by rw[aY];rfl) q3 (air _ _ q1) fun ρ2 σ2 aT w2 m2 u2 e1 e2 e3 e4=>hR ρ2 σ2 aT w2 m2 u2 (fun t ht=>awg) e2 e3 e4
def TM(rv:List ResultVar):Bool:=rv.all fun r=>match r with
 | .tmp t=>t != eI
 | .cell t _=>t != eI
theorem Hu{σ σ':Env}(h:∀t,t≠eI->σ' t=σ t):∀(rv:List ResultVar),TM rv=true->jz P σ' bx rv=jz P σ bx rv
 |[],_=>rfl
 |r::rv,hr=>by
  simp only[TM,aep,aas]at hr;have:=Hu h rv hr.2
  grind [jz,yK]
def xm(P:Program)(rv:List ResultVar)(σ:Env)(bP Pan:D->ab->Prop):RM->ab->Prop
 | .ret,bx=>aJ (jz P σ bx rv) fun rs=>bP (mL rs) bx
 | .cd d,bx=>Pan d bx
def TG(P:Program)(aN:Nat)(rv:List ResultVar)(bP Pan:D->ab->Prop):DX->Env->ab->Prop
 | .normal,σ,bx| .ret,σ,bx=>xl P aN (q_ (σ eI)) .ret bx (xm P rv σ bP Pan)
 | .cd d,σ,bx=>xl P aN (q_ (σ eI)) (.cd d) bx (xm P rv σ bP Pan)
 |_,_,_=>False
def El(P:Program)(O:ik)(tab:List (Nat×List (Nat×Nat)))(fn:Func)(base:Nat)(ds:List D)(bx:ab)(bP Pan:D->ab->Prop):Prop:=
 ∃c,fn.body=some c/\codeOk tab fn.ntmps c=true/\TM fn.results.toList=true/\cD P ⟨O,tab,base,base+fn.ntmps,0,none,true,true⟩ c (TG P (base+fn.ntmps) fn.results.toList bP Pan) (aM 0 ds) bx
def JW(hm:P.follows .mixedOrders=true){f:FuncId}{fn:Func}{O:ik}{tab:List (Nat×List (Nat×Nat))}{base:Nat}{ds:List D}{bx:ab}{Q Qp:D->ab->Prop}(hf:P.funcs[f]? =some fn)
 (dJ:(fn.name== "runtime.NumGoroutine")=false) (hlen:ds.length<=fn.ntmps) (hO:Ok P O) (h:El P O tab fn base ds bx Q Qp):az P f base ds bx Q Qp:=by
 obtain⟨c,hb,bm,Kk,hc⟩:=h;obtain⟨hN,bm⟩:fn.ntmps<=eI/\dH tab fn.ntmps c=true:=avq
 intro X ρ σ a w vs hS vt hl hv;refine .inl ⟨Go.MuLone.run_callFunc_enter hf dJ hb vs w,akG.1 (callsIn_of_wp_marks (F:=Fence.wide) (n:=0) hf hb trivial ?_)⟩;obtain⟨k1,k2⟩:=sf (N:=fn.ntmps) hl hlen hv;have Ay:q_ (aM 0 ds eI)=[]:=by
  rw[Ae,aaw oM,akC oM];rfl
 have h0:=hS.sub (E:=fun _=>False) (N:=fn.ntmps) (ml:=w.heap.size) (md:=2) (σ':=aM 0 ds) (a':={tmps:=vs++Array.replicate (fn.ntmps - vs.size) undef,defers:=[]}) hN (fun _ h=>h.elim) k1 (.nil (.inr (.inr Ay))) (aaN _) k2;refine dV hm c none 0 ⟨O,tab,base,base+fn.ntmps,0,none,true,true⟩ _ _ _ _ _ _ _ w ⟨hO,aaN _,aes _,(Bt rfl fun _ _=>trivial),(fun _=>rfl),(fun hf=>by have:(2:Nat)=3:=hf;omega),fun hf=>by have:(2:Nat)=3:=hf;omega⟩ (fun l hl=>awB) bm h0 hc fun e e' σ' bx' a' w' ρ' hx hq h'=>?_;have fin:∀m u,MR w' (ay X ρ' bx' w') ρ' m u->Hc P (base+fn.ntmps) (q_ (σ' eI)) m bx' (xm P fn.results.toList σ' Q Qp)->
  LeavesInM Fence.wide 0 P fn a'.tmps (fun e w'=>(∃v,e= .returned v/\∃d bx' ρ',Q d bx'/\aw X ρ' σ bx' a w'/\aG w' (ay X ρ' bx' w') ρ' d v)\/∃v,e= .panicked [pe v]/\∃d bx' ρ',Qp d bx'/\aw X ρ' σ bx' a w'/\aG w' (ay X ρ' bx' w') ρ' d v) a'.defers u w':=by
  intro m u QR hq;refine CU rfl rfl rfl a'.defers _ m u a' ρ' σ' bx' w' rfl h' rfl QR hq fun ρ2 σ2 aT w2 m2 u2 he h2 hk xT=>?_;have wg:aw X ρ2 σ aT a w2:=hS.back rfl rfl h2 (fun _ h=>h.elim) (fun _ h=>h.elim) (fun _ h=>h.elim) (hS.y0 vt _ _);cases m2 with
  |ret=>
   rw[show u2= .returning from xT];simp only[xm]at hk;cases hr:jz P σ' aT fn.results.toList with
   |none=>rw[hr]at hk;exact hk.elim
   |some rs=>
    rw[hr]at hk;obtain⟨v,g1,g2⟩:=vD h2 (fn:=fn) (by rw[Hu he _ Kk];exact hr);exact⟨v,g1,.inl ⟨v,rfl,mL rs,aT,ρ2,hk,wg,g2⟩⟩
  |cd d=>
   obtain⟨v,hu,hv⟩:=xT;rw[hu];exact .inr ⟨v,rfl,d,aT,ρ2,hk,wg,hv⟩
 rcases hx.cases with⟨rfl,rfl⟩|⟨rfl,rfl⟩|⟨_,rfl,rfl⟩|⟨_,rfl,rfl⟩|⟨d,v,rfl,rfl,hv⟩
 ·exact fin .ret _ rfl hq
 ·exact fin .ret _ rfl hq
 ·exact hq.elim
 ·exact hq.elim
 ·exact fin (.cd d) _ ⟨v,rfl,hv⟩ hq
theorem aw.nd{ρ2:bX}{σ2:Env}{aT:ab}{a2:Act}{w2:World}{E:Nat->Prop}{N ml md:Nat}(h:aw X ρ σ bx a w)(k:aw (X.sub ρ bx w E N ml md) ρ2 σ2 aT a2 w2)(hE:∀b,¬E b):∀d v,aG w (ay X ρ bx w) ρ d v->aG w2 (ay X ρ2 aT w2) ρ2 d v:=by
 have SR:∀b,ay X ρ bx w b->¬(X.sub ρ bx w E N ml md).M b:=by
  exact aro
 refine fun d v hd=>hd.fh (fun b hb o ho hc=>(k.fr.block b hb.1 (fun hm=>?_)).trans ho) (fun b hb=>?_) k.r0
 ·rcases hm with hm|hm
  ·exact awN
  ·have:=k.ec b hm o ho
   exact awN
 ·refine⟨aeD hb.1 k.fr.size,hb.2.1,fun t ht p hp e=>?_⟩;obtain⟨p',bu,_,_,jH,_⟩:=k.box t av1;rw[hp]at bu;injection bu with bu;subst bu;rcases jH.2 ht with h1|h1
  ·have:=hb.1;grind [Ctx.sub]
  exact awN
def oW(P:Program):List Oper->Env->ab->Option Env
 |[],σ,_=>some σ
 |o::l,σ,bx=>if o.guard.isSome then none else match cv P σ bx o.op with
  |some v=>oW P l (put σ o.dst v) bx
  |none=>none
def OA(bP:ab->Prop):DX->Env->ab->Prop
 | .normal,_,bx| .ret,_,bx=>bP bx
 |_,_,_=>False
def Lz(N:Nat)(l:List Oper):Bool:=l.all fun o=>match o.dst with
 |some d=>decide (d<N)
 |none=>true
def ik.Fj(O:ik):ik:=⟨O.to,O.pT,fun _ _ _ _=>False,fun _ _ _ _ _=>False⟩
def vM(P:Program)(O:ik)(tab:List (Nat×List (Nat×Nat)))(fn:Func)(base:Nat)(ds:List D)(bx:ab)(m:RM)(bP:RM->ab->Prop):Prop:=
 fn.results.toList=[]/\((∃c,fn.body=some c/\codeOk tab fn.ntmps c=true/\cD P ⟨O.Fj,tab,base,base+fn.ntmps,0,none,false,false⟩ c (OA (bP m)) (aM 0 ds) bx)\/
 (∃id t args b_ ty pos af L rest σ',fn.body=some (.seq (.region id (⟨some t,.call {callee:=.builtin .recover,args,argTypes:=b_},ty,pos,af,none⟩::L).toArray false) rest)/\t<fn.ntmps/\Lz fn.ntmps L=true/\codeOk tab fn.ntmps rest=true/\
  oW P L (ah (aM 0 ds) t m.val) bx=some σ'/\cD P ⟨O.Fj,tab,base,base+fn.ntmps,0,none,false,false⟩ rest (OA (bP .ret)) σ' bx))
theorem Ok.Fj{O:ik}(h:Ok P O):Ok P O.Fj:=⟨h.to,h.pT,fun _ _ _ _ h=>h.elim,fun _ _ _ _ _ h=>h.elim⟩
theorem Dd{ops:Array Oper}{Q:Exit->Act->List Frame->World->Prop}{cs:List Frame}:∀(L pre:List Oper) (σ σ':Env) (a:Act) (ρ:bX) (w:World),ops.toList=pre++L->Lz X.N L=true->aw X ρ σ bx a w->oW P L σ bx=some σ'->
 (∀ρ' a' w',(∀d v,aG w (ay X ρ bx w) ρ d v->aG w' (ay X ρ' bx w') ρ' d v)->aw X ρ' σ' bx a' w'->Q .normal a' cs w')->wpOpsSIn Fence.wide n P ops Q (List.range' pre.length L.length) a cs w
 |[],pre,σ,σ',a,ρ,w,Ax,hd,h,hr,hQ=>by
  simp only[oW,aaM]at hr;subst hr;exact hQ ρ a w (fun _ _ h=>h) h
 |o::L,pre,σ,σ',a,ρ,w,Ax,hd,h,hr,hQ=>by
  simp only[oW]at hr;split at hr
  ·cases hr
  ·rename_i hg;have hg:o.guard=none:=awy
   simp only[Lz,aep,aas]at hd;split at hr
   ·rename_i v hv;obtain⟨u,w',bZ,hb,gR⟩:=Li h o hv;have ho:ops[pre.length]? =some o:=by rw[<-aba,Ax];simp
    have aiz:Region.wanted o (yielded ops a.tmps)=true:=by simp[Region.wanted,hg]
    simp only[aa5,ajE,wpOpsSIn,ho,aiz,abo,bZ];refine⟨fun _ _=>trivial,?_⟩;have hx:=h.ext hb;have hS:∀b,ay X ρ bx w b->ay X ρ bx w' b:=fun b dQ=>⟨aeD dQ.1 hb.size,dQ.2⟩
    have hp:aw X ρ (put σ o.dst v) bx (a.put o.dst u) w':=hx.put (fun t ht=>awN) gR;have:=Dd (ops:=ops) L (pre++[o]) (put σ o.dst v) σ' (a.put o.dst u) ρ w' (by simp[Ax]) hd.2 hp hr (fun ρ' a' w2 h2 h3=>hQ ρ' a' w2 (fun d v hdv=>h2 d v (hdv.mono (fun b dQ=>hb.block b dQ.1) hS (fun _ _ _ h=>h))) h3)
    exact awN
   ·cases hr
def JX(hm:P.follows .mixedOrders=true){f:FuncId}{fn:Func}{O:ik}{tab:List (Nat×List (Nat×Nat))}{base:Nat}{ds:List D}{bx:ab}{m:RM}{Q:RM->ab->Prop}(hf:P.funcs[f]? =some fn)
 (dJ:(fn.name== "runtime.NumGoroutine")=false) (hlen:ds.length<=fn.ntmps) (hO:Ok P O) (h:vM P O tab fn base ds bx m Q):BS P f base ds bx m Q:=by
 obtain⟨Az,h⟩:=h;intro X ρ σ a w vs u hS vt hl hv QR;obtain⟨k1,k2⟩:=sf (N:=fn.ntmps) hl hlen hv;have fin:∀(c₀:Frame) (cs:List Frame) (u':FrameMode) (m':RM) (e:DX) (e':Exit) (σ':Env) (bx':ab) (a':Act) (w':World) (ρ':bX) (E:Nat->Prop),XR w' (ay X ρ' bx' w') ρ' e e'->OA (Q m') e σ' bx'->aw (X.sub ρ bx w (fun _=>False) fn.ntmps w.heap.size 3) ρ' σ' bx' a' w'->
  MR w' (ay X ρ' bx' w') ρ' m' (Go.settle u')->
  bodyPostS P fn c₀ cs (fun e u' w'=>∃v,e= .returned v/\∃m' bx' ρ',Q m' bx'/\aw X ρ' σ bx' a w'/\MR w' (ay X ρ' bx' w') ρ' m' (Go.settle u')) e' a' ({c₀ with mode:=u'}::cs) w':=by
  intro c₀ cs u' m' e e' σ' bx' a' w' ρ' E hx hq h' Cx;have hd:a'.defers=[]:=by
   rcases h'.marks with h3|h3
   ·have:(3:Nat)=1:=h3;exact awO
   ·exact h3.2 rfl
  obtain⟨v,g1,g2⟩:=vD h' (fn:=fn) (rs:=[]) (by rw[Az];rfl);have wg:aw X ρ' σ bx' a w':=hS.back rfl rfl h' (fun _ h=>h.elim) (fun _ h=>h.elim) (fun _ h=>h.elim) (hS.y0 vt _ _);rcases hx.cases with⟨rfl,rfl⟩|⟨rfl,rfl⟩|⟨_,rfl,rfl⟩|⟨_,rfl,rfl⟩|⟨d,v,rfl,rfl,hv⟩
  ·exact⟨hd,u',rfl,v,g1,v,rfl,m',bx',ρ',hq,wg,Cx⟩
  ·exact⟨hd,u',rfl,v,g1,v,rfl,m',bx',ρ',hq,wg,Cx⟩
  all_goals exact hq.elim
 have hG:Good P ⟨O.Fj,tab,base,base+fn.ntmps,0,none,false,false⟩ (X.sub ρ bx w (fun _=>False) fn.ntmps w.heap.size 3):=⟨hO.Fj,aaN _,aes _,(Bt rfl fun _ _=>trivial),(fun hf=>awE),(fun _ _ _ _ _ h=>h),fun _ _ _ _ _ _ h=>h⟩
 have Ay:q_ (aM 0 ds eI)=[]\/fn.ntmps>eI:=by
  by_cases hN:fn.ntmps>eI
  ·exact awN
  ·refine .inl ?_;rw[Ae,aaw oM,akC oM];rfl
 rcases h with⟨c,hb,bm,hc⟩|⟨id,t,args,b_,ty,pos,af,L,rest,σ1,hb,ht,hL,bm,aix,hc⟩
 ·obtain⟨hN,bm⟩:fn.ntmps<=eI/\dH tab fn.ntmps c=true:=avq
  have h0:=hS.sub (E:=fun _=>False) (N:=fn.ntmps) (ml:=w.heap.size) (md:=3) (σ':=aM 0 ds) (a':={tmps:=vs++Array.replicate (fn.ntmps - vs.size) undef,defers:=[]}) hN (fun _ h=>h.elim) k1 (.nil (.inr (.inr (Ay.resolve_right oM)))) (aaN _) k2;refine⟨Go.MuLone.run_callFunc_enter hf dJ hb vs w,callsDIn_of_wpSIn hf hb trivial fun c₀ cs hu=>wpSIn_of_wpIn rfl ?_⟩;refine dV hm c none 0 _ _ _ _ _ _ _ _ w hG (fun l hl=>awB) bm h0 hc fun e e' σ' bx' a' w' ρ' hx hq h'=>?_;subst hu;have Cx:MR w' (ay X ρ' bx' w') ρ' m c₀.mode:=QR.imp (hS.nd h' fun _ hb=>hb.elim);exact fin c₀ cs c₀.mode m e e' σ' bx' a' w' ρ' (fun _=>False) hx hq h' (by rw[QR.settle];exact Cx)
 ·obtain⟨hN,bm⟩:fn.ntmps<=eI/\dH tab fn.ntmps rest=true:=avq
  have Kh:bc w (ay X ρ bx w) (.raw .nilIface) .nilIface:=.raw _;have h0:=hS.sub (E:=fun _=>False) (N:=fn.ntmps) (ml:=w.heap.size) (md:=3) (σ':=aM 0 ds) (a':={tmps:=vs++Array.replicate (fn.ntmps - vs.size) undef,defers:=[]}) hN (fun _ h=>h.elim) k1 (.nil (.inr (.inr (Ay.resolve_right oM)))) (aaN _) k2;refine⟨Go.MuLone.run_callFunc_enter hf dJ hb vs w,callsDIn_of_wpSIn hf hb trivial fun c₀ cs hu=>wpSIn_seq (wpSIn_region ?_)⟩;have LG:∀(u':FrameMode) (v:Value),Go.settle u'= .returning->aG w (ay X ρ bx w) ρ m.val v->
   wpOpsSIn Fence.wide 0 P (⟨some t,.call {callee:=.builtin .recover,args,argTypes:=b_},ty,pos,af,none⟩::L).toArray (Exit.thenS (rest.wpSIn Fence.wide 0 P (bodyPostS P fn c₀ cs (fun e u' w'=>∃v,e= .returned v/\∃m' bx' ρ',Q m' bx'/\aw X ρ' σ bx' a w'/\MR w' (ay X ρ' bx' w') ρ' m' (Go.settle u')))) (bodyPostS P fn c₀ cs (fun e u' w'=>∃v,e= .returned v/\∃m' bx' ρ',Q m' bx'/\aw X ρ' σ bx' a w'/\MR w' (ay X ρ' bx' w') ρ' m' (Go.settle u'))))
    (List.range' 1 L.length) (({tmps:=vs++Array.replicate (fn.ntmps - vs.size) undef,defers:=[]}:Act).put (some t) v) ({c₀ with mode:=u'}::cs) w:=by
   intro u' v xj cq;have hp:=h0.put (dst:=some t) (d:=m.val) (v:=v) (fun t' rC=>by injection rC with rC;subst rC;exact ht) cq;refine Dd L [⟨some t,.call {callee:=.builtin .recover,args,argTypes:=b_},ty,pos,af,none⟩] _ σ1 _ ρ w sI hL hp aix fun ρ2 a2 w2 _ h2=>?_;refine wpSIn_of_wpIn rfl ?_;refine dV hm rest none 0 _ _ _ _ _ _ _ _ w2 hG (fun l hl=>awB) bm h2 hc fun e e' σ' bx' a' w' ρ' hx hq h'=>?_;exact fin c₀ cs u' .ret e e' σ' bx' a' w' ρ' (fun _=>False) hx hq h' xj
  have Ax:(⟨some t,.call {callee:=.builtin .recover,args,argTypes:=b_},ty,pos,af,none⟩::L).toArray[0]? =some (⟨some t,.call {callee:=.builtin .recover,args,argTypes:=b_},ty,pos,af,none⟩:Oper):=awP
  have bZ:∀(ev:Operand->Value),(execOp ev (⟨some t,.call {callee:=.builtin .recover,args,argTypes:=b_},ty,pos,af,none⟩:Oper)).run P w= .ok .recover w:=fun ev=>by simp[execOp,resolve,invoke,builtin]
  have Nx:List.range (⟨some t,.call {callee:=.builtin .recover,args,argTypes:=b_},ty,pos,af,none⟩::L).toArray.size=0::List.range' 1 L.length:=by simp[ap_,ajE]
  rw[Nx];simp only[wpOpsSIn,Ax,bZ,Region.wanted,abo];refine⟨fun _ _=>trivial,?_⟩;cases m with
  |ret=>
   have xj:u= .returning:=QR;have:recoverD (c₀::cs)=none:=by grind [recoverD]
   simp only[this];have:=LG c₀.mode .nilIface (by rw[hu,xj];rfl) (.pure (.raw _));exact this
  |cd d=>
   obtain⟨v,xj,cq⟩:=QR;have:recoverD (c₀::cs)=some (v,{c₀ with mode:=.panicking [{v,recovered:=true}]}::cs):=by grind [recoverD,pe]
   simp only[this];exact LG (.panicking [{v,recovered:=true}]) v rfl cq
theorem az.to{f:FuncId}{ds:List D}{d:D}{Q Qp:D->ab->Prop}(h:az P f 0 ds (fun _=> .none) Q Qp)(hp:∀d bx,¬Qp d bx)(hQ:∀d' bx',Q d' bx'->∃r,aU bx' d'=some r/\bA r d):av P f ds d:=by
 intro w S vs hS Ns hl hv;let X0:Ctx:=⟨w,S,w.heap.size,fun _=>False,fun _=>False,0,⟨fun _ _=>none,fun _=>none⟩,w.heap.size,0,fun _ _=>True,0⟩
 have h0:aw X0 ⟨fun _ _=>none,fun _=>none⟩ (fun _=> .raw undef) (fun _=> .none) {tmps:= #[],defers:=[]} w:=
  ⟨.refl _ _,hS,aaN _,fun _ h=>h.elim,fun _ h=>h.elim,rfl,.nil (.inl rfl),aes _,aaN _,fun t=>by rw[show(#[]:Array Value).getD t undef=undef from awN];exact aG.pure (.raw _),.pure (Ns.mono (fun _ _=>rfl) (fun b hb=>⟨hS b hb,.inl hb,fun t ht=>awN⟩)),fun t ht=>absurd rfl ht.1,fun t t' p p' ht=>awN,(fun t e p hp=>awA),(fun t e p hp=>awA),(fun t e hp=>awA),(fun t e hp=>awA),fun _ _ _ _ _=>trivial,trivial,fun _ _ _=>trivial,(fun t e hp=>awA),⟨fun t ht=>by simp[Bx.none]at ht,fun t t' p p' ht=>awN⟩⟩
 have hr:=h _ _ _ _ w vs h0 rfl hl (fun i x v hx cq=> .pure ((hv i x v hx cq).mono (fun _ _=>rfl) (fun b hb=>⟨hS b hb,.inl hb,fun t ht=>awN⟩)));have fin:∀v w',(∃d bx' ρ',Q d bx'/\aw X0 ρ' (fun _=> .raw undef) bx' {tmps:= #[],defers:=[]} w'/\aG w' (ay X0 ρ' bx' w') ρ' d v)->Go.V.bP w S d v w':=by
  rintro v w' ⟨d',bx',ρ',hq,g1,g3⟩;obtain⟨r,ho,hw⟩:=hQ d' bx' hq;refine⟨aG.yM hw (pA g1 _ _ v ⟨fun b hb=>?_,fun t _ hk p hp=>?_⟩ g3 ho),?_⟩
  ·rcases hb.2.1 with h1|h1
   ·exact awN
   ·exact .inr ⟨h1,hb.1⟩
  ·exact aqz
  ·exact⟨g1.fr.os,g1.fr.tape,g1.fr.output,g1.fr.size,fun k hk=>g1.fr.block k hk (fun hm=>hm.elim id id)⟩
 rcases hr with⟨k1,k2⟩|⟨v,w',k1,k2⟩
 ·refine .inl ⟨k1,Calls.mono k2 ?_⟩
  exact awN
 exact awN
section
variable {Q:DX->Env->ab->Prop} {bP Pan:D->ab->Prop} {aN:Nat} {K:RM->ab->Prop}
@[go_sem ↓] def aoP(rv:List ResultVar):TG P aN rv bP Pan .ret σ bx=xl P aN (q_ (σ eI)) .ret bx (xm P rv σ bP Pan):=ax
@[go_sem ↓] def aoO(rv:List ResultVar)(d:D):TG P aN rv bP Pan (.cd d) σ bx=xl P aN (q_ (σ eI)) (.cd d) bx (xm P rv σ bP Pan):=ax
@[go_sem ↓] def ahr(bP:ab->Prop):OA bP .normal σ bx=bP bx:=ax
@[go_sem] def aqk(n:Nat)(h:n<1000000000):(eI=n)=False:=by simp only[eI];grind
@[go_sem] def aqn(n:Nat)(h:n<1000000000):(n=eI)=False:=by simp only[eI];grind
def MH(d:D)(f:D->Prop)(_:Tok (f .undef):=⟨⟩):Prop:=match d with
 | .fn (.func g) caps=>f (.fn (.func g) caps)
 |_=>False
@[go_sem] def aj_(g:Nat)(caps:List D)(f:D->Prop):MH (.fn (.func g) caps) f=f (.fn (.func g) caps):=ax
@[go_sem ↓] def ahw{dst:Option Tmp}{ty:TypeId}{pos:String}{af:Array Edge}{g:Option (Nat×Bool)}{K1:Cl->Env->ab->Prop}(fo:Operand)(l:List Operand)(b_:Array TypeId):a_ P C ⟨dst,.defer {callee:=.value fo,args:=l.toArray,argTypes:=b_},ty,pos,af,g⟩ σ bx K1=(C.df=true/\MH (ev σ fo) fun fv=>K1 .n (put (ah σ eI (Hp (σ eI) fv (l.map (ev σ)))) dst (.raw undef)) bx):=by grind [a_,MH]
@[go_sem] def aoH(l:List D):q_ (.any l)=l:=ax
@[go_sem] def aoI(v:Value):q_ (.raw v)=[]:=ax
@[go_sem] def alR(v:Value)(f:D)(args:List D):Hp (.raw v) f args= .any [.aL (f::args)]:=ax
@[go_sem] def aiH(m:RM):xl P aN [] m bx K=K m bx:=ax
@[go_sem] def aiI(rv:List ResultVar):xm P rv σ bP Pan .ret bx=aJ (jz P σ bx rv) fun rs=>bP (mL rs) bx:=ax
@[go_sem] def ap6:RM.val .ret= .raw .nilIface:=ax
@[go_sem] def ap5(d:D):RM.val (.cd d)=d:=ax
def bM{f:FuncId}{caps args l:List D}{m:RM}(Q:RM->ab->Prop)(h:BS P f aN (args++caps) bx m Q)(hk:∀m' bx',Q m' bx'->xl P aN l m' bx' K):xl P aN (.aL (.fn (.func f) caps::args)::l) m bx K:=⟨Q,h,hk⟩
@[go_sem] def ai2:oW P [] σ bx=some σ:=ax
def ZS(P:Program)(l:List Oper)(σ:Env)(bx:ab)(dst:Option Tmp):Option D->Option Env
 |some v=>oW P l (put σ dst v) bx
 |none=>none
@[go_sem] def alT(l:List Oper)(dst:Option Tmp)(v:D):ZS P l σ bx dst (some v)=oW P l (put σ dst v) bx:=ax
@[go_sem] def ahp(dst:Option Tmp)(op:Op)(ty:TypeId)(pos:String)(af:Array Edge)(l:List Oper):oW P (⟨dst,op,ty,pos,af,none⟩::l) σ bx=ZS P l σ bx dst (cv P σ bx op):=by simp_all[oW,ZS]
@[go_sem] def ahE(x:Operand):cv P σ bx (.assign x)=some (ev σ x):=ax
@[go_sem] def amj(x:Operand):cv P σ bx (.move x)=some (ev σ x):=ax
end
def rp{O:ik}{tab:List (Nat×List (Nat×Nat))}{fn:Func}{base:Nat}{ds:List D}{bx:ab}{bP Pan:D->ab->Prop}(c:Code)(rv:List ResultVar)(n:Nat)(hc:fn.body=some c)(hr:fn.results=rv.toArray)(hn:fn.ntmps=n)(bm:codeOk tab n c=true)(Kk:TM rv=true)
 (h:cD P ⟨O,tab,base,base+n,0,none,true,true⟩ c (TG P (base+n) rv bP Pan) (aM 0 ds) bx):El P O tab fn base ds bx bP Pan:=by
 subst hn;refine⟨c,hc,bm,awN,?_⟩
 exact awN
def iG{O:ik}{tab:List (Nat×List (Nat×Nat))}{fn:Func}{base:Nat}{ds:List D}{bx:ab}{m:RM}{bP:RM->ab->Prop}{id t:Nat}{args:Array Operand}{b_:Array TypeId}{ty:TypeId}{pos:String}{af:Array Edge}(L:List Oper)(rest:Code)(n:Nat)(hc:fn.body=some (.seq (.region id (⟨some t,.call {callee:=.builtin .recover,args,argTypes:=b_},ty,pos,af,none⟩::L).toArray false) rest))(hr:fn.results= #[])(hn:fn.ntmps=n)
 (hd:(decide (t<n)&&Lz n L)=true) (bm:codeOk tab n rest=true) (σ':Env)
 (ho:oW P L (ah (aM 0 ds) t m.val) bx=some σ') (h:cD P ⟨O.Fj,tab,base,base+n,0,none,false,false⟩ rest (OA (bP .ret)) σ' bx):vM P O tab fn base ds bx m bP:=by
 subst hn;simp only[aas,aaH]at hd;exact⟨by rw[hr],.inr ⟨id,t,args,b_,ty,pos,af,L,rest,σ',hc,hd.1,hd.2,bm,ho,h⟩⟩
@[go_sem ↓] def ahj:isNil (.const (.slice none 0 0))=false:=ax
@[go_sem] def ahZ(t e:Nat):(D.omap t e).cells=[.omap t e]:=ax
attribute [go_sem] reduceIte Nat.reduceMul Nat.reduceEqDiff Nat.reduceAdd Nat.reduceLeDiff Nat.reduceLT Nat.reduceSub Int.reduceLT Int.reduceLE Int.reduceEq Int.reduceToNat Option.map_some List.length_map List.getElem?_map Int.toNat_natCast
section
variable {P:Program} {Q:DX->Env->ab->Prop} {σ:Env} {bx:ab} {o:ik} {b n lo:Nat} {yl:Option (List (List D)×Nat×Nat×Nat)} {pn df:Bool}
@[go_sem ↓ high] def adY(id:Nat)(l:List Oper):cD P ⟨o,[],b,n,lo,yl,pn,df⟩ (.region id l.toArray false) Q σ bx=qg P ⟨o,[],b,n,lo,yl,pn,df⟩ l l [] σ bx fun acc σ' bx'=>yJ Q acc σ' bx':=by simp[cD,cR,C8,mj]
end
class BP(b:Bool)(p q:outParam Prop):Prop where
 t:b=true->p
 f:b=false->q
instance (priority:=low)(b:Bool):BP b (b=true) (b=false):=⟨id,id⟩
instance(p:Prop)[Decidable p]:BP (decide p) p (¬p):=⟨afe,of_decide_eq_false⟩
def zJ{b:Bool}{p q x y:Prop}[h:BP b p q](refine_1:p->x)(refine_2:q->y):je b x y:=aO (fun e=>refine_1 (h.t e)) fun e=>refine_2 (h.f e)
end Go.V
