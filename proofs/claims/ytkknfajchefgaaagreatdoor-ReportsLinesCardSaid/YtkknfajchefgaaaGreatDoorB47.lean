/- Lemmas on plain data and programs: part B47. -/
import Derived.Test.YtkknfajchefgaaaGreatDoorS8
import Derived.Shelf.Strings.Builder1
import Derived.Test.YtkknfajchefgaaaGreatDoorB43
set_option linter.all false
set_option maxHeartbeats 8000000
set_option maxRecDepth 100000
namespace Go.V
open Go.RowKit
variable {X:Ctx} {ρ:bX} {σ:Env} {bx:ab} {a:Act} {w w':World}
theorem aw.given{t:Nat}{p:Place}(h:aw X ρ σ bx a w)(bC:X.lo<=t)(hk:(bx t).k=1)(hr:ρ t (bx t).ep=some p)(hg:Fr (fun b=>b=p.b) w w'):aw X ρ σ (ah bx t {bx t with k:=0}) a w':=by
 have h1:∀s,(ah bx t {bx t with k:=0} s).k=1->s≠t/\(bx s).k=1:=fun s hs=>awg
 have hl:∀s,lv (ah bx t {bx t with k:=0} s).k->s≠t/\lv (bx s).k:=fun s hs=>by grind [ah,lv]
 have Ep:∀s,(ah bx t {bx t with k:=0} s).ep=(bx s).ep:=fun s=>awg
 have bh:∀b,ay X ρ bx w b->b≠p.b:=fun b hb e=>hb.2.2 t hk p hr e.symm;have hw:∀b,ay X ρ bx w b->w'.heap[b]? =w.heap[b]?:=fun b hb=>hg.block b hb.1 (bh b hb);have hS:∀b,ay X ρ bx w b->ay X ρ (ah bx t {bx t with k:=0}) w' b:=fun b hb=>⟨aeD hb.1 hg.size,hb.2.1,fun s hs q hq=>by rw[Ep]at hq;exact hb.2.2 s (h1 s hs).2 q hq⟩
 obtain⟨p0,sL,CH,ht0,mD,hh0⟩:=h.box t avV;rw[hr]at sL;injection sL with sL;subst sL;refine⟨h.fr.step hg (fun n hn hm=>?_),h.s0,h.nb,h.mb,h.ec,h.size,h.marks.mono hw hS (fun _ _ _ h=>h) (fun _ h=>h),h.qA,h.sP,fun x=>(h.tmps x).mono hw hS (fun _ _ _ h=>h),h.fN.mono hw hS (fun _ _ _ h=>h),fun s hs=>?_,fun s s' q q' hs dq CD hq jv=>?_,fun s e q hq=>by rw[Ep];exact h.oD s e q hq,h.r0,fun b o ho=>?_,h.gB,h.yc,?_,h.y0,h.lU,h.maps.of (fun s hs=>?_) (fun _ _ _ h=>h) (fun _ _ _ _ _ h=>h) (fun _ h=>h)⟩
 ·exact awN
 ·obtain⟨bI,hs⟩:=hl s hs;obtain⟨q,hq,h2,h3,h4,h5⟩:=h.box s hs;simp only[ah,bI,aa_];exact⟨q,hq,h2,h3,h4,h5.mono (hg.block _ h5.lt (h.inj t s p q hk hs (Ne.symm bI) hr hq).symm) hw hS (fun _ _ _ h=>h)⟩
 ·rw[Ep]at hq jv;exact h.inj s s' q q' (h1 s hs).2 (hl s' dq).2 CD hq jv
 ·obtain⟨g1,g2⟩:=h.hold b o ho;refine⟨(hg.block b (aaW.1 g1).1 (fun hb=>?_)).trans g1,g2⟩;obtain⟨o',rA,hc⟩:=hh0.oQ
  exact awN
 ·rw[j5 (bx:=bx) (fun s hs=>?_)]
  ·exact h.inv
  exact awg
 ·by_cases bI:s=t
  ·exact awg
  simp_all[ah]
def fr_freeze(w:World)(g n:Nat):Fr (fun k=>k=g) w (w.drew.freeze ⟨g,0,none⟩ n):=by
 unfold World.freeze;split
 ·exact⟨rfl,rfl,rfl,aaN _,fun _ _ _=>rfl⟩
 ·refine⟨rfl,rfl,rfl,awy,fun k _ hk=>?_⟩;simp only[ap7,World.drew]
  exact awN
end Go.V
namespace Go.Proofs
open Go.Shelf Go.RowKit Go.V
variable {P:Program} {ρ:Ren}
set_option maxRecDepth 100000 in
def copy_fresh(L:Lays.n240 P ρ)(X:Builder.X72 P ρ)(b T c:Nat)(w:World)(h0:w.cell? ⟨b,0,none⟩=some (.pointer none))(hsh:w.shape? b=some (T,c))(hc:0<c)(hl:liesAt P P.depth T (c / P.cellsOf T) 0 (ρ.t 72) 1=true)(hfz:w.frozen? ⟨b,0,none⟩=false):
 Calls P (ρ.f 240) #[.pointer (some ⟨b,0,none⟩)] w fun e w'=>e= .returned (.tuple #[])/\w'=w.setCell ⟨b,0,none⟩ (.pointer (some ⟨b,0,none⟩)):=by
 obtain⟨j,hj,hjs⟩:=aav.1 X.sizeBuilder;have mixed:=L.mixed;have t72:=L.t72;have a72:=L.a72;have z72:=L.z72;have v72:=L.v72;have u72:=aaD L.t72;have t70:=L.t70;have a70:=L.a70;have z70:=L.z70;have v70:=L.v70;have u70:=aaD L.t70;have t9:=L.t9;have a9:=L.a9;have z9:=L.z9;have v9:=L.v9;have u9:=aaD L.t9;have t4:=L.t4;have a4:=L.a4;have z4:=L.z4;have v4:=L.v4;have u4:=aaD L.t4;have t164:=L.t164;have a164:=L.a164;have z164:=L.z164;have v164:=L.v164;have u164:=aaD L.t164
 go_enter L.f240,Body.n240_ntmps ρ
 go_wp2
 rw[Lib.run_to_unsafe w ⟨b,0,none⟩ L.t70 L.t164 hj awN hsh hc];simp only[Result.andThen];rw[alC]
 go_wp2
 rw[akL L.f276 ar ar ar (e:=Extern.AbiNoEscape.same) ar];rw[Lib.run_noEscape];simp only[Result.andThen];rw[alC]
 go_wp2
 rw[Lib.run_from_unsafe w ⟨b,0,none⟩ L.t164 L.t70 hj hsh hl];simp only[Result.andThen];rw[alC]
 go_wp2
 go_end0
 exact awN
set_option maxRecDepth 100000 in
def string_row(L:Lays.n169 P ρ)(X:Builder.Extra P ρ)(b g cap:Nat)(l:List UInt8)(w:World)(h0:l≠[])(c0:w.cell? ⟨b,1,none⟩=some (.slice (some ⟨g,0,none⟩) l.length cap)){cur:Array Value}(hg:w.heap[g]? =some (.cells cur (ρ.t 5) (0,0)))(GO:l.length<=cap)(tw:cap<=maxLen)(gz:cur.size=cap * 1)
 (iO:∀(j:Nat) (x:UInt8),l[j]? =some x->cur[j]? =some (Value.int .u8 x.toNat)):
 Calls P (ρ.f 169) #[.pointer (some ⟨b,0,none⟩)] w fun e w'=>e= .returned (.string ⟨l.toArray⟩)/\Go.V.Fr (fun k=>k=g) w w':=by
 have jX:l.length≠0:=awN
 have c1:w.drew.cell? ⟨b,1,none⟩=some (.slice (some ⟨g,0,none⟩) l.length cap):=c0;have hSD:(Builtin.unsafeSliceData_ #[(ρ.t 37)] (ρ.t 127) #[.slice (some ⟨g,0,none⟩) l.length cap]).run P w.drew= .ok (.pointer (some ⟨g,0,none⟩)) w.drew:=
  Lib.run_unsafeSliceData_row _ _ _ _ _ _ oM
 have hUS:(Builtin.unsafeString_ #[(ρ.t 127),(ρ.t 3)] (ρ.t 9) #[.pointer (some ⟨g,0,none⟩),.int .i64 l.length]).run P w.drew= .ok (.string ⟨l.toArray⟩) (w.drew.freeze ⟨g,0,none⟩ l.length):=by
  refine Lib.run_unsafeString_row w.drew (ρ.t 127) (ρ.t 3) (ρ.t 9) (ρ.t 5) L.t127 X.cellsByte g cur.size (by have vO:w.drew.heap[g]? =some (.cells cur (ρ.t 5) (0,0)):=hg;simp[World.shape?,vO]) l h0 oM avL ?_;intro j x hx;have vO:w.drew.heap[g]? =some (.cells cur (ρ.t 5) (0,0)):=hg
  grind [Addr.add,World.cell?]
 have mixed:=L.mixed;have t72:=L.t72;have a72:=L.a72;have z72:=L.z72;have v72:=L.v72;have u72:=aaD L.t72;have t70:=L.t70;have a70:=L.a70;have z70:=L.z70;have v70:=L.v70;have u70:=aaD L.t70;have t37:=L.t37;have a37:=L.a37;have z37:=L.z37;have v37:=L.v37;have u37:=aaD L.t37;have t127:=L.t127;have a127:=L.a127;have z127:=L.z127;have v127:=L.v127;have u127:=aaD L.t127;have t3:=L.t3;have a3:=L.a3;have z3:=L.z3;have v3:=L.v3;have u3:=aaD L.t3;have t9:=L.t9;have a9:=L.a9;have z9:=L.z9;have v9:=L.v9;have u9:=aaD L.t9;have t5:=X.t5;have a5:=X.a5;have z5:=X.z5;have v5:=X.v5;have u5:=aaD X.t5
 go_enter L.f169,Body.n169_ntmps ρ
 go_wp2
 go_region_o
 all_goals (go_wp2;go_ret;simp_all[Go.V.fr_freeze])
end Go.Proofs
namespace Go.V.Rp
open Go.Proofs Go.Proofs.Tryz Go.RowKit Go.V.Lx Go.V.Gr Go.V.Ty Go.V.St
def lies_pr:∀c:Nat,liesAt prog prog.depth 87 (c+1) 0 85 1=true:=fun c=>ar
def cells_pr:prog.cellsOf 87=2:=ar
def x72:Go.Proofs.Builder.X72 prog Tryz.lays240_ren:=⟨ar,ar⟩
def rep_raw{w:World}{S:Nat->Prop}{ρ:bX}{x v:Value}(h:aG w S ρ (.raw x) v):v=x:=aur
theorem rep_loc{w:World}{S:Nat->Prop}{ρ:bX}{t e i j:Nat}{v:Value}(h:aG w S ρ (.loc t e i j) v):∃p,ρ t e=some p/\v= .pointer (some ⟨p.b,i * p.sz+j,none⟩):=by
 cases h with
 |pure h=>cases h
 |loc hp hq=>grind
theorem rep_int{w:World}{S:Nat->Prop}{ρ:bX}{k:IntKind}{n:Int}{v:Value}(h:aG w S ρ (.int k n) v):v= .int k n:=aur
theorem rep_osl{w:World}{S:Nat->Prop}{ρ:bX}{t e sz n:Nat}{v:Value}(h:aG w S ρ (.ba t e sz 0 n) v):∃p,ρ t e=some p/\p.sz=sz/\v= .slice (some ⟨p.b,0,none⟩) n p.cap/\n<=p.cap/\p.cap<=maxLen:=by
 cases h with
 |pure h=>cases h
 |ba hp bz h0 ek hn cU=>
  exact awN
def ptr_own{X:Ctx}{ρ:bX}{σ:Env}{bx:ab}{a:Act}{w:World}{t e:Nat}{v:Value}{b:Bx}(hS:aw X ρ σ bx a w)(hb:bx t=b)(hk:b.k=1)(he:b.ep=e)(hv:aG w (ay X ρ bx w) ρ (.loc t e 0 0) v):∃p,v= .pointer (some ⟨p.b,0,none⟩)/\ρ t e=some p/\p.sz=b.sz/\p.ty=b.ty/\Holds w (ay X ρ bx w) ρ p b.es:=by
 subst hb;subst he;obtain⟨p,hp,bz,QY,_,hh⟩:=hS.box t avV
 grind [rep_loc]
def copyCheck_b(b0 t e:Nat)(c x:D)(bx:ab)(hb:bx t=⟨e,1,2,87,[.agg [c,x]]⟩)(hc:c= .raw (.pointer none)\/c= .loc t e 0 0):az prog 77 b0 [.loc t e 0 0] bx (fun d bx'=>d= .aL []/\bx'=ah bx t ⟨e,1,2,87,[.agg [.loc t e 0 0,x]]⟩) (fun _ _=>False):=by
 intro X ρ σ a w vs hS bC hl hv;obtain⟨v,rfl⟩:∃v,vs= #[v]:=by
  rcases vs with⟨_|⟨v,_|⟨_,_⟩⟩⟩<;>simp at hl
  exact awN
 obtain⟨p,rfl,hp,bz,QY,hh⟩:=ptr_own hS hb rfl rfl (hv 0 _ v rfl rfl);obtain⟨⟨cur,GB,gz,us,hu⟩,cU,gQ,hlen⟩:=id hh;simp only at bz QY hh cU;obtain⟨u0,u1,u2⟩:=hu 0 _ 0 c rfl rfl;obtain⟨x0,x1,x2⟩:=hu 0 _ 1 x rfl rfl;have en:(callFunc 77 #[.pointer (some ⟨p.b,0,none⟩)]).run prog w= .ok (.enter 77 #[.pointer (some ⟨p.b,0,none⟩)]) w:=enters_of (f:=77) Tryz.IQ.f240 ar rfl _ _;have iO:w.cell? ⟨p.b,0,none⟩=some (us 0 0):=avc
 rcases hc with rfl|rfl
 ·have e0:us 0 0= .pointer none:=rep_raw u1;rw[e0]at iO;refine .inl ⟨en,Calls.mono (copy_fresh Tryz.IQ x72 p.b 87 cur.size w iO (by grind [World.shape?]) awN ?_ (by simp[World.frozen?,GB])) ?_⟩
  ·rw[cells_pr,gz,bz,Nat.mul_div_cancel _ awL];obtain⟨k,hk⟩:∃k,p.cap=k+1:=⟨p.cap - 1,awN⟩
   rw[hk];exact lies_pr k
  rintro e' w' ⟨rfl,rfl⟩;have hg:Fr (fun b=>b=p.b) w (w.setCell ⟨p.b,0,none⟩ (.pointer (some ⟨p.b,0,none⟩))):=⟨rfl,rfl,rfl,awy,fun k _ hk=>Below.heap_setCell w ⟨p.b,0,none⟩ _ k hk⟩
  have nx:(bx t).k=1:=by rw[hb]
  have bI:=hS.stored (es:=[.agg [.loc t e 0 0,x]]) oM nx awN hg ⟨⟨cur.setIfInBounds 0 (.pointer (some ⟨p.b,0,none⟩)),?_,awN,fun i j=>if j=0 then .pointer (some ⟨p.b,0,none⟩)else us i j,fun i d j c hi hj=>?_⟩,cU,gQ,fun i d hi=>?_⟩
  ·refine .inl ⟨_,rfl,.aL [],_,ρ,⟨rfl,rfl⟩,?_,.pure (.aL rfl sI)⟩
   exact awN
  ·simp_all[World.setCell,ap7]
  ·have bh:∀b,ay X ρ bx w b->(w.setCell ⟨p.b,0,none⟩ (.pointer (some ⟨p.b,0,none⟩))).heap[b]? =w.heap[b]?:=fun b hb=>hg.block b hb.1 fun e=>hb.2.2 t nx p awN e.symm;rcases i with _|i
   ·simp only[aet,aaM]at hi;subst hi;rcases j with _|_|j
    ·simp only[D.cells,aet,aaM]at hj;subst hj;have:0<cur.size:=awN
     exact⟨awN,.loc hp sI,rfl⟩
    ·simp only[D.cells,ajG,aet,aaM]at hj;subst hj;refine⟨?_,x1.mono bh (fun _ h=>h) (fun _ _ _ h=>h),x2⟩
     exact awN
    ·simp[D.cells]at hj
   exact awN
  ·rcases i with _|i
   ·simp only[aet,aaM]at hi;subst hi;rw[bz];rfl
   exact awN
 ·have e0:us 0 0= .pointer (some ⟨p.b,0,none⟩):=by grind [rep_loc]
  rw[e0]at iO;refine .inl ⟨en,Calls.mono (Any.Builder_copyCheck_used Tryz.IQ x72 p.b w iO) ?_⟩;rintro e' w' ⟨rfl,rfl⟩;refine .inl ⟨_,rfl,.aL [],bx,ρ,⟨rfl,?_⟩,hS,.pure (.aL rfl sI)⟩
  grind [aY,al]
def dF(bx:ab)(e:Nat)(s:ae):Prop:=∃c x,bx 5=⟨e,1,2,87,[.agg [c,x]]⟩/\(c= .raw (.pointer none)\/c= .loc 5 e 0 0)/\aP bx [414] 5 1 x (cM s)
def pU(bx' bx:ab):Prop:=∀q,q≠5->q≠414->bx' q=bx q
theorem pU.trans{a b c:ab}(h:pU a b)(k:pU b c):pU a c:=fun q h1 h2=>(h q h1 h2).trans (k q h1 h2)
@[go_sem] def appD_bs(lo:Nat)(T:TypeId->TI)(dst:Option Tmp)(bx:ab)(x y:D):BZ lo T 83 9 dst bx x y=Me lo T (T 83) (T 9) dst bx x y:=by simp_all[BZ]
def wstr_b(e:Nat)(s y:ae)(bx:ab)(h:dF bx e s)(hl:s.length+y.length<=140737488355328):az prog 36 400 [.loc 5 e 0 0,.str y] bx (fun d bx'=>dF bx' e (s++y)/\pU bx' bx) (fun _ _=>False):=by
 obtain⟨c,x,hb,hc,hx⟩:=h;refine fB 19 400 f36 [] [.tmp 4,.tmp 5] ?_;have hf:=hx.facts;refine zW ?_;intros;refine ao (copyCheck_b 419 5 e c x bx hb hc) rfl fun d B hq=>?_;obtain⟨rfl,rfl⟩:=hq;have eA:aP (ah bx 5 ⟨e,1,2,87,[.agg [.loc 5 e 0 0,x]]⟩) [414] 5 1 x (cM s):=hx.of fun t ht=>al awN;refine zW ?_;intros;refine app [414] eA (fun x' β hv=>?_) (by grind [um]);have xR:=hv.facts;refine zW ?_;intros;refine⟨⟨.loc 5 e 0 0,x',aY _ _ _,.inr rfl,?_⟩,fun q q1 q2=>?_⟩
 ·rw[uk];exact hv.of fun t ht=>by grind [ah,an,aZ]
 grind [aZ,an,al]
def ape:Go.Proofs.Builder.Extra prog Tryz.lays169_ren:={sizeBuilder:=ar,liesBuilder:=ar,t5:=underlying5,a5:=Tryz.isAgg5,z5:=Tryz.sizeOf5,v5:=Tryz.zeroValue5,infoByte:=ar,cellsByte:=ar,sizeByte:=ar,neB5:=awL}
def string_b(b0 e e':Nat)(c:D)(s:ae)(hs:s≠[])(bx:ab)(hb:bx 5=⟨e,1,2,87,[.agg [c,.ba 414 e' 1 0 (cM s).length]]⟩)(h4:bx 414=⟨e',1,1,5,cM s⟩):az prog 26 b0 [.loc 5 e 0 0] bx (fun d bx'=>d= .str s/\bx'=ah bx 414 {bx 414 with k:=0}) (fun _ _=>False):=by
 intro X ρ σ a w vs hS bC hl hv;obtain⟨v,rfl⟩:∃v,vs= #[v]:=by
  rcases vs with⟨_|⟨v,_|⟨_,_⟩⟩⟩<;>simp at hl
  exact awN
 obtain⟨p,rfl,hp,bz,QY,hh⟩:=ptr_own hS hb rfl rfl (hv 0 _ v rfl rfl);obtain⟨⟨cur,GB,gz,us,hu⟩,cU,gQ,hlen⟩:=hh;simp only at bz;obtain⟨x0,x1,x2⟩:=hu 0 _ 1 _ rfl rfl;obtain⟨q,hq,hqz,hqv,hqn,hqm⟩:=rep_osl x1;obtain⟨p4,hp4,Y9,Zc,_,hh4⟩:=hS.box 414 (by rw[h4];exact⟨sI,sI⟩);rw[h4]at hp4 Y9 Zc hh4;simp only at hp4 Y9 Zc;rw[hp4]at hq;injection hq with hq;subst hq;obtain⟨⟨cur4,hc4,ane,us4,hu4⟩,hcap4,hmax4,hlen4⟩:=hh4;have en:(callFunc 26 #[.pointer (some ⟨p.b,0,none⟩)]).run prog w= .ok (.enter 26 #[.pointer (some ⟨p.b,0,none⟩)]) w:=enters_of (f:=26) Tryz.Rb.f169 ar rfl _ _;rw[um]at hqv hqn;have iO:w.cell? ⟨p.b,1,none⟩=some (.slice (some ⟨p4.b,0,none⟩) s.length p4.cap):=avc
 refine .inl ⟨en,Calls.mono (string_row Tryz.Rb ape p.b p4.b p4.cap s w hs iO (by rw[hc4,Zc];rfl) hqn hqm (by rw[ane,Y9]) fun j x hx=>?_) ?_⟩
 ·obtain⟨y0,y1,_⟩:=hu4 j (.int .u8 (x.toNat:Int)) 0 _ (by simp[cM,hx]) rfl
  grind [rep_int]
 rintro e1 w' ⟨rfl,hg⟩;exact .inl ⟨_,rfl,.str s,_,ρ,⟨rfl,rfl⟩,hS.given oM awM awN hg,.pure (.str s)⟩
end Go.V.Rp
namespace Go.V.Rp
open Go.Proofs Go.Proofs.Tryz Go.RowKit Go.V.Lx Go.V.Gr Go.V.Ty Go.V.St
def Arg.d:Arg->D
 | .n x=> .bK 3 (I x)
 | .ns l=> .bK 98 (.sl 1 (l.map I))
 | .s x=> .bK 9 (.str x)
 | .ss l=> .bK 48 (.sl 1 (l.map D.str))
 | .b x=> .bK 4 (.bool x)
def NI(x:Int):Prop:= -9223372036854775808<=x/\x<=9223372036854775807
def Arg.ok:Arg->Prop
 | .n x=>NI x
 | .ns l=>Lm l/\∀x∈l,NI x
 | .ss l=>Lm l
 |_=>True
theorem Og(l:List ae)(j:Nat){x:ae}(hx:l[j]? =some x):cL (l.take (j+1))=cL (l.take j)++(32::x):=by grind [List.take_add_one,cL]
theorem Rm(l:List ae)(j:Nat):(cL (l.take j)).length<=(cL l).length:=by grind [List.take_append_drop,Fl]
def Uh(l:List Arg)(j:Nat){a:Arg}(ha:l[j]? =some a):cL ((l.take (j+1)).flatMap Arg.f)=cL ((l.take j).flatMap Arg.f)++cL a.f/\(cL ((l.take j).flatMap Arg.f)).length+(cL a.f).length<=(cL (l.flatMap Arg.f)).length:=by
 have e:cL ((l.take (j+1)).flatMap Arg.f)=cL ((l.take j).flatMap Arg.f)++cL a.f:=by grind [List.take_add_one,Fl]
 grind [List.take_append_drop,Fl]
theorem dF.of{bx bx':ab}{e:Nat}{s:ae}(h:dF bx e s)(h1:bx' 5=bx 5)(h2:bx' 414=bx 414):dF bx' e s:=by
 obtain⟨c,x,hb,hc,hx⟩:=h;exact⟨c,x,h1.trans hb,hc,hx.of fun t ht=>awN⟩
theorem pU.L6{B2 β B:ab}(h:pU B2 (an (bE [5,414]) β B)):cO (bE [5,414]) B2 B:=fun q hq=>by
 have h1:aZ (bE [5,414]) q=false:=hq;have h2:q≠5/\q≠414:=avf
 rw[h q h2.1 h2.2];exact aaw awN
theorem dF.mx{β B:ab}{e:Nat}{s:ae}(h:dF β e s):dF (an (bE [5,414]) β B) e s:=h.of av9 av9
def HM{x:ae}(h:x.length+1<=140737488355328):vG .add [32] x=some (.str (32::x)):=by
 have:([32]:ae).length=1:=rfl;simp only[vG]
 exact awN
theorem ai1(e:Nat)(s w:ae)(l:List Arg)(bx:ab)(h:dF bx e s)(bm:∀a∈l,a.ok)(BH:Lm l)(hl:s.length+(yI w l).length<=140737488355328):az prog 22 420 [.loc 5 e 0 0,.str w,.sl 1 (l.map Arg.d)] bx (fun d bx'=>dF bx' e (s++yI w l)/\pU bx' bx) (fun _ _=>False):=by
 have hw:s.length+w.length+(cL (l.flatMap Arg.f)).length+1<=140737488355328:=by grind [yI]
 refine fB 98 420 f22 [(2000007,[]),(2000013,[])] [] ?_;refine zW ?_;intros;refine ao (wstr_b e s w bx h oM) rfl fun d B hq=>?_;obtain⟨h1,hF⟩:=hq;clear h;refine zW ?_;intros;refine bT l [(7,9),(11,13),(15,16),(24,93)] (bE [5,414]) (fun j τ β=>τ 24= .int .i64 j/\dF β e (s++w++cL ((l.take j).flatMap Arg.f))) BH ⟨sG,by simpa[cL]using h1⟩ (fun j a τ β ha hj Ey hi=>?_) fun τ β hn hi=>?_
 ·obtain⟨i1,i2⟩:=hi;obtain⟨k1,k2⟩:=Uh l j ha;have QT:=bm a (aat ha);rw[k1,<-aaU];have mc:(s++w++cL ((l.take j).flatMap Arg.f)).length+(cL a.f).length<=140737488355328:=awN
  generalize s++w++cL ((l.take j).flatMap Arg.f)=s1 at *;have eK:dF (an (bE [5,414]) β B) e s1:=i2.of av9 av9;clear i2 k1 k2 hw hl bm h1 hF;cases a with
  |n x=>
   have hd:(Arg.n x).d= .bK 3 (I x):=rfl;have hx: -9223372036854775808<=x/\x<=9223372036854775807:=QT;have hf:(Arg.n x).f=[it x]:=rfl;rw[hf,uf]at mc⊢;have QX:=HM (x:=it x) awN;refine zW ?_;intros;refine gU (.aD 0 (.aD 1 (.aD 2 (.aD 3 (.both 4 [] (.aD 5 (.both 6 [] .fin .stop)) .stop))))) ar ?_;refine zW ?_;intros;refine ao (wstr_b e s1 _ _ eK oM) rfl fun d2 B2 hq=>?_;obtain⟨h2,fH⟩:=hq;have eW:=fH.L6;exact zE
  |ns m=>
   have hd:(Arg.ns m).d= .bK 98 (.sl 1 (m.map I)):=rfl;have hf:(Arg.ns m).f=m.map it:=rfl;have hlm:Lm m:=QT.1;rw[hf]at mc⊢;refine zW ?_;intros;refine bT m [(11,11),(44,55)] (bE [5,414]) (fun k τ β=>τ 44= .int .i64 k/\dF β e (s1++cL ((m.take k).map it))) hlm ⟨sG,by simpa[cL]using eK⟩ (fun k x τ2 β2 hx hk hwk oH=>?_) fun τ2 β2 GM oH=>?_
   ·obtain⟨q1,q2⟩:=oH;have eA:(m.map it)[k]? =some (it x):=awD
    have e1:cL ((m.take (k+1)).map it)=cL ((m.take k).map it)++(32::(it x)):=by simp_all[Og]
    have e2:(cL ((m.take (k+1)).map it)).length<=(cL (m.map it)).length:=by
     have:=Rm (m.map it) (k+1);exact awy
    rw[e1,aaY]at e2;rw[e1,<-aaU];have tB:(s1++cL ((m.take k).map it)).length+(32::(it x)).length<=140737488355328:=awN
    generalize s1++cL ((m.take k).map it)=s2 at *;have hx3: -9223372036854775808<=x/\x<=9223372036854775807:=QT.2 x (aat hx);have QX:=HM (x:=(it x)) awN;have xT:=q2.mx (B:=an (bE [5,414]) β B);clear q2 e1 e2 eK mc eA QT;refine zW ?_;intros;refine gU (.aD 0 (.aD 1 (.aD 2 (.aD 3 (.both 4 [] (.aD 5 (.both 6 [] .fin .stop)) .stop))))) ar ?_;refine zW ?_;intros;refine ao (wstr_b e s2 _ _ xT oM) rfl fun d2 B2 hq=>?_;obtain⟨h2,fH⟩:=hq;have eW:=fH.L6;exact zE
   ·obtain⟨q1,q2⟩:=oH;rw[aaP]at q2;have eW:cO (bE [5,414]) (an (bE [5,414]) β2 B) B:=cO.N_;refine zW ?_;intros;exact q2.mx
  |s x=>
   have hd:(Arg.s x).d= .bK 9 (.str x):=rfl;have hf:(Arg.s x).f=[x]:=rfl;rw[hf,uf]at mc⊢;have QX:=HM (x:=x) awN;refine zW ?_;intros;refine ao (wstr_b e s1 _ _ eK oM) rfl fun d2 B2 hq=>?_;obtain⟨h2,fH⟩:=hq;have eW:=fH.L6;exact zE
  |ss m=>
   have hd:(Arg.ss m).d= .bK 48 (.sl 1 (m.map D.str)):=rfl;have hf:(Arg.ss m).f=m:=rfl;have hlm:Lm m:=QT;rw[hf]at mc⊢;refine zW ?_;intros;refine bT m [(15,15),(70,80)] (bE [5,414]) (fun k τ β=>τ 70= .int .i64 k/\dF β e (s1++cL ((m.take k)))) hlm ⟨sG,by simpa[cL]using eK⟩ (fun k x τ2 β2 hx hk hwk oH=>?_) fun τ2 β2 GM oH=>?_
   ·obtain⟨q1,q2⟩:=oH;have eA:(m)[k]? =some x:=awD
    have e1:cL ((m.take (k+1)))=cL ((m.take k))++(32::x):=by grind [Og]
    have e2:(cL ((m.take (k+1)))).length<=(cL (m)).length:=by grind [Rm]
    rw[e1,aaY]at e2;rw[e1,<-aaU];have tB:(s1++cL ((m.take k))).length+(32::x).length<=140737488355328:=awN
    generalize s1++cL ((m.take k))=s2 at *;have QX:=HM (x:=x) awN;have xT:=q2.mx (B:=an (bE [5,414]) β B);clear q2 e1 e2 eK mc eA QT;refine zW ?_;intros;refine ao (wstr_b e s2 _ _ xT oM) rfl fun d2 B2 hq=>?_;obtain⟨h2,fH⟩:=hq;have eW:=fH.L6;exact zE
   ·obtain⟨q1,q2⟩:=oH;rw[aaP]at q2;have eW:cO (bE [5,414]) (an (bE [5,414]) β2 B) B:=cO.N_;refine zW ?_;intros;exact q2.mx
  |b x=>
   have hd:(Arg.b x).d= .bK 4 (.bool x):=rfl;have hf:(Arg.b x).f=[it (bN x)]:=rfl;rw[hf,uf]at mc⊢;cases x
   ·rw[show it (bN false)=[48] by decide+kernel]at mc⊢;refine zW ?_;intros;refine ao (wstr_b e s1 _ _ eK awN) rfl fun d2 B2 hq=>?_;obtain⟨h2,fH⟩:=hq;have eW:=fH.L6;exact zE
   ·rw[show it (bN true)=[49] by decide+kernel]at mc⊢;refine zW ?_;intros;refine ao (wstr_b e s1 _ _ eK awN) rfl fun d2 B2 hq=>?_;obtain⟨h2,fH⟩:=hq;have eW:=fH.L6;exact zE
 ·obtain⟨i1,i2⟩:=hi;rw[aaP]at i2;have eK:=i2.mx (B:=B);refine zW ?_;intros;refine ao (wstr_b e _ [10] _ eK awN) rfl fun d2 B2 hq=>?_;obtain⟨h2,fH⟩:=hq;refine zW ?_;intros;refine⟨?_,fun q q1 q2=>?_⟩
  ·grind [yI]
  ·have hq:aZ (bE [5,414]) q=false:=by simp[aZ];omega
   rw[fH.L6 q hq,hF q q1 q2]
section
variable {f:Nat} {caps:List D}
instance{p:bL->Bool}{q:bL->Prop}[h:∀x,Ct f (bL.d x::caps) (q x) (.bool (p x))](l:List bL):Ct 41 [.sl 8 (l.map bL.d),.fn (.func f) caps] (D.aH caps=true/\Lm l/\∀x∈l,q x) (I (j6 p l)):=by
 refine dp f41 [] [.tmp 4] fun pre=>?_;obtain⟨hp,hl,hq⟩:=pre;generalize hA:List.findIdx? p l=A;unfold j6;rw[hA];refine zW ?_;intros;refine F5 l hA 8 [(4,5),(8,18)] [] hl sG ?_ ?_
 ·intro j x τ β hx hj hw h8 cH;have hq:=hq x (aat hx);refine zW ?_;exact arJ
 ·exact asc
instance{p:bL->Bool}{q:bL->Prop}[h:∀x,Ct f (bL.d x::caps) (q x) (.bool (p x))](l:List bL):Ct 19 [.sl 8 (l.map bL.d),.fn (.func f) caps] (D.aH caps=true/\Lm l/\∀x∈l,q x) (.bool (l.any p)):=by
 refine dp f19 [] [.tmp 4] fun pre=>?_;obtain⟨hp,hl,hq⟩:=pre;rw[<-lk];exact zE
end
instance wr1(n:Int):Ct 42 [I n] True (.bool (qX n)):=by
 refine dp f42 [] [.tmp 2] fun pre=>?_;unfold qX;exact zF
instance wr2(s:ae):Ct 45 [.str s] True (.bool (!dG s)):=by
 refine dp f45 [] [.tmp 2] fun pre=>?_;exact zE
def Oc(h:bL):Prop:=Lm h.words/\∀w∈h.words,Lm w.alts
def agZ(w:Word):RV w=(qX w.f&&qX w.u&&qX w.s&&dG w.t&& !w.alts.any fun s=> !dG s):=by grind [RV]
instance(h:bL):Ct 21 [.agg [I h.kind,I h.sR,I h.cut,.sl 5 (h.words.map Word.d)]] (Oc h) (.bool (yk h)):=by
 refine dp f21 [] [.tmp 2] fun pre=>?_;obtain⟨hl,ha⟩:=pre;unfold yk;generalize hA:h.words.all RV=A;refine zW ?_;intros;refine ql h.words hA 28 [(2,2),(5,5),(28,62)] [(5,5)] hl sG (fun j x τ β hx hj hw hi cH=>?_) fun τ β hn hi ha=>?_
 ·have cQ:=ha x (aat hx);rw[agZ]at cH⊢;clear hA;exact zF
 ·exact zF
instance(h:bL):Ct 20 [h.d] (Oc h) (.bool (!yk h)):=by
 refine dp f20 [] [.tmp 2] fun pre=>?_;exact zE
def Ge(g:aA):Bool:=decide (g.name=[])&&decide (g.start=[])&&decide (g.no=0)&&decide (((g.aB.length:Int)+g.entries.length+g.rules.length)=0)
def UW(g:aA):Ge g=true<->g=aA.zero:=by
 unfold Ge;simp only[aas,aaH];constructor
 ·rintro⟨⟨⟨h1,h2⟩,h3⟩,h4⟩;obtain⟨a,b,c,d,e,f⟩:=g;simp only at h1 h2 h3 h4;have e1:b=[]:=afq.1 oM;have e2:e=[]:=afq.1 oM;have e3:f=[]:=afq.1 oM;subst h1;subst h2;subst h3;subst e1;subst e2;subst e3;rfl
 ·rintro rfl;exact⟨⟨⟨rfl,rfl⟩,rfl⟩,rfl⟩
attribute [local go_sem] aA.d
def smE(g:aA):Prop:=g.aB.length<=140737488355328/\g.entries.length<=140737488355328/\g.rules.length<=140737488355328
instance(g:aA):Ct 18 [g.d] (smE g) (.bool (Ge g)):=by
 refine dp f18 [] [.tmp 2] fun pre=>?_;obtain⟨h1,h2,h3⟩:=pre;unfold Ge;exact zF
end Go.V.Rp
namespace Go.V.Rp
open Go.Proofs Go.Proofs.Tryz Go.RowKit Go.V.Lx Go.V.Gr Go.V.Ty Go.V.St
attribute [local go_sem] aA.d
def adT(g:aA)(he:g.entries.length<=65536)(hr:g.rules.length<=65536)(hp:∀x∈g.rules,x.parts≠[]/\x.parts.length<=65536):az prog 24 0 [g.d] (fun _=> .none) (fun d bx'=>∃r,aU bx' d=some r/\bA r (cN g 0).d) (fun _ _=>False):=by
 refine fB 67 0 f24 [(2000002,[]),(2,[(7,5)])] [.cell 2 78] ?_;refine zW ?_;intros;refine gU (.aD 0 (.aD 3 (.load 1 1 (.load 4 1 (.both 2 [1] (.aD 6 (.both 5 [] (.both 7 [] (.aD 8 (.both 9 [] .fin .stop)) .stop) .stop)) .stop))))) ar ?_;refine zW ?_;intros;refine ao (Mt 300 g.entries oM _) rfl ?_;rintro dE B2 ⟨hE,kE⟩;have a1:=kE 1 oM;have a2:=kE 2 oM;simp only[ah,Nat.reduceEqDiff,abo,aa_]at a1 a2;refine zW ?_;intros;refine ao (Mu 320 g.rules oM _) rfl ?_;rintro dR B3 ⟨hR,kR⟩;have c1:=(kR 1 oM).trans a1;have c2:=(kR 2 oM).trans a2;obtain⟨f1,f2,f3⟩:=gx.facts ⟨hE,kE⟩;obtain⟨f4,f5,f6⟩:=gx.facts ⟨hR,kR⟩;rw[aa0]at f3 f6;have g1:∀c,ed dE 0 [c]=some c:=fun c=>by simp[ed,f1];grind [D.one]
 refine zW ?_;intros;obtain⟨eE,zm⟩:∃eE,g.entries≠[]->dE= .ba 307 eE 5 0 g.entries.length/\B3 307=⟨eE,1,5,152,g.entries.map Entry.d⟩:=ats
 obtain⟨eR,BF⟩:∃eR,g.rules≠[]->dR= .ba 327 eR 5 0 g.rules.length/\B3 327=⟨eR,1,5,157,g.rules.map aF.d⟩:=auq
 have Ni:g.entries=[]->aP B3 [305] 152 5 dE []:=fun h=>by
  rw[h]at hE;exact(gx.none ⟨hE,kE⟩).of fun t ht=>awN
 have QJ:g.rules=[]->aP B3 [325] 157 5 dR []:=fun h=>awN
 refine fresh (fun σ B=>σ 1= .loc 1 1 0 0/\σ 2= .loc 2 1 0 0/\σ 18= .int .i64 g.entries.length/\σ 19= .int .i64 0/\B 1=⟨1,1,6,78,[.agg [.str g.name,strs g.aB,.str g.start,I 0,dE,dR]]⟩/\B 2=⟨1,1,6,78,[pG]⟩/\∀q,300<=q->B q=B3 q) ⟨sG,sG,sG,sG,aY _ _ _,by simp[ah,c2,pG],fun q hq=>by rw[al oM,al oM]⟩ ?_;clear hE hR kE kR a1 a2 c1 c2;rintro σ B ⟨q1,q2,q18,q19,b1,b2,hB3⟩;replace zm:g.entries≠[]->dE= .ba 307 eE 5 0 g.entries.length/\B 307=⟨eE,1,5,152,g.entries.map Entry.d⟩:=fun h=>⟨(zm h).1,(hB3 307 oM).trans (zm h).2⟩
 replace BF:g.rules≠[]->dR= .ba 327 eR 5 0 g.rules.length/\B 327=⟨eR,1,5,157,g.rules.map aF.d⟩:=fun h=>⟨(BF h).1,(hB3 327 oM).trans (BF h).2⟩
 replace Ni:g.entries=[]->aP B [305] 152 5 dE []:=fun h=>(Ni h).of fun t ht=>awN
 replace QJ:g.rules=[]->aP B [325] 157 5 dR []:=fun h=>(QJ h).of fun t ht=>awN
 clear hB3;replace QJ:Hid _:=QJ;replace Ni:Hid _:=Ni;replace BF:Hid _:=BF;replace zm:Hid _:=zm;refine bT g.entries [(3,3),(19,27)] (bE [307]) (fun j τ β=>τ 19= .int .i64 j/\Hid (g.entries≠[]->β 307=⟨eE,1,5,152,(iM (sg 0) g.entries j).map Entry.d⟩)) awN ⟨q19,fun h=>by rw[zZ];exact(zm.out h).2⟩ (fun j x τ β hx hj hw hi=>?_) fun τ β hn hi=>?_
 ·obtain⟨i1,i2⟩:=hi;have bh:g.entries≠[]:=awN
  obtain⟨rfl,-⟩:=zm.out bh;have b7:=i2.out bh;have eC:=ur (f:=sg 0) hx;have fk:=uu (f:=sg 0) (d:=Entry.d) hx;have V2:=kM (sg 0) g.entries j;simp only[sg,Entry.d]at fk;replace fk:Hid _:=fk;have iI:x.d= .agg [.str x.text,.str x.cat,.int .i64 x.no,strs x.aE,.int .i64 x.cost]:=rfl;clear i2 zm Ni;refine zW ?_;intros;exact awy
 ·obtain⟨i1,i2⟩:=hi;rw[uq]at i2;have m1:an (bE [307]) β B 1=_:=(show an (bE [307]) β B 1=B 1 by simp[an,aZ]).trans b1;have m2:an (bE [307]) β B 2=_:=(show an (bE [307]) β B 2=B 2 by simp[an,aZ]).trans b2;have m7:Hid (g.entries≠[]->an (bE [307]) β B 307=⟨eE,1,5,152,(g.entries.map (sg 0)).map Entry.d⟩):=fun h=>(show an (bE [307]) β B 307=β 307 by simp[an,aZ]).trans (i2.out h);have m5:Hid (g.entries=[]->aP (an (bE [307]) β B) [305] 152 5 dE []):=fun h=>(Ni.out h).of fun t ht=>by grind [an,aZ]
  have r7:Hid (g.rules≠[]->dR= .ba 327 eR 5 0 g.rules.length/\an (bE [307]) β B 327=⟨eR,1,5,157,g.rules.map aF.d⟩):=fun h=>⟨(BF.out h).1,(show an (bE [307]) β B 327=B 327 by simp[an,aZ]).trans (BF.out h).2⟩
  have r5:Hid (g.rules=[]->aP (an (bE [307]) β B) [325] 157 5 dR []):=fun h=>(QJ.out h).of fun t ht=>avU
  clear i2 Ni QJ BF;refine zW ?_;intros;generalize an (bE [307]) β B=B5 at *;refine P_ g.rules.length (fun j σ' bx=>σ' 1= .loc 1 1 0 0/\σ' 2= .loc 2 1 0 0/\σ' 30= .int .i64 g.rules.length/\σ' 31= .int .i64 j/\(∀s,s≠327->s<340->bx s=B5 s)/\(g.rules≠[]->H6 eR ((iM (gj 0) g.rules j).map aF.d) bx)) ⟨by simp[go_sem,q1],by simp[go_sem,q2],sG,sG,fun _ _ _=>rfl,fun h=>by rw[zZ];exact .of (r7.out h).2⟩ ?_ ?_
  ·clear i1 q1 q2 q18 q19 b1 b2 hn;rintro j σ bx hj ⟨q1,q2,q30,KY,sE,hh⟩;obtain⟨x,hx⟩:=bk hj;have bh:g.rules≠[]:=awN
   obtain⟨rfl,-⟩:=r7.out bh;obtain⟨bx0,hm,pH,mQ⟩:=(hh bh).dO;refine⟨bx0,.inr ⟨rfl,327,_,hm.1,hm.2.1,hm.2.2⟩,?_⟩;clear hm;have c1:=((mQ 1 oM oM).trans (sE 1 oM oM)).trans m1;have au:(j:Int)<(g.rules.length:Int):=oM;have eC:=ur (f:=gj 0) hx;have V2:=kM (gj 0) g.rules j;have nF:=hp x (aat hx);have GR:x.parts.map Part.d≠[]:=awy
   have vQ:IntKind.i64.wrap ((j:Int)+1)=((j+1:Nat):Int):=aR oM;have iI:x.d= .agg [.str x.cat,.int .i64 x.no,.sl 3 (x.parts.map Part.d),.sl 2 (x.aE.map bt.d),.int .i64 x.cost]:=rfl;have xc:∀d:D,(((iM (gj 0) g.rules j).map aF.d).set j d)[j]? =some d:=fun d=>ajI awN;have CD:∀a b:D,(((iM (gj 0) g.rules j).map aF.d).set j a).set j b=((iM (gj 0) g.rules j).map aF.d).set j b:=fun a b=>ak9 ..;replace GR:Hid _:=GR;replace sE:Hid _:=sE;replace mQ:Hid _:=mQ;clear m5 m7 r5 r7 hh m1 m2;refine zW ?_;intros;refine ao (EU 340 x.parts nF.2 _) rfl ?_;rintro dP B6 ⟨hP,kP⟩;obtain⟨eP,rfl,yU⟩:=gx.own ⟨hP,kP⟩ GR.out;have Uu:=(kP 327 oM).trans (aY _ _ _);have k1:=(kP 1 oM).trans ((al oM).trans c1);have kB:Hid (∀s,s≠327->s<340->B6 s=bx0 s):=fun s h1 h2=>(kP s h2).trans (al h1);rw[aa0];clear hP kP c1 pH;refine zW ?_;intros;refine fresh (fun σ' B=>σ' 1= .loc 1 1 0 0/\σ' 2= .loc 2 1 0 0/\σ' 5= .loc 327 eR j 0/\σ' 30= .int .i64 g.rules.length/\σ' 31= .int .i64 j/\σ' 53= .int .i64 x.parts.length/\σ' 54= .int .i64 0/\B 327=⟨eR,1,5,157,((iM (gj 0) g.rules j).map aF.d).set j (.agg [.str x.cat,I 0,.ba 347 eP 3 0 x.parts.length,.sl 2 (x.aE.map bt.d),I x.cost])⟩/\B 347=⟨eP,1,3,161,x.parts.map Part.d⟩/\∀s,s≠327->s<340->B s=bx0 s) ⟨by simp[go_sem,q1],by simp[go_sem,q2],sG,by simp[go_sem,q30],by simp[go_sem,KY],sG,sG,?_,?_,fun s h1 h2=>?_⟩ ?_
   ·exact aY _ _ _
   ·exact awh
   ·exact(al h1).trans (kB.out s h1 h2)
   clear Uu k1 kB yU q1 q2 q30 KY CD f4 f5 f6;rintro σ7 B7 ⟨q1,q2,q5,q30,KY,Rw,q54,d27,d47,kB⟩;have DN:=xc (.agg [.str x.cat,I 0,.ba 347 eP 3 0 x.parts.length,.sl 2 (x.aE.map bt.d),I x.cost]);replace kB:Hid _:=kB;refine bT x.parts [(6,6),(54,64)] (bE [347]) (fun i τ β=>τ 54= .int .i64 i/\β 347=⟨eP,1,3,161,(iM (vW 0) x.parts i).map Part.d⟩) awN ⟨q54,by rw[zZ];exact d47⟩ (fun i y τ β hy hi hwi hj=>?_) fun τ β hn hj=>?_
   ·obtain⟨i1,i2⟩:=hj;have hyg:=ur (f:=vW 0) hy;have fk:=uu (f:=vW 0) (d:=Part.d) hy;have hul2:=kM (vW 0) x.parts i;have oL:y.d= .agg [.str y.cat,.int .i64 y.no,.str y.text]:=rfl;simp only[vW,Part.d]at fk;replace fk:Hid _:=fk;clear eC V2 nF iI xc hy hx;refine zW ?_;intros;rw[<-fk.out]
   ·obtain⟨i1,i2⟩:=hj;rw[uq]at i2;have Zh:an (bE [347]) β B7 347=⟨eP,1,3,161,(x.parts.map (vW 0)).map Part.d⟩:=(show an (bE [347]) β B7 347=β 347 by simp[an,aZ]).trans i2;have Zg:an (bE [347]) β B7 327=_:=(show an (bE [347]) β B7 327=B7 327 by simp[an,aZ]).trans d27;have hzk:∀s,s≠327->s<340->an (bE [347]) β B7 s=bx0 s:=fun s h1 h2=>(show an (bE [347]) β B7 s=B7 s by simp[an,aZ];omega).trans (kB.out s h1 h2);replace Zh:Hid _:=Zh;replace Zg:Hid _:=Zg;replace hzk:Hid _:=hzk;clear eC V2 nF iI DN d27 d47 i2;generalize an (bE [347]) β B7=B8 at *;refine zW ?_;intros;refine⟨fun s h1 h2=>(hzk.out s h1 h2).trans ((mQ.out s h1 oM).trans (sE.out s h1 h2)),fun _=>⟨_,Zg.out,?_,fun t ht=>?_⟩⟩
    ·rw[<-uu hx];refine I3 ?_ _ _ _ (oV _ _).1;have:=ja eP 1 3 161 x.parts.length ((x.parts.map (vW 0)).map Part.d) awL sI (Db _);simp only[Fk,dh,iw,jQ,Zh.out,this];simp[go_sem,aF.d,gj]
    ·rcases C0 _ _ ht with h|h
     ·rw[(oV B7 _).2]at h;exact awv
     grind [names,bY]
  ·clear i1 q1 q2 q18 q19 b1 b2 hn;rintro σ bx ⟨q1,q2,q30,KY,sE,hh⟩;have au:¬(g.rules.length:Int)<(g.rules.length:Int):=oM;obtain⟨bx0,hm,E7,hRo⟩:∃bx0,(bx0=bx\/∃l,(bx 327).k=1/\cE bx (bx 327).es=some l/\bx0=Go.V.dO bx 327 l)/\(∀s,s≠327->s<340->bx0 s=B5 s)/\∀B':ab,(∀q,300<=q->B' q=bx0 q)->∃r,aU B' dR=some r/\bA r (.sl 5 ((g.rules.map (gj 0)).map aF.d)):=by
    by_cases he:g.rules=[]
    ·refine⟨bx,.inl rfl,sE,fun B' Gw=>?_⟩;have ho:=(r5.out he).of (bx':=B') fun t ht=>awN
     rw[he];exact ho.out awq
    ·obtain⟨bx0,hm,pH,mQ⟩:=(hh he).dO;rw[uq]at pH hm;refine⟨bx0,.inr ⟨_,hm⟩,fun s h1 h2=>(mQ s h1 oM).trans (sE s h1 h2),fun B' Gw=>?_⟩;rw[(r7.out he).1,jQ,Gw 327 oM,pH];exact⟨_,ja _ _ _ _ _ _ awL sI (Fs _),.refl _⟩
   refine⟨bx0,?_,?_⟩
   ·rcases hm with rfl|⟨l,h1,h2,h3⟩
    ·exact .inl rfl
    ·exact .inr ⟨rfl,327,l,h1,h2,h3⟩
   have c1:=(E7 1 oM oM).trans m1;have c2:=(E7 2 oM oM).trans m2;have Vj:∀B':ab,(∀q,300<=q->B' q=bx0 q)->∃r,aU B' dE=some r/\bA r (.sl 5 ((g.entries.map (sg 0)).map Entry.d)):=fun B' Gw=>by
    by_cases he:g.entries=[]
    ·have ho:=(m5.out he).of (bx':=B') fun t ht=>awN
     rw[he];exact ho.out awq
    ·have b7:=(Gw 307 oM).trans ((E7 307 oM oM).trans (m7.out he));rw[(zm.out he).1,jQ,b7];exact⟨_,ja _ _ _ _ _ _ awL sI (Fq _),.refl _⟩
   unfold pG at c2;clear sE hh hm E7 m1 m2 m5 m7 r5 r7 zm;replace Vj:Hid _:=Vj;replace hRo:Hid _:=hRo;refine zW ?_;intros;generalize Gw:ah bx0 2 _=B';obtain⟨rE,e1,e2⟩:=Vj.out B' fun q hq=>by rw[<-Gw,al oM]
   obtain⟨rR,e3,e4⟩:=hRo.out B' fun q hq=>by rw[<-Gw,al oM]
   exact⟨.agg [.str g.name,.sl 1 (g.aB.map D.str),.str g.start,I 0,rE,rR],by rw[e1,e3];rfl,Ty.vp (.refl _) (.refl _) (.refl _) (.refl _) e2 e4⟩
def FY(g:aA)(he:g.entries.length<=65536)(hr:g.rules.length<=65536)(hp:∀x∈g.rules,x.parts≠[]/\x.parts.length<=65536):av prog 24 [g.d] (cN g 0).d:=
 (adT g he hr hp).to (fun _ _ h=>h) fun d' bx' h=>h
end Go.V.Rp
namespace Go.V.Rp
open Go.Proofs Go.Proofs.Tryz Go.RowKit Go.V.Lx Go.V.Gr Go.V.Ty Go.V.St
noncomputable abbrev aQ(l:List Item):ae:=eu par l
theorem lq(a b:List Item):aQ (a++b)=aQ a++aQ b:=by simp[eu]
theorem Jj(i:Item):aQ [i]=d_ par i++[10]:=by simp[eu]
theorem Bp(i:Item)(l:List Item):aQ (i::l)=(d_ par i++[10])++aQ l:=by simp[eu]
def FM{α:Type}(g:α->List Item)(l:List α)(j:Nat){x:α}(hx:l[j]? =some x):aQ ((l.take (j+1)).flatMap g)=aQ ((l.take j).flatMap g)++aQ (g x)/\(aQ ((l.take j).flatMap g)).length+(aQ (g x)).length<=(aQ (l.flatMap g)).length:=by
 have e:aQ ((l.take (j+1)).flatMap g)=aQ ((l.take j).flatMap g)++aQ (g x):=by grind [List.take_add_one,lq]
 grind [List.take_append_drop,lq]
theorem Rv{i:Item}{args:List Arg}(h:cL (args.flatMap Arg.f)=cL (i.f par)):aQ [i]=yI i.w args:=by rw[Jj,Zo i h]
def afK(i:Item)(args:List Arg)(e:Nat)(s:ae)(bx:ab)(hs:dF bx e s)(h:cL (args.flatMap Arg.f)=cL (i.f par))(bm:∀a∈args,a.ok)(BH:Lm args)(hl:s.length+(aQ [i]).length<=140737488355328):az prog 22 420 [.loc 5 e 0 0,.str i.w,.sl 1 (args.map Arg.d)] bx (fun d bx'=>dF bx' e (s++aQ [i])/\pU bx' bx) (fun _ _=>False):=by grind [Rv,ai1]
@[go_sem] def aoC(t:TypeId)(d:D):(D.bK t d).pure=d.pure:=ax
variable {tab:List (Nat×List (Nat×Nat))} {base aN:Nat} {yl:Option (List (List D)×Nat×Nat×Nat)} {pn df:Bool} {K2:Cl->D->ab->Prop}
def kS(i:Item)(args:List Arg){e:Nat}{s w:ae}{ds:List D}{bx:ab}(hs:dF bx e s)(hl:s.length+(aQ [i]).length<=140737488355328)(bm:∀a∈args,a.ok)(hk:∀d B,dF B e (s++aQ [i])->pU B bx->K2 .wa d B)
 (hw:w=i.w:=by rfl) (Nq:ds=args.map Arg.d:=by rfl) (h:cL (args.flatMap Arg.f)=cL (i.f par):=by rfl) (BH:Lm args:=by simp[Lm]):c_ ⟨dD prog,tab,base,aN,0,yl,pn,df⟩ 22 [.loc 5 e 0 0,.str w,.sl 1 ds] bx K2:=by
 subst hw;subst Nq;exact ao (afK i args e s bx hs h bm BH hl) rfl fun d B hq=>hk d B hq.1 hq.2
def EN(bx' bx:ab):Prop:=∀q,q<400\/600<=q->q≠5->bx' q=bx q
theorem pU.v{a b:ab}(h:pU a b):EN a b:=fun q h1 h2=>h q h2 oM
structure okW(v:aV):Prop where
 n:∀i∈vI v,fC par i
 g:Lm v.bq.gs
 k:Lm v.bq.ks
 s:Lm v.cz
 b:Lm v.br.bl
 c:∀x∈v.cz,Lm x.c
def acf{n:Int}(h:iT n):NI n:=by grind [iT,NI]
def om{i:Item}(h:fC par i):∀n∈i.ns par,NI n:=fun n hn=>acf (h.1 n hn)
theorem YD{α:Type}(f:α->Item)(l:List α):l.flatMap (fun x=>[f x])=l.map f:=by induction l<;>grind
def jT{α:Type}(f:α->Item)(l:List α)(j:Nat){x:α}(hx:l[j]? =some x):aQ ((l.take (j+1)).map f)=aQ ((l.take j).map f)++aQ [f x]/\(aQ ((l.take j).map f)).length+(aQ [f x]).length<=(aQ (l.map f)).length:=by
 have:=FM (fun x=>[f x]) l j hx
 grind [YD]
theorem pU.R5{B2 X B:ab}{t:Nat}(h:pU B2 X)(hX:cO (bE [5,414,t]) X B):cO (bE [5,414,t]) B2 B:=fun q hq=>by
 have h2:q≠5/\q≠414:=avf
 exact(h q h2.1 h2.2).trans (hX q hq)
def KV(v:aV)(e ep:Nat)(bx:ab)(s:ae)(σ:Env)(β:ab):Prop:=σ 0= .loc 5 e 0 0/\σ 3= .loc 503 ep 0 0/\β 503=⟨ep,1,14,62,[v.d]⟩/\dF β e s/\EN β bx
def aan(e:Nat)(s:ae)(v:aV)(bx:ab)(h:dF bx e s)(ok:okW v)(hl:s.length+(aQ (vI v)).length<=140737488355328):az prog 25 500 [.loc 5 e 0 0,v.d] bx (fun d bx'=>dF bx' e (s++aQ (vI v))/\EN bx' bx) (fun _ _=>False):=by
 have QZ:vI v=[.gF v.no v.bH v.lines v.room v.cells v.speed v.right v.bq.o v.br.w v.br.h]++(v.bq.gs.map .gn++(v.bq.ks.map .jw++(v.cz.map .sign++v.br.bl.map .block))):=by grind [vI]
 have bm:=ok.n;rw[QZ]at hl bm⊢;simp only[lq,aaY]at hl⊢;have o1:∀x∈v.bq.gs,fC par (.gn x):=fun x hx=>bm _ awD;have o2:∀x∈v.bq.ks,fC par (.jw x):=fun x hx=>bm _ awD;have o3:∀x∈v.cz,fC par (.sign x):=fun x hx=>bm _ awD;have o4:∀x∈v.br.bl,fC par (.block x):=fun x hx=>bm _ awD;have o0:=bm (.gF v.no v.bH v.lines v.room v.cells v.speed v.right v.bq.o v.br.w v.br.h) sI;have o0:Hid _:=om o0;replace o1:Hid _:=o1;replace o2:Hid _:=o2;replace o3:Hid _:=o3;replace o4:Hid _:=o4;replace hl:Hid _:=hl;clear QZ bm;refine fB 142 500 f25 [] [] ?_;refine zW ?_;intros;refine kS (.gF v.no v.bH v.lines v.room v.cells v.speed v.right v.bq.o v.br.w v.br.h) [.n v.no,.n v.bH,.n v.lines,.n v.room,.n v.cells,.n v.speed,.b v.right,.n v.bq.o,.n v.br.w,.n v.br.h] (h.of (al awL) (al awL)) (by have:=hl.out;omega) (by have:=o0.out;simp_all[Item.ns,Arg.ok]) fun d B h1 h2=>?_;have hb:B 503=⟨(bx 503).ep+1,1,14,62,[v.d]⟩:=(h2 503 awL awL).trans (aY _ _ _);have kW:EN B bx:=fun q q1 q2=>(h2 q q2 oM).trans (al oM);have VM:(s++aQ [.gF v.no v.bH v.lines v.room v.cells v.speed v.right v.bq.o v.br.w v.br.h]).length=s.length+(aQ [.gF v.no v.bH v.lines v.room v.cells v.speed v.right v.bq.o v.br.w v.br.h]).length:=aaY;rw[<-aaU];have eh:=hl.out;rw[<-ae8,<-VM]at eh;replace hl:Hid _:=eh;clear eh;clear h2 h o0 VM;generalize(bx 503).ep+1=ep at *;generalize s++aQ [.gF v.no v.bH v.lines v.room v.cells v.speed v.right v.bq.o v.br.w v.br.h]=s0 at *;refine zW ?_;intros;refine fresh (fun σ β=>KV v e ep bx s0 σ β/\σ 52= .sl 3 (v.bq.gs.map ia.d)/\σ 53= .int .i64 v.bq.gs.length/\σ 54= .int .i64 0) ⟨⟨avA,avA,awN,h1,kW⟩,sG,sG,sG⟩ ?_;clear hb h1 kW;rintro σ B ⟨⟨q0,q3,hb,h1,kW⟩,qa,qb,qc⟩;refine bT v.bq.gs [(5,5),(54,70)] (bE [5,414,505]) (fun j τ β=>τ 54= .int .i64 j/\dF β e (s0++aQ ((v.bq.gs.take j).map .gn))) ok.g ⟨qc,avm⟩ (fun j x τ β hx hj hw hi=>?_) fun τ β hn hi=>?_
 ·obtain⟨i1,i2⟩:=hi;obtain⟨k1,k2⟩:=jT .gn v.bq.gs j hx;have ho:=om (o1.out x (aat hx));rw[k1,<-aaU];have hs:(s0++aQ ((v.bq.gs.take j).map .gn)).length+(aQ [.gn x]).length<=140737488355328:=avh
  generalize s0++aQ ((v.bq.gs.take j).map .gn)=s2 at *;have eK:dF (an (bE [5,414,505]) β B) e s2:=i2.of av9 av9;replace ho:Hid _:=ho;clear i2 k1 k2 h1;refine zW ?_;intros;refine kS (.gn x) [.n x.f,.n x.t,.n x.w] (eK.of awx awx) hs ar6 (fun d2 B2 h2 fH=>?_);have eW:cO (bE [5,414,505]) B2 B:=fH.R5 ag;exact zE
 ·obtain⟨i1,i2⟩:=hi;rw[aaP]at i2;have h9:dF (an (bE [5,414,505]) β B) e (s0++aQ (v.bq.gs.map .gn)):=i2.of av9 av9;have Cu:EN (an (bE [5,414,505]) β B) bx:=fun q q1 q2=>(show an (bE [5,414,505]) β B q=B q by simp[an,aZ];omega).trans (kW q q1 q2);have jX:(s0++aQ (v.bq.gs.map .gn)).length=s0.length+(aQ (v.bq.gs.map .gn)).length:=aaY;rw[<-aaU];have eh:=hl.out;rw[<-ae8,<-jX]at eh;replace hl:Hid _:=eh;clear eh;clear i2 h1 kW jX;have h1:=h9;have kW:=Cu;clear h9 Cu;generalize s0++aQ (v.bq.gs.map .gn)=s1 at *;refine zW ?_;intros;refine fresh (fun σ β=>KV v e ep bx s1 σ β/\σ 73= .sl 3 (v.bq.ks.map kj.d)/\σ 74= .int .i64 v.bq.ks.length/\σ 75= .int .i64 0) ⟨⟨avA,avA,avU,h1,kW⟩,sG,sG,sG⟩ ?_;clear hb h1 kW;rintro σ B ⟨⟨q0,q3,hb,h1,kW⟩,qa,qb,qc⟩;refine bT v.bq.ks [(7,7),(75,92)] (bE [5,414,507]) (fun j τ β=>τ 75= .int .i64 j/\dF β e (s1++aQ ((v.bq.ks.take j).map .jw))) ok.k ⟨qc,avm⟩ (fun j x τ β hx hj hw hi=>?_) fun τ β hn hi=>?_
  ·obtain⟨i1,i2⟩:=hi;obtain⟨k1,k2⟩:=jT .jw v.bq.ks j hx;have ho:=om (o2.out x (aat hx));rw[k1,<-aaU];have hs:(s1++aQ ((v.bq.ks.take j).map .jw)).length+(aQ [.jw x]).length<=140737488355328:=avh
   generalize s1++aQ ((v.bq.ks.take j).map .jw)=s2 at *;have eK:dF (an (bE [5,414,507]) β B) e s2:=i2.of av9 av9;replace ho:Hid _:=ho;have hy:=(o2.out x (aat hx)).1 (x.y+4096) avX;unfold iT at hy;have hyw:IntKind.i64.wrap (x.y+4096)=x.y+4096:=vV _ oM oM;clear i2 k1 k2 h1;refine zW ?_;intros;refine kS (.jw x) [.n x.a,.n x.b,.n (x.y+4096)] (eK.of awx awx) hs ar6 (fun d2 B2 h2 fH=>?_);have eW:cO (bE [5,414,507]) B2 B:=fH.R5 ag;exact zE
  ·obtain⟨i1,i2⟩:=hi;rw[aaP]at i2;have h9:dF (an (bE [5,414,507]) β B) e (s1++aQ (v.bq.ks.map .jw)):=i2.of av9 av9;have Cu:EN (an (bE [5,414,507]) β B) bx:=fun q q1 q2=>(show an (bE [5,414,507]) β B q=B q by simp[an,aZ];omega).trans (kW q q1 q2);have qw:(s1++aQ (v.bq.ks.map .jw)).length=s1.length+(aQ (v.bq.ks.map .jw)).length:=aaY;rw[<-aaU];have eh:=hl.out;rw[<-ae8,<-qw]at eh;replace hl:Hid _:=eh;clear eh;clear i2 h1 kW qw;have h1:=h9;have kW:=Cu;clear h9 Cu;generalize s1++aQ (v.bq.ks.map .jw)=s2 at *;refine zW ?_;intros;refine fresh (fun σ β=>KV v e ep bx s2 σ β/\σ 94= .sl 2 (v.cz.map Sign.d)/\σ 95= .int .i64 v.cz.length/\σ 96= .int .i64 0) ⟨⟨avA,avA,avU,h1,kW⟩,sG,sG,sG⟩ ?_;clear hb h1 kW;rintro σ B ⟨⟨q0,q3,hb,h1,kW⟩,qa,qb,qc⟩;refine bT v.cz [(9,11),(96,117)] (bE [5,414,509]) (fun j τ β=>τ 96= .int .i64 j/\dF β e (s2++aQ ((v.cz.take j).map .sign))) ok.s ⟨qc,avm⟩ (fun j x τ β hx hj hw hi=>?_) fun τ β hn hi=>?_
   ·obtain⟨i1,i2⟩:=hi;obtain⟨k1,k2⟩:=jT .sign v.cz j hx;have ho:=om (o3.out x (aat hx));rw[k1,<-aaU];have hs:(s2++aQ ((v.cz.take j).map .sign)).length+(aQ [.sign x]).length<=140737488355328:=avh
    generalize s2++aQ ((v.cz.take j).map .sign)=s2 at *;have eK:dF (an (bE [5,414,509]) β B) e s2:=i2.of av9 av9;replace ho:Hid _:=ho;have au:Lm (tc x.t):=by have:=Dl x.t;unfold tc Lm;omega
    have uV:=ok.c x (aat hx);clear i2 k1 k2 h1;refine zW ?_;intros;refine kS (.sign x) [.n ((tc x.t).length:Int),.ns (tc x.t),.ns x.c] (eK.of awx awx) hs (by have ho:=ho.out;simp only[Item.ns,aaQ,abr,aeG]at ho;simp only[aaQ,abe,aeV,aeG,afu,Arg.ok];exact⟨ho.1,⟨au,fun n hn=>ho.2 n (.inl hn)⟩,uV,fun n hn=>ho.2 n (.inr hn)⟩) (fun d2 B2 h2 fH=>?_) rfl rfl (by simp[Item.f,Item.ns,Item.ts,Arg.f,par]);have eW:cO (bE [5,414,509]) B2 B:=fH.R5 ag;exact zE
   ·obtain⟨i1,i2⟩:=hi;rw[aaP]at i2;have h9:dF (an (bE [5,414,509]) β B) e (s2++aQ (v.cz.map .sign)):=i2.of av9 av9;have Cu:EN (an (bE [5,414,509]) β B) bx:=fun q q1 q2=>(show an (bE [5,414,509]) β B q=B q by simp[an,aZ];omega).trans (kW q q1 q2);have uU:(s2++aQ (v.cz.map .sign)).length=s2.length+(aQ (v.cz.map .sign)).length:=aaY;rw[<-aaU];have eh:=hl.out;rw[<-ae8,<-uU]at eh;replace hl:Hid _:=eh;clear eh;clear i2 h1 kW uU;have h1:=h9;have kW:=Cu;clear h9 Cu;generalize s2++aQ (v.cz.map .sign)=s3 at *;refine zW ?_;intros;refine fresh (fun σ β=>KV v e ep bx s3 σ β/\σ 120= .sl 4 (v.br.bl.map iK.d)/\σ 121= .int .i64 v.br.bl.length/\σ 122= .int .i64 0) ⟨⟨avA,avA,avU,h1,kW⟩,sG,sG,sG⟩ ?_;clear hb h1 kW;rintro σ B ⟨⟨q0,q3,hb,h1,kW⟩,qa,qb,qc⟩;refine bT v.br.bl [(13,13),(122,141)] (bE [5,414,513]) (fun j τ β=>τ 122= .int .i64 j/\dF β e (s3++aQ ((v.br.bl.take j).map .block))) ok.b ⟨qc,avm⟩ (fun j x τ β hx hj hw hi=>?_) fun τ β hn hi=>?_
    ·obtain⟨i1,i2⟩:=hi;obtain⟨k1,k2⟩:=jT .block v.br.bl j hx;have ho:=om (o4.out x (aat hx));rw[k1,<-aaU];have hs:(s3++aQ ((v.br.bl.take j).map .block)).length+(aQ [.block x]).length<=140737488355328:=avh
     generalize s3++aQ ((v.br.bl.take j).map .block)=s2 at *;have eK:dF (an (bE [5,414,513]) β B) e s2:=i2.of av9 av9;replace ho:Hid _:=ho;clear i2 k1 k2 h1;refine zW ?_;intros;refine kS (.block x) [.n x.x,.n x.y,.n x.w,.n x.h] (eK.of awx awx) hs ar6 (fun d2 B2 h2 fH=>?_);have eW:cO (bE [5,414,513]) B2 B:=fH.R5 ag;exact zE
    ·obtain⟨i1,i2⟩:=hi;rw[aaP]at i2;have h9:dF (an (bE [5,414,513]) β B) e (s3++aQ (v.br.bl.map .block)):=i2.of av9 av9;refine zW ?_;intros;exact⟨h9,fun q q1 q2=>(show an (bE [5,414,513]) β B q=B q by simp[an,aZ];omega).trans (kW q q1 q2)⟩
end Go.V.Rp
