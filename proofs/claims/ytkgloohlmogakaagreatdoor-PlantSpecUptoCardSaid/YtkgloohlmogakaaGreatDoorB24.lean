/- Lemmas on plain data and programs: part B24. -/
import Derived.Test.YtkgloohlmogakaaGreatDoorB23
set_option linter.all false
set_option maxHeartbeats 8000000
set_option maxRecDepth 100000
namespace Go.V.Jn
open Go.Proofs Go.Proofs.Tryz Go.RowKit Go.V.Lx Go.V.Gr Go.V.Ty Go.V.St
@[go_sem] def Tq(e esz b size:Nat)(ag fk:Bool)(z es:List D)(n:Int)(h0:0<=n)(h1:0<esz):eY ⟨.slice e esz b ag,size,fk,z⟩ (.g_ esz es) n=(es[n.toNat]?).map fun d=> .cA d 0:=by simp[eY,h0,h1]
def ey(s:List ah)(l:List bX):List ah:=l.foldl (fun s w=>s.set w.at_.toNat w.data) s
theorem kZ(l:List bX):∀s:List ah,(ey s l).length=s.length:=by
 induction l with
 |nil=>intro s;rfl
 |cons w l ih=>intro s;show(ey (s.set _ _) l).length=_;rw[ih];simp
def Of{s:List ah}{l:List bX}{j:Nat}{w:bX}(h:l[j]? =some w):ey s (l.take (j+1))=(ey s (l.take j)).set w.at_.toNat w.data:=by rw[List.take_add_one,h];simp[ey]
def zi(s:List ah)(l:List bX)(y:D)(hy:y= .sl 2 (l.map bX.d)\/y= .g_ 2 (l.map bX.d))(h0:0<s.length)(h1:s.length<=4096)(h2:l.length<=4096)(h3:∀w∈l,rM s.length w=true)(bx:ae):
 bj prog 164 78 [.sl 1 (s.map aU),y] bx (fun d bx'=>∃e,d= .bE 109 e 1 0 s.length/\bx' 109=⟨e,1,1,71,(ey s l).map aU⟩/\∀q,q<78->bx' q=bx q) (fun _ _=>False):=by
 refine aI (fn:=f164) (tab:=[]) (base:=78) mixed ?_ rfl aj rfl;refine aJ _ [.tmp 4] 24 rfl rfl rfl aj ?_;have hz:s.map aU≠[]:=by intro h;rw[List.map_eq_nil_iff]at h;subst h;simp at h0
 rcases hy with rfl|rfl;all_goals
  repeat' first|exact zQ|with_reducible apply zJ<;>intro _|refine zK ?_
  refine aC (Pe 102 (s.map aU) (by simp;omega) _) rfl fun d bx1 hq=>?_;obtain⟨e,rfl,hb⟩:=hq.own hz;have hk:=hq.jb;rw[List.length_map];repeat' first|exact zQ|with_reducible apply zJ<;>intro _|refine zK ?_
  refine cm l [(7,7),(12,22)] [(85,85),(109,109)] (fun j τ β=>τ 12=I j/\β 109=⟨e,1,1,71,(ey s (l.take j)).map aU⟩) (by simp[Lm];omega) ⟨by simp[go_sem],hb⟩ (fun j x τ β hx hj hw hi=>?_) fun τ β hn hi=>?_
  ·obtain⟨Av,Vm⟩:=hi;have hwo:=h3 x (mG hx);simp only[rM,bA,decide_eq_true_eq]at hwo;obtain⟨⟨w1,w2⟩,w3⟩:=hwo;have hl:(ey s (l.take j)).length=s.length:=kZ _ _;have hs:=Of (s:=s) hx;obtain⟨o,ho⟩:∃o,(ey s (l.take j))[x.at_.toNat]? =some o:=⟨_,gE oM⟩
   generalize ey s (l.take j)=S at *;have uA:(S.map aU).set x.at_.toNat (aU x.data)=(ey s (l.take (j+1))).map aU:=by rw[hs,List.map_set]
   clear h3 hq;repeat' first|exact zQ|with_reducible apply zJ<;>intro _|refine zK ?_
  ·obtain⟨Av,Vm⟩:=hi;rw[tL]at Vm;clear h3 hq;repeat' first|exact zQ|with_reducible apply zJ<;>intro _|refine zK ?_
   exact⟨e,rfl,rfl,fun q h=>by rw[if_neg oM,if_neg oM]⟩
@[go_sem] def adP{α:Type}(x:α)(xs:List α):(x::xs=[])=False:=by simp
def rV(b:ah):ah:=b++List.replicate (128 - b.length) 0
def uf(d:cI)(a:Int)(b:ah):cI×Int:=if mU d=true/\hasB d a=true then(if b.length<=128 then(if d.bC.length=4096 then(d0,2)else({d with bC:=d.bC++[⟨a,rV b⟩]},0))else(d0,1))else(d0,40)
def Cj{d:cI}(h:dt d=true):d.bC.length<=4096:=by simp[dt]at h;omega
instance adV(d:cI)(a:Int)(b:ah):Ct 99 [d.d,I a,aU b] (okD d) (.aL [(uf d a b).1.d,I (uf d a b).2]):=by
 refine RA f99 (n:=46) [(4000009,[(6,40)]),(3000043,[])] [.cell 6 39,.tmp 7] fun pre=>?_;unfold uf;cases h1:mU d
 ·repeat' first|exact zQ|with_reducible apply zJ<;>intro _|refine zK ?_
  all_goals first|exact wk|trace_state
 cases h2:hasB d a
 ·repeat' first|exact zQ|with_reducible apply zJ<;>intro _|refine zK ?_
  all_goals first|exact wk|trace_state
 rw[if_pos sI];by_cases h3:b.length<=128
 rotate_left
 ·have c:(128:Int)<b.length:=oM;repeat' first|exact zQ|with_reducible apply zJ<;>intro _|refine zK ?_
  all_goals first|exact wk|trace_state
 have c:¬(128:Int)<b.length:=oM;rw[if_pos h3];by_cases h4:d.bC.length=4096
 ·rw[if_pos h4];have c4:(d.bC.length:Int)=4096:=oM;clear h4;repeat' first|exact zQ|with_reducible apply zJ<;>intro _|refine zK ?_
  all_goals first|exact wk|trace_state
 rw[if_neg h4];have c4:¬(d.bC.length:Int)=4096:=oM;have hp:d.bC.length<=4096:=Cj (by simp[mU]at h1;exact h1.1);have hz:=nK;have qn:(a_ cK).length=128:=by simp[a_,hz]
 have hz3:min b.length 128=b.length:=oM;have Bf:(d.bC.map bX.d).length<=1048576/\D.aF (d.bC.map bX.d)=true:=⟨by simp;omega,by rw[cZ];simp[D.pure,D.aF]⟩
 have CI:a_ b++a_ (List.drop b.length cK)=a_ (rV b):=by rw[<-iu,cK,List.drop_replicate,rV]
 have c5:((d.bC.map bX.d).length+[D.agg [D.int .i64 a,D.sl 1 (a_ (rV b))]].length) * 32<=140737488355328:=by simp;omega
 have oD:(rV b).length=128:=by simp[rV];omega
 have We:pX ⟨1,1,2,144,d.bC.map bX.d++[D.agg [D.int .i64 a,D.sl 1 (a_ (rV b))]]⟩ 1 2 0 (d.bC.length+1)=some (.sl 2 ((d.bC++[bX.mk a (rV b)]).map bX.d)):=by
  rw[show d.bC.map bX.d++[D.agg [D.int .i64 a,D.sl 1 (a_ (rV b))]]=(d.bC++[bX.mk a (rV b)]).map bX.d by simp];exact eK _ _ _ _ _ _ (by decide) sI (by rw[cZ];simp[D.pure,D.aF])
 clear h4;repeat' first|exact zQ|with_reducible apply zJ<;>intro _|refine zK ?_
 exact⟨wk,wk⟩
def qb(d:cI):List ah:=
 let s:=ey d.aZ (d.bC.take d.left.toNat);let w:=d.bC.getD d.left.toNat ⟨0,[]⟩
 s.set w.at_.toNat (w.data.take 64++(s.getD w.at_.toNat []).drop 64)
theorem tU:∀ {l:List bX} {s:List ah},(∀b∈s,b.length=128)->(∀w∈l,rM s.length w=true)->∀b∈ey s l,b.length=128
 |[],s,h,_,b,hb=>h b hb
 |w::l,s,h,hw,b,hb=>by
  refine tU (l:=l) (s:=s.set w.at_.toNat w.data) (fun x hx=>?_) (fun x hx=>by rw[List.length_set];exact hw x (List.mem_cons_of_mem _ hx)) b hb;rcases List.mem_or_eq_of_mem_set hx with h1|rfl
  ·exact h x h1
  ·have:=hw w (List.mem_cons_self ..);simp[rM]at this;exact this.2
def kU(d:cI):cI×Int:=if mU d=true then(if 0<=d.left/\d.left<d.bC.length then(⟨qb d,[],0,true⟩,40)else(⟨ey d.aZ d.bC,[],if 0<=d.left then d.left - d.bC.length else d.left,false⟩,0))else(d0,40)
instance adU(d:cI):Ct 101 [d.d] (okD d) (.aL [(kU d).1.d,I (kU d).2]):=by
 refine RA f101 (n:=78) [(4000010,[(5,58)]),(2000012,[]),(12,[(4,2)])] [.cell 2 39,.tmp 3] fun pre=>?_;unfold kU;cases h1:mU d
 ·repeat' first|exact zQ|with_reducible apply zJ<;>intro _|refine zK ?_
  exact wk
 rw[if_pos rfl];have hd:dt d=true:=by simp[mU]at h1;exact h1.1
 have hp:=Cj hd;have h2:(∀w∈d.bC,rM d.aZ.length w=true)/\(∀b∈d.aZ,b.length=128)/\0<d.aZ.length/\d.aZ.length<=4096/\ -1<=d.left/\d.left<=65536:=by
  simp[dt,List.all_eq_true]at hd;refine⟨?_,?_,?_⟩
  ·exact hd.1.2
  ·exact hd.2
  ·omega
 obtain⟨g1,g2,g3,g4,g5,g6⟩:=h2;clear hd;by_cases hl:0<=d.left/\d.left<d.bC.length
 ·rw[if_pos hl];have hc:eb (List.map bX.d d.bC).length (none:Option Int) (some d.left)=some (0,d.left.toNat):=by simp[eb];omega
  obtain⟨l1,l2⟩:=hl;obtain⟨w,hw⟩:∃w,d.bC[d.left.toNat]? =some w:=⟨_,gE oM⟩
  have yL:=g1 w (mG hw);simp only[rM,bA,decide_eq_true_eq]at yL;obtain⟨⟨w1,w2⟩,w3⟩:=yL;have q1:(d.bC.take d.left.toNat).length<=4096:=by simp;omega
  have q2:∀x∈d.bC.take d.left.toNat,rM d.aZ.length x=true:=fun x hx=>g1 x (List.mem_of_mem_take hx);have q3:=tU (l:=d.bC.take d.left.toNat) g2 q2;have q4:=kZ (d.bC.take d.left.toNat) d.aZ;obtain⟨o,ho⟩:∃o,(ey d.aZ (d.bC.take d.left.toNat))[w.at_.toNat]? =some o:=⟨_,gE oM⟩
  have R1:=q3 o (mG ho);have hT:qb d=(ey d.aZ (d.bC.take d.left.toNat)).set w.at_.toNat (w.data.take 64++o.drop 64):=by simp[qb,List.getD_eq_getElem?_getD,hw,ho]
  rw[hT];clear g1 g2;repeat' first|exact zQ|with_reducible apply zJ<;>intro _|refine zK ?_
  refine aC (zi d.aZ (d.bC.take d.left.toNat) _ (.inr (by rw[List.map_take])) g3 g4 q1 q2 _) rfl fun d' bx1 hq=>?_;obtain⟨e,rfl,hb,hk⟩:=hq;have ji:=hk 1 oM;have bV:=hk 2 oM;simp only[ak,Bx.none,reduceIte,Nat.reduceEqDiff]at ji bV;generalize ey d.aZ (d.bC.take d.left.toNat)=S at *;clear q2 q3 hT hk;have fg:a_ o≠[]:=fun h=>by have:=congrArg List.length h;simp[a_,R1]at this
  have hol2:(a_ o).length=128:=by simp[a_,R1]
  repeat' first|exact zQ|with_reducible apply zJ<;>intro _|refine zK ?_
  refine aC (Gm 110 (a_ o) oM _) rfl fun d' bK hq=>?_;obtain⟨e2,rfl,oy⟩:=hq.own fg;have kp:=hq.jb;have k1:=kp 1 oM;have k2:=kp 2 oM;have k6:=kp 6 oM;have k9:=kp 109 oM;simp only[ak,reduceIte,Nat.reduceEqDiff,ji,hb]at k1 k2 k6 k9;have r1:64<=(a_ o).length:=oM;have r2:(w.data.take 64++o.drop 64).length=128:=by simp;omega
  have r3:a_ (w.data.take 64)++a_ (o.drop 64)=a_ (w.data.take 64++o.drop 64):=(iu _ _).symm;have r4:(S.map aU).set w.at_.toNat (aU (w.data.take 64++o.drop 64))=(S.set w.at_.toNat (w.data.take 64++o.drop 64)).map aU:=by rw[List.map_set]
  have r5:pX ⟨e,1,1,71,(S.set w.at_.toNat (w.data.take 64++o.drop 64)).map aU⟩ e 1 0 d.aZ.length=some (.sl 1 ((S.set w.at_.toNat (w.data.take 64++o.drop 64)).map aU)):=eK _ _ _ _ _ _ (by decide) (by simp[q4]) (by rw[cZ];simp[D.pure]);have r6:min 128 64=64:=rfl;clear hq kp;repeat' first|exact zQ|with_reducible apply zJ<;>intro _|refine zK ?_
  exact wk
 ·rw[if_neg hl];by_cases l1:0<=d.left
  ·have l2:¬d.left<d.bC.length:=oM;rw[if_pos l1];have l3:IntKind.i64.wrap (d.left - d.bC.length)=d.left - d.bC.length:=ik _ oM oM;clear hl g5;repeat' first|exact zQ|with_reducible apply zJ<;>intro _|refine zK ?_
   refine iS (.bm 0 (.load 1 1 (.bm 2 (.load 3 1 (.bm 5 (.load 6 1 (.both 4 [1] (.bm 7 (.both 8 [] .fin .stop)) .stop))))))) aj ?_;repeat' first|exact zQ|with_reducible apply zJ<;>intro _|refine zK ?_
   refine aC (zi d.aZ d.bC _ (.inl rfl) g3 g4 hp g1 _) rfl fun d' bx1 hq=>?_;obtain⟨e,rfl,hb,hk⟩:=hq;have ji:=hk 1 oM;have bV:=hk 2 oM;simp only[ak,Bx.none,reduceIte,Nat.reduceEqDiff]at ji bV;have r5:pX ⟨e,1,1,71,(ey d.aZ d.bC).map aU⟩ e 1 0 d.aZ.length=some (.sl 1 ((ey d.aZ d.bC).map aU)):=eK _ _ _ _ _ _ (by decide) (by simp[kZ]) (by rw[cZ];simp[D.pure]);clear hk g1 g2;repeat' first|exact zQ|with_reducible apply zJ<;>intro _|refine zK ?_
   exact wk
  ·rw[if_neg l1];clear hl g5;repeat' first|exact zQ|with_reducible apply zJ<;>intro _|refine zK ?_
   refine iS (.bm 0 (.load 1 1 (.bm 2 (.load 3 1 (.bm 5 (.load 6 1 (.both 4 [1] (.bm 7 (.both 8 [] .fin .stop)) .stop))))))) aj ?_;repeat' first|exact zQ|with_reducible apply zJ<;>intro _|refine zK ?_
   refine aC (zi d.aZ d.bC _ (.inl rfl) g3 g4 hp g1 _) rfl fun d' bx1 hq=>?_;obtain⟨e,rfl,hb,hk⟩:=hq;have ji:=hk 1 oM;have bV:=hk 2 oM;simp only[ak,Bx.none,reduceIte,Nat.reduceEqDiff]at ji bV;have r5:pX ⟨e,1,1,71,(ey d.aZ d.bC).map aU⟩ e 1 0 d.aZ.length=some (.sl 1 ((ey d.aZ d.bC).map aU)):=eK _ _ _ _ _ _ (by decide) (by simp[kZ]) (by rw[cZ];simp[D.pure]);clear hk g1 g2;repeat' first|exact zQ|with_reducible apply zJ<;>intro _|refine zK ?_
   exact wk
def cF(l:List ah):List ah:=(jB l).map (·.1)
abbrev j0:gm:=⟨[],0,0⟩
def dC(d:cI):gm×Int:=if dt d=true then(if d.stop=true then(j0,40)else if d.bC.length=0 then(⟨cF d.aZ,d.aZ.length,(cF d.aZ).length⟩,0)else(j0,1))else(j0,40)
def Rf(l:List ah):bN (.sl 1 (l.map n8)) (.sl 1 (l.map aU)):=by
 have h1:∀(i:Nat) x x',(l.map n8)[i]? =some x->(l.map aU)[i]? =some x'->∃s:ah,x=n8 s/\x'=aU s:=fun i x x' hx dJ=>by
  rw[gM,mS]at hx dJ;obtain⟨s,hs,rfl⟩:=hx;obtain⟨s',dW,rfl⟩:=dJ;rw[hs]at dW;injection dW with dW;subst dW;exact⟨s,rfl,rfl⟩
 refine .sl sI (fun i x x' hx dJ=>?_) fun i x x' j c c' hx dJ hc fO=>?_
 ·obtain⟨s,rfl,rfl⟩:=h1 i x x' hx dJ;unfold n8;split<;>rfl
 ·obtain⟨s,rfl,rfl⟩:=h1 i x x' hx dJ;by_cases hs:s=[]
  ·subst hs;cases j<;>simp[n8,D.cells]at hc fO;subst hc;subst fO;exact .nil _
  ·rw[n8,if_neg hs]at hc;cases j<;>simp[D.cells]at hc fO;subst hc;subst fO;exact .refl _
def xa(l:List ah):(jB l).length<=l.length:=by
 unfold jB;suffices ∀f a last,a<=l.length->(lM l f a last).length<=l.length - a by simpa using this l.length 0 0 oM
 intro f;induction f with
 |zero=>intro a last h;simp[lM]
 |succ f ih=>
  intro a last h;rw[kO];split
  ·simp
  ·rename_i b n hr;have:=nv hr;simp only at this;have:=ih n (gen (l.getD a [])) oM;simp only[List.length_cons];omega
def O5(l:List ah):D.aF (l.map n8)=true:=by rw[cZ];simp only[List.all_eq_true];intro x _;unfold n8;split<;>rfl
instance WQ(d:cI):Ct 36 [d.d] (okD d) (.aL [(dC d).1.d,I (dC d).2]):=by
 refine RA f36 (n:=41) [] [.cell 2 36,.tmp 3] fun pre=>?_;generalize hR:dC d=R;unfold dC at hR;have hlen:=xa d.aZ;by_cases h1:dt d=true
 rotate_left
 ·rw[if_neg h1]at hR;subst hR;repeat' first|exact zQ|with_reducible apply zJ<;>intro _|refine zK ?_
  exact wk
 rw[if_pos h1]at hR;have bD:Fb d.aZ:=by
  simp[dt]at h1;exact⟨by omega,h1.2⟩
 have pk:=bD.1;replace hR:Hid _:=hR;repeat' first|exact zQ|with_reducible apply zJ<;>intro _|refine zK ?_
 all_goals first|(rw[<-hR.out,if_pos (by assumption)];exact wk)|(rw[<-hR.out,if_neg (by simp[*]),if_neg oM];exact wk)|skip
 obtain rfl:=(hR.out.symm.trans (if_neg (by simp[*]))).trans (if_pos oM);refine O6 138 [.cA (.sl 1 (d.aZ.map aU)) 0] _ 78 (fun n bx'=>∃x,bx' 2=⟨1,1,3,36,[.agg [x,I d.aZ.length,I 0]]⟩/\aX bx' [34] 71 1 x (((jB d.aZ).take n).map fun p=>n8 p.1)) rfl sG (LW d.aZ bD) ?_ ?_ ?_
 ·exact⟨.aq,by simp[go_sem,bU],.nil _ _ _ _⟩
 ·intro n it bx1 hi ⟨x,h2,hv⟩;rw[gM,mS]at hi;obtain⟨p,hp,rfl⟩:=hi;rw[km oM]at h2;replace hv:=hv.Ak (fun t ht=>by simp at ht;omega);have hf:=hv.facts;have hn:=(gS.1 hp).1;have hbs:(n8 p.1).cells=[n8 p.1]/\(n8 p.1).one=true/\(n8 p.1).pure=true:=by unfold n8;split<;>exact⟨rfl,rfl,rfl⟩
  unfold LV;refine⟨rfl,?_⟩;repeat' first|exact zQ|with_reducible apply zJ<;>intro _|refine zK ?_
  refine app [34] hv (fun x' β aT=>?_) (by simp;omega);have kD:=aT.facts;repeat' first|exact zQ|with_reducible apply zJ<;>intro _|refine zK ?_
  refine⟨fun s h1 h2=>by rw[if_neg oM,if_pos oM,if_neg oM],x',rfl,?_⟩;rw[List.take_add_one,hp,Option.toList_some,List.map_append];exact aT.of fun t ht=>by simp at ht;subst ht;simp[bU,ak,bn,di]
 ·intro bx1 ⟨x,h2,hv⟩;rw[km oM]at h2;replace hv:=hv.Ak (fun t ht=>by simp at ht;omega);rw[List.length_map,tL]at hv;have hf:=hv.facts;have RU:=hv.len 71 24 false;rw[List.length_map]at RU;have EL:((cF d.aZ).length:Int)=(jB d.aZ).length:=by simp[cF]
  have rp:(jB d.aZ).map (fun p=>n8 p.1)=(cF d.aZ).map n8:=by simp[cF,Function.comp_def]
  have V1:∀r,bN r (.sl 1 ((cF d.aZ).map aU))->bN (.aL [.agg [r,I d.aZ.length,I (jB d.aZ).length],I 0]) (.aL [gm.d ⟨cF d.aZ,d.aZ.length,(jB d.aZ).length⟩,I 0]):=fun r hr=>
   rN (.cons (fF (.cons hr (.cons (.refl _) (.cons (.refl _) .nil)))) (.cons (.refl _) .nil))
  rcases hv with⟨rfl,he⟩|⟨t,e,ht,rfl,hb⟩
  ·have:cF d.aZ=[]:=by rw[rp]at he;simpa using he
   replace this:Hid _:=this;repeat' first|exact zQ|with_reducible apply zJ<;>intro _|refine zK ?_
   refine V1 _ ?_;rw[this.out];exact .nil _
  ·simp at ht;subst ht;rw[List.length_map]at *;have ho:pX ⟨e,1,1,71,(cF d.aZ).map n8⟩ e 1 0 (jB d.aZ).length=some (.sl 1 ((cF d.aZ).map n8)):=by exact eK _ _ _ _ _ _ (by decide) (by simp[cF]) (O5 _)
   repeat' first|exact zQ|with_reducible apply zJ<;>intro _|refine zK ?_
   exact V1 _ (Rf _)
def fU(j:gm)(b:ah):gm×Int:=if kh j=true then(if(j.many - (aW j.bh:Int))<bM b then(j0,2)else(⟨j.bh++[b],j.many,j.sync⟩,0))else(j0,1)
instance(j:gm)(b:ah):Ct 41 [j.d,aU b] (oK j.bh/\b.length<=1099511627776/\j.bh.length<=1048576) (.aL [(fU j b).1.d,I (fU j b).2]):=by
 refine RA f41 (n:=32) [(3000029,[]),(4,[(7,5),(7,3),(5,2)])] [.cell 4 36,.tmp 5] fun pre=>?_;obtain⟨p1,p2,p3⟩:=pre;generalize hR:fU j b=R;unfold fU at hR;have hb:Lm b:=by simp[Lm];omega
 have h2:bM b<=1099511627776/\b.length<=112 * bM b:=by unfold bM;omega
 by_cases h1:kh j=true
 rotate_left
 ·rw[if_neg h1]at hR;subst hR;repeat' first|exact zQ|with_reducible apply zJ<;>intro _|refine zK ?_
  exact wk
 rw[if_pos h1]at hR;have hm:j.many<=4096/\1<=j.many:=by simp[kh]at h1;omega
 have hw:IntKind.i64.wrap (j.many - (aW j.bh:Int))=j.many - (aW j.bh:Int):=ik _ oM oM;by_cases c:j.many - (aW j.bh:Int)<(bM b:Int)
 ·rw[if_pos c]at hR;subst hR;repeat' first|exact zQ|with_reducible apply zJ<;>intro _|refine zK ?_
  exact wk
 rw[if_neg c]at hR;have Bf:(a_ b).length<=1048576/\D.aF (a_ b)=true:=⟨by
  have:b.length<=1048576:=oM;simpa[a_]using this,rK b⟩
 have hc:((j.bh.map aU).length+[aU b].length) * 24<=140737488355328:=by simp;omega
 have ho:pX ⟨1,1,1,71,j.bh.map aU++[aU b]⟩ 1 1 0 (j.bh.length+1)=some (.sl 1 ((j.bh++[b]).map aU)):=by
  rw[show j.bh.map aU++[aU b]=(j.bh++[b]).map aU by simp];exact eK _ _ _ _ _ _ (by decide) sI (by rw[cZ];simp[D.pure])
 subst hR;repeat' first|exact zQ|with_reducible apply zJ<;>intro _|refine zK ?_
 exact⟨wk,wk⟩
end Go.V.Jn
namespace Go.V.Jn
open Go.Proofs Go.RowKit Go.V.Lx Go.V.Gr Go.V.Ty Go.V.St
section
variable (S:List ah) (W:List bX) (L:Int) (st:Bool)
instance (priority:=low):Ct 73 [.agg [.sl 1 (S.map aU),.sl 2 (W.map bX.d),I L,.bool st]] (okD ⟨S,W,L,st⟩) (I (if dt ⟨S,W,L,st⟩then 0 else 40)):=adT ⟨S,W,L,st⟩
instance (priority:=low)(a:Int)(b:ah):Ct 99 [.agg [.sl 1 (S.map aU),.sl 2 (W.map bX.d),I L,.bool st],I a,aU b] (okD ⟨S,W,L,st⟩) (.aL [(uf ⟨S,W,L,st⟩ a b).1.d,I (uf ⟨S,W,L,st⟩ a b).2]):=adV ⟨S,W,L,st⟩ a b
instance (priority:=low):Ct 101 [.agg [.sl 1 (S.map aU),.sl 2 (W.map bX.d),I L,.bool st]] (okD ⟨S,W,L,st⟩) (.aL [(kU ⟨S,W,L,st⟩).1.d,I (kU ⟨S,W,L,st⟩).2]):=adU ⟨S,W,L,st⟩
instance (priority:=low):Ct 36 [.agg [.sl 1 (S.map aU),.sl 2 (W.map bX.d),I L,.bool st]] (okD ⟨S,W,L,st⟩) (.aL [(dC ⟨S,W,L,st⟩).1.d,I (dC ⟨S,W,L,st⟩).2]):=WQ ⟨S,W,L,st⟩
end
def cP(l:List ah):Nat:=l.foldl (fun g s=>max g (max (num (s.take 4)) (num (s.drop 124)))) 0+1
def lz(k n:Nat):UInt8:=if k=0 then(if n=1 then 3 else 1)else if k+1=n then 2 else 0
def fQ(g a n:Nat)(b:ah)(k:Nat):bX:=⟨(a+k:Nat),ei g (a+k) (lz k n) ((b.drop (112 * k)).take 112)⟩
def lY(g a:Nat)(b:ah):List bX:=(List.range (bM b)).map (fQ g a (bM b) b)
def cO(g:Nat):Nat->List ah->List bX
 |_,[]=>[]
 |a,b::l=>lY g a b++cO g (a+bM b) l
def o6(g a:Nat)(b:ah):(lY g a b).length=bM b:=by simp[lY]
theorem F1(g:Nat):∀(l m:List ah) (a:Nat),cO g a (l++m)=cO g a l++cO g (a+aW l) m
 |[],m,a=>by simp[cO,aW]
 |b::l,m,a=>by simp only[List.cons_append,cO,F1 g l m,aW,mC,List.sum_cons,List.append_assoc,Nat.add_assoc]
theorem s8(g:Nat):∀(l:List ah) (a:Nat),(cO g a l).length=aW l
 |[],a=>rfl
 |b::l,a=>by simp[cO,o6,s8 g l,aW]
def gV(j:gm)(d:cI):gm×cI×Int:=
 if kh j=true then if dt d=true then if ¬j.many=d.aZ.length/\d.stop=false then(j0,d0,1)else
  if(dC d).2=0 then if cF d.aZ=j.bh.take j.sync.toNat/\cP d.aZ<4294967296 then
   if j.sync=j.bh.length then(j,d,0)else
    if(kU {d with bC:=cO (cP d.aZ) (aW (j.bh.take j.sync.toNat)) (j.bh.drop j.sync.toNat)}).2=0 then
     ({j with sync:=j.bh.length},(kU {d with bC:=cO (cP d.aZ) (aW (j.bh.take j.sync.toNat)) (j.bh.drop j.sync.toNat)}).1,0)
    else(j0,(kU {d with bC:=cO (cP d.aZ) (aW (j.bh.take j.sync.toNat)) (j.bh.drop j.sync.toNat)}).1,(kU {d with bC:=cO (cP d.aZ) (aW (j.bh.take j.sync.toNat)) (j.bh.drop j.sync.toNat)}).2)
  else(j0,d0,50)else(j0,d0,(dC d).2)else(j0,d0,40)else(j0,d0,1)
def PQ{l:List ah}{j:Nat}{x:ah}(h:l[j]? =some x):cP (l.take (j+1))=max (cP (l.take j)) (max (num (x.take 4)+1) (num (x.drop 124)+1)):=by rw[List.take_add_one,h];simp[cP,List.foldl_append];try omega
def Vh(l:List ah)(h:∀s∈l,s.length=128):cP l<=4294967296:=by
 suffices ∀(l:List ah) (g:Nat),(∀s∈l,s.length=128)->g<4294967296->l.foldl (fun g s=>max g (max (num (s.take 4)) (num (s.drop 124)))) g<4294967296 by
  have:=this l 0 h oM;unfold cP;omega
 intro l;induction l with
 |nil=>intro g _ h;exact h
 |cons s l ih=>
  intro g hs hg;have h1:=mh (s.take 4);have h2:=mh (s.drop 124);have h3:=hs s (List.mem_cons_self ..);rw[List.length_take,h3]at h1;rw[List.length_drop,h3]at h2;refine ih _ (fun x hx=>hs x (List.mem_cons_of_mem _ hx)) ?_;simp at h1 h2;dsimp only;omega
def xu(l:List ah)(n:Nat):aW l=aW (l.take n)+aW (l.drop n):=by rw[aW,aW,aW,<-List.sum_append,<-List.map_append,List.take_append_drop]
def Fh{g a n k:Nat}{b:ah}:(fQ g a n b k).data.length=128:=xj (by simp;omega)
def Ie{g a:Nat}{b:ah}{w:bX}(h:w∈lY g a b):(a:Int)<=w.at_/\w.at_<(a+bM b:Nat)/\w.data.length=128:=by
 simp only[lY,List.mem_map,List.mem_range]at h;obtain⟨k,hk,rfl⟩:=h;exact⟨by simp only[fQ];omega,by simp only[fQ];omega,Fh⟩
theorem vW{g:Nat}{w:bX}:∀ {l:List ah} {a:Nat},w∈cO g a l->(a:Int)<=w.at_/\w.at_<(a+aW l:Nat)/\w.data.length=128
 |[],a,h=>by simp[cO]at h
 |b::l,a,h=>by
  simp only[cO,List.mem_append]at h;have hu:aW (b::l)=bM b+aW l:=by simp[aW]
  rcases h with h|h
  ·have:=Ie h;omega
  ·have:=vW h;omega
structure DG(S:List ah)(L:Int):Prop where
 a:1<=S.length
 b:S.length<=4096
 c:∀x∈S,x.length=128
 d: -1<=L
 e:L<=65536
theorem DG.cu{S:List ah}{L:Int}(h:DG S L){W:List bX}(hw:∀w∈W,0<=w.at_/\w.at_<S.length/\w.data.length=128)(hl:W.length<=4096){st:Bool}:dt ⟨S,W,L,st⟩=true:=by
 obtain⟨a,b,c,d,e⟩:=h;simp only[dt,bA,decide_eq_true_eq,List.all_eq_true];exact⟨⟨⟨⟨⟨⟨a,b⟩,hl⟩,d⟩,e⟩,fun w h=>by simp only[rM,bA,decide_eq_true_eq];exact⟨⟨(hw w h).1,(hw w h).2.1⟩,(hw w h).2.2⟩⟩,c⟩
def Rk{S:List ah}{L:Int}(h:DG S L){W:List bX}(hw:∀w∈W,0<=w.at_/\w.at_<S.length/\w.data.length=128)(hl:W.length<4096){a:Int}{b:ah}(ha:0<=a)(VD:a<S.length)(hb:b.length=128):
 uf ⟨S,W,L,false⟩ a b=(⟨S,W++[⟨a,b⟩],L,false⟩,0):=by
 have h1:mU ⟨S,W,L,false⟩=true:=by simp[mU,h.cu hw oM]
 have h2:hasB ⟨S,W,L,false⟩ a=true:=by simp[hasB,ha,VD]
 have h3:rV b=b:=by simp[rV,hb]
 unfold uf;rw[if_pos ⟨h1,h2⟩,if_pos oM,if_neg (show ¬W.length=4096 by omega),h3]
def Ot{g a k:Nat}{b:ah}(h:k<bM b):(lY g a b).take (k+1)=(lY g a b).take k++[fQ g a (bM b) b k]:=by rw[List.take_add_one,lY,gM,List.getElem?_range h];rfl
end Go.V.Jn
namespace Go.V.Jn
open Go.Proofs Go.Proofs.Tryz Go.RowKit Go.V.Lx Go.V.Gr Go.V.Ty Go.V.St
theorem DK:∀(a b:List ah),a.length=b.length->decide (a=b)=(a.zip b).all fun p=>p.1==p.2
 |[],[],_=>rfl
 |x::a,y::b,h=>by
  rw[List.zip_cons_cons,List.all_cons,<-DK a b (by simpa using h),Bool.eq_iff_iff];simp
instance(a b:List ah):Ct 51 [.sl 1 (a.map aU),.sl 1 (b.map aU),.fn (.func 52) []] (Lm a/\Lm b) (.bool (decide (a=b))):=by
 refine bf f51 [] [.tmp 6] fun pre=>?_;obtain⟨h1,h2⟩:=pre;by_cases hl:a.length=b.length
 rotate_left
 ·have hc:¬(a.length:Int)=b.length:=oM;have he:decide (a=b)=false:=decide_eq_false fun h=>hl (by rw[h]);rw[he];repeat' first|exact zQ|with_reducible apply zJ<;>intro _|refine zK ?_
 rw[DK a b hl];have hz:(a.zip b).length=a.length:=by simp;omega
 generalize hA:List.all _ _=A;have hc:(b.length:Int)=a.length:=oM;clear hl;repeat' first|exact zQ|with_reducible apply zJ<;>intro _|refine zK ?_
 refine gR (a.zip b) hA 17 [(6,9),(17,31)] [] (by simp[Lm];omega) sG (fun j x τ β hx hj hw hi aP=>?_) fun τ β hn hi ha=>?_
 ·rw[List.getElem?_zip_eq_some]at hx;obtain⟨yM,eJ⟩:=hx;rw[hz]at hj;clear hA hz;repeat' first|exact zQ|with_reducible apply zJ<;>intro _|refine zK ?_
  all_goals first|with_reducible exact .refl _|(refine ab ?_;have aP:=aP.out zz;simp[*];done)|((try refine ab ?_);exact zz)
 ·rw[hz]at hn hi;repeat' first|exact zQ|with_reducible apply zJ<;>intro _|refine zK ?_
  all_goals first|with_reducible exact .refl _|(refine ab ?_;have aP:=aP.out zz;simp[*];done)|((try refine ab ?_);exact zz)
instance (priority:=low)(rs:List ah)(M y:Int):Ct 48 [.agg [.sl 1 (rs.map aU),I M,I y]] (oK rs) (I (if kh ⟨rs,M,y⟩then 0 else 1)):=aeM ⟨rs,M,y⟩
instance (priority:=low)(a l:List ah)(n:Nat):Ct 51 [.sl 1 (a.map aU),.sl 1 (List.take n (l.map aU)),.fn (.func 52) []] (Lm a/\Lm (l.take n)) (.bool (decide (a=l.take n))):=by rw[<-List.map_take];infer_instance
instance (priority:=low)(l:List ah)(n:Nat):Ct 80 [.sl 1 (List.take n (l.map aU))] (oK (l.take n)) (I (aW (l.take n))):=by rw[<-List.map_take];infer_instance
abbrev Xi(r:gm×cI×Int):D:=.aL [r.1.d,r.2.1.d,I r.2.2]
def J5(rs:List ah)(M y:Int)(S:List ah)(W:List bX)(L:Int)(st:Bool)(hu:oK rs)(hd:okD ⟨S,W,L,st⟩):ao prog 58 [gm.d ⟨rs,M,y⟩,cI.d ⟨S,W,L,st⟩] (Xi (gV ⟨rs,M,y⟩ ⟨S,W,L,st⟩)):=by
 suffices Ct 58 [gm.d ⟨rs,M,y⟩,cI.d ⟨S,W,L,st⟩] True (Xi (gV ⟨rs,M,y⟩ ⟨S,W,L,st⟩))from this.h trivial
 refine bf f58 [(21,[(3,2)]),(33,[(14,6)]),(41,[(4,2)]),(43,[(3,2)])] [.cell 4 36,.cell 5 39,.tmp 6] fun pre=>?_;generalize hR:gV ⟨rs,M,y⟩ ⟨S,W,L,st⟩=R;unfold gV at hR;by_cases h1:kh ⟨rs,M,y⟩=true
 rotate_left
 ·rw[if_neg h1]at hR;subst hR;repeat' first|exact zQ|with_reducible apply zJ<;>intro _|refine zK ?_
  exact wk
 rw[if_pos h1]at hR;by_cases h2:dt ⟨S,W,L,st⟩=true
 rotate_left
 ·rw[if_neg h2]at hR;subst hR;repeat' first|exact zQ|with_reducible apply zJ<;>intro _|refine zK ?_
  exact wk
 rw[if_pos h2]at hR;simp only at hR;have po:Hid _:=(rfl:dC ⟨S,W,L,st⟩=dC ⟨S,W,L,st⟩)
 obtain⟨s1,s2,s3,s4⟩:1<=S.length/\S.length<=4096/\(∀b∈S,b.length=128)/\W.length<=4096:=by
  simp[dt]at h2;exact⟨by omega,by omega,h2.2,by omega⟩
 obtain⟨m1,m2,m3,m4,m5⟩:1<=M/\M<=4096/\0<=y/\y<=rs.length/\(aW rs:Int)<=M:=by simp[kh]at h1;exact⟨by omega,by omega,by omega,by omega,by omega⟩
 by_cases h3:¬M=S.length/\st=false
 ·rw[if_pos h3]at hR;subst hR;obtain⟨h3,rfl⟩:=h3;repeat' first|exact zQ|with_reducible apply zJ<;>intro _|refine zK ?_
  exact wk
 rw[if_neg h3]at hR;cases hs:st
 rotate_left
 ·subst hs;have ho:dC ⟨S,W,L,true⟩=(j0,40):=by simp[dC,h2]
  rw[ho]at hR;simp only[if_neg (show ¬(40:Int)=0 by decide)]at hR;subst hR;clear po h3 s3;repeat' first|exact zQ|with_reducible apply zJ<;>intro _|refine zK ?_
  all_goals exact wk
 subst hs;have hM:M=S.length:=by simpa using h3
 subst hM;clear h3 po;by_cases h4:W.length=0
 rotate_left
 ·have ho:dC ⟨S,W,L,false⟩=(j0,1):=by simp[dC,h2];intro h;exact absurd (by simp[h]) h4
  rw[ho]at hR;simp only[if_neg (show ¬(1:Int)=0 by decide)]at hR;subst hR;clear s3;repeat' first|exact zQ|with_reducible apply zJ<;>intro _|refine zK ?_
  all_goals exact wk
 have hW:Hid (W=[]):=List.length_eq_zero_iff.1 h4;have hw0:¬(0:Int)<W.length:=oM;have ho:dC ⟨S,W,L,false⟩=(⟨cF S,S.length,(cF S).length⟩,0):=by have:=hW.out;subst this;simp[dC,h2]
 rw[ho]at hR;simp only[if_true]at hR;have Vt:Hid (DG S L):=⟨s1,s2,s3,by simp[dt]at h2;omega,by simp[dt]at h2;omega⟩
 clear h4 s4;replace hR:Hid _:=hR;repeat' first|exact zQ|with_reducible apply zJ<;>intro _|refine zK ?_
 generalize hG:cP S=G at *;have hG1:=Vh S s3;refine cm S [(10,10),(12,12),(59,73)] [] (fun i τ _=>τ 59=I i/\τ 10= .int .u64 (cP (S.take i))) (by simp[Lm];omega) ⟨by simp[go_sem],by simp[go_sem,cP]⟩ (fun i x τ β hx hj hw hi=>?_) fun τ β hn hi=>?_
 ·obtain⟨Vr,lE⟩:=hi;have hg:=PQ hx;have lG:=s3 x (mG hx);have JH:(x.drop 124).take 4=x.drop 124:=List.take_of_length_le (by simp;omega);have l1:(x.take 4).length<=8:=by simp;omega
  have l2:(x.drop 124).length<=8:=by simp;omega
  have n1:num (x.take 4)<4294967296:=by have:=mh (x.take 4);simp[lG]at this;omega
  have n2:num (x.drop 124)<4294967296:=by have:=mh (x.drop 124);simp[lG]at this;omega
  have w1:IntKind.u64.wrap ((num (x.take 4):Int)+1)=((num (x.take 4)+1:Nat):Int):=by rw[show(num (x.take 4):Int)+1=((num (x.take 4)+1:Nat):Int) by simp,dq rfl (by simp[IntKind.bits];omega)]
  have w2:IntKind.u64.wrap ((num (x.drop 124):Int)+1)=((num (x.drop 124)+1:Nat):Int):=by rw[show(num (x.drop 124):Int)+1=((num (x.drop 124)+1:Nat):Int) by simp,dq rfl (by simp[IntKind.bits];omega)]
  clear s3 hR ho h1 h2;repeat' first|exact zQ|with_reducible apply zJ<;>intro _|refine zK ?_
  exact congrArg (D.int .u64) oM
 ·obtain⟨Vr,lE⟩:=hi;rw[tL,hG]at lE;rw[hG]at hG1;refine fresh (fun σ' B=>σ' 2= .loc 2 1 0 0/\σ' 3= .loc 3 1 0 0/\σ' 4= .loc 4 1 0 0/\σ' 5= .loc 5 1 0 0/\σ' 9= .loc 9 1 0 0/\σ' 10= .int .u64 G/\σ' 58=I S.length/\σ' 59=I S.length/\
   B 2=⟨1,1,3,36,[gm.d ⟨rs,S.length,y⟩]⟩/\B 3=⟨1,1,4,39,[cI.d ⟨S,W,L,false⟩]⟩/\B 4=⟨1,1,3,36,[.agg [.aq,I 0,I 0]]⟩/\B 5=⟨1,1,4,39,[.agg [.aq,.aq,I 0,.bool false]]⟩/\B 9=⟨1,1,3,36,[gm.d ⟨cF S,S.length,(cF S).length⟩]⟩)
   ⟨by simp[go_sem],by simp[go_sem],by simp[go_sem],by simp[go_sem],by simp[go_sem],by simp[go_sem,lE],by simp[go_sem],by simp[go_sem,Vr],by simp[go_sem],by simp[go_sem],by simp[go_sem],by simp[go_sem],by simp[go_sem]⟩ ?_
  clear Vr lE hn;rintro σ B ⟨k2,k3,k4,k5,k9,J6,k58,k59,b2,b3,b4,b5,b9⟩;have JT:=l_ rs;have lF:=l_ (cF S);have tF:=xa S;have p1:Lm (cF S)/\Lm (rs.take y.toNat):=by constructor<;>(simp[Lm,cF];omega)
  have hnn:¬(S.length:Int)<S.length:=oM;have oE:Hid (decide (cF S=rs.take y.toNat)=decide (cF S=rs.take y.toNat)):=rfl;clear s3 h1 h2;have shr:∀g:Nat,g<=4294967296->(g:Int).fdiv (2 ^ min 32 64)=if g<4294967296 then 0 else 1:=fun g hg=>by rw[show(2:Int) ^ min 32 64=((4294967296:Nat):Int) by rfl,Int.fdiv_eq_ediv_of_nonneg _ oM];split<;>omega
  have R6:=shr G hG1;clear shr;by_cases hc:cF S=rs.take y.toNat/\G<4294967296
  rotate_left
  ·obtain rfl:=hR.out.symm.trans (if_neg hc);clear hR oE JT lF tF;by_cases yv:cF S=rs.take y.toNat
   ·have tu:decide (cF S=rs.take y.toNat)=true:=decide_eq_true yv;rw[if_neg (fun h=>hc ⟨yv,h⟩)]at R6;clear hc yv;repeat' first|exact zQ|with_reducible apply zJ<;>intro _|((with_reducible refine j8 ?_ (fun _=>?_) fun _=>?_);exact pr)|refine zK ?_|fail
    exact wk
   ·have tu:decide (cF S=rs.take y.toNat)=false:=decide_eq_false yv;clear hc yv R6;repeat' first|exact zQ|with_reducible apply zJ<;>intro _|((with_reducible refine j8 ?_ (fun _=>?_) fun _=>?_);exact pr)|refine zK ?_|fail
    exact wk
  ·have hR:=hR.out;rw[if_pos hc]at hR;obtain⟨yv,lj⟩:=hc;rw[if_pos lj]at R6;rw[yv]at p1 b9;clear JT lF tF;have hR:Hid _:=hR;have tu:decide (rs.take y.toNat=rs.take y.toNat)=true:=by simp
   clear yv oE;repeat' first|exact zQ|with_reducible apply zJ<;>intro _|((with_reducible refine j8 ?_ (fun _=>?_) fun _=>?_);exact pr)|refine zK ?_|fail
   ·rename_i hy;rw[<-hR.out,if_pos hy,hy];exact wk
   rename_i hy;have hR:=hR.out;rw[if_neg hy]at hR;have hut:oK (rs.take y.toNat):=Nat.le_trans (rL _ _) hu;have yK:=xu rs y.toNat;have CM:(rs.drop y.toNat).length=rs.length - y.toNat:=List.length_drop;have hlr:=l_ rs;replace hR:Hid _:=hR;repeat' first|exact zQ|with_reducible apply zJ<;>intro _|((with_reducible refine j8 ?_ (fun _=>?_) fun _=>?_);exact pr)|refine zK ?_|fail
   generalize hv:rs.drop y.toNat=v at *;generalize hA:aW (rs.take y.toNat)=A at *;refine fresh (fun σ' B'=>σ' 2= .loc 2 1 0 0/\σ' 3= .loc 3 1 0 0/\σ' 4= .loc 4 1 0 0/\σ' 5= .loc 5 1 0 0/\σ' 10= .int .u64 G/\σ' 13=I A/\σ' 108= .sl 1 (v.map aU)/\σ' 109=I v.length/\σ' 110=I 0/\
    B' 2=⟨1,1,3,36,[gm.d ⟨rs,S.length,y⟩]⟩/\B' 3=⟨1,1,4,39,[cI.d ⟨S,W,L,false⟩]⟩/\B' 4=⟨1,1,3,36,[.agg [.aq,I 0,I 0]]⟩/\B' 5=⟨1,1,4,39,[.agg [.aq,.aq,I 0,.bool false]]⟩)
    ⟨by simp[go_sem,k2],by simp[go_sem,k3],by simp[go_sem,k4],by simp[go_sem,k5],by simp[go_sem,J6],by simp[go_sem],by simp[go_sem];rw[<-hv,List.map_drop,List.take_of_length_le sI],by simp[go_sem];omega,by simp[go_sem],b2,b3,b4,b5⟩ ?_
   clear k2 k3 k4 k5 k9 J6 k58 k59 b2 b3 b4 b5 b9 p1 tu R6;rintro σ B ⟨k2,k3,k4,k5,J6,k13,k108,k109,aeN,b2,b3,b4,b5⟩;have hG2:G<4294967296:=lj;have aeu:Lm v:=by simp[Lm];omega
   replace CM:Hid _:=CM;have RE:W.length=0:=by rw[hW.out];rfl
   refine cm v [(6,6),(13,13),(15,18),(110,150)] [(3,3)] (fun j τ β=>τ 110=I j/\τ 13=I ((A+aW (v.take j):Nat):Int)/\β 3=⟨1,1,4,39,[cI.d ⟨S,W++cO G A (v.take j),L,false⟩]⟩) aeu ⟨aeN,by rw[k13];simp[aW],by rw[b3];simp[cO]⟩ (fun j x τ β hx hj hw hi=>?_) fun τ β hn hi=>?_
   ·obtain⟨ad8,EI,h3⟩:=hi;have gL:=zF hx;have hut2:=rL v (j+1);have hxm:=BQ (mG hx);have hxL:Lm x:=by simp[Lm];omega
    have hsx:=xi x;have haw:cO G A (v.take (j+1))=cO G A (v.take j)++lY G (A+aW (v.take j)) x:=by rw[List.take_add_one,hx,Option.toList_some,F1];simp[cO]
    have gF:∀w∈W++cO G A (v.take j),(0:Int)<=w.at_/\w.at_<(A+aW (v.take j):Nat)/\w.data.length=128:=fun w hw=>by
     rw[hW.out,List.nil_append]at hw;have:=vW hw;exact⟨by omega,this.2⟩
    have hlen:(W++cO G A (v.take j)).length=aW (v.take j):=by rw[List.length_append,s8,RE,Nat.zero_add]
    generalize hWj:W++cO G A (v.take j)=Wj at *;generalize hAj:A+aW (v.take j)=Aj at *;replace gF:Hid _:=gF;repeat' first|exact zQ|with_reducible apply zJ<;>intro _|((with_reducible refine j8 ?_ (fun _=>?_) fun _=>?_);exact pr)|refine zK ?_|fail
    refine lC [(6,6),(13,13),(15,18),(116,149)] [(3,3)] (bM x) (fun k τ β=>τ 17=I ((bM x - k:Nat):Int)/\τ 15= .sl 1 (a_ (x.drop (112 * k)))/\τ 16= .int .u8 ((if k=0 then 1 else 0:UInt8).toNat:Int)/\τ 13=I ((Aj+k:Nat):Int)/\β 3=⟨1,1,4,39,[cI.d ⟨S,Wj++(lY G Aj x).take k,L,false⟩]⟩) ?_ (fun k τ' β' hk gx=>?_) fun τ' β' gx=>?_
    ·refine⟨by simp[go_sem],by simp[go_sem],by simp[go_sem],by simp[go_sem,EI],by simp[go_sem,h3]⟩
    ·obtain⟨i17,i15,i16,i13,i3⟩:=gx;have iy:du [(3,3)] B (bn [(3,3)] β B):=fun s hs=>by simp[bn,hs]
     have tG:=Ot (g:=G) (a:=Aj) (b:=x) hk;have RV:∀w∈Wj++(lY G Aj x).take k,(0:Int)<=w.at_/\w.at_<S.length/\w.data.length=128:=fun w hw=>by
      rcases List.mem_append.1 hw with hw|hw
      ·have:=gF.out w hw;omega
      ·have:=Ie (List.mem_of_mem_take hw);omega
     have pk:(Wj++(lY G Aj x).take k).length=Wj.length+k:=by simp[o6];omega
     have AE:(fQ G Aj (bM x) x k).data.length=128:=Fh;have Ww:=Rk (a:=((Aj+k:Nat):Int)) (b:=(fQ G Aj (bM x) x k).data) Vt.out RV oM oM oM AE;rw[List.append_assoc,show[bX.mk ((Aj+k:Nat):Int) (fQ G Aj (bM x) x k).data]=[fQ G Aj (bM x) x k]from rfl,<-tG]at Ww;have NL:(fQ G Aj (bM x) x k).data=ei G (Aj+k) (lz k (bM x)) ((x.drop (112 * k)).take 112):=rfl;rw[NL]at Ww;generalize hWk:Wj++(lY G Aj x).take k=Wk at *;generalize hWk2:Wj++(lY G Aj x).take (k+1)=Wk2 at *;have fY:(x.drop (112 * k)).drop 112=x.drop (112 * (k+1)):=by rw[List.drop_drop];congr 1
     have hxk:(x.drop (112 * k)).length<=x.length:=by simp
     generalize x.drop (112 * k)=xb at *;generalize x.drop (112 * (k+1))=xn at *;have c1:(0:Int)<((bM x - k:Nat):Int):=oM;have c2:min (xb.length:Int) 112=((min xb.length 112:Nat):Int):=oM;have c3:xb.take (min xb.length 112)=xb.take 112:=by
      by_cases h:xb.length<=112
      ·rw[show min xb.length 112=xb.length by omega,tL,List.take_of_length_le h]
      ·rw[show min xb.length 112=112 by omega]
     have c4:xb.drop (min xb.length 112)=xn:=by
      rw[<-fY];by_cases h:xb.length<=112
      ·rw[show min xb.length 112=xb.length by omega,List.drop_length,List.drop_of_length_le h]
      ·rw[show min xb.length 112=112 by omega]
     have c5:(xb.take 112).length<=112/\Aj+k<65536:=⟨by simp;omega,by omega⟩
     have c6:Lm S/\Lm Wk:=⟨by simp[Lm];omega,by simp[Lm];omega⟩
     have c7:IntKind.i64.wrap (((Aj+k:Nat):Int)+1)=((Aj+(k+1):Nat):Int):=by rw[ik _ oM oM];omega
     have c8:IntKind.i64.wrap (((bM x - k:Nat):Int) - 1)=((bM x - (k+1):Nat):Int):=by rw[ik _ oM oM];omega
     have c9:(min xb.length 112:Int)<=xb.length:=oM;clear RV tG AE;by_cases CE:k+1=bM x
     ·have d1:((bM x - k:Nat):Int)=1:=oM;have d2:dj .or .u8 ((if k=0 then 1 else 0:UInt8).toNat:Int) 2=((lz k (bM x)).toNat:Int):=by
       unfold lz;by_cases h0:k=0
       ·rw[if_pos h0,if_pos h0,if_pos oM];rfl
       ·rw[if_neg h0,if_neg h0,if_pos CE];rfl
      generalize lz k (bM x)=K at *;generalize(if k=0 then 1 else 0:UInt8)=K0 at *;repeat' first|exact zQ|with_reducible apply zJ<;>intro _|((with_reducible refine j8 ?_ (fun _=>?_) fun _=>?_);exact pr)|refine zK ?_|fail
      exact⟨by simp,by rw[List.take_of_length_le (by rw[<-c4];simp)],by rw[if_neg oM];rfl⟩
     ·have d1:¬((bM x - k:Nat):Int)=1:=oM;have d2:(if k=0 then 1 else 0:UInt8)=lz k (bM x):=by
       unfold lz;by_cases h0:k=0
       ·rw[if_pos h0,if_pos h0,if_neg oM]
       ·rw[if_neg h0,if_neg h0,if_neg CE]
      rw[d2]at i16;generalize lz k (bM x)=K at *;clear d2;repeat' first|exact zQ|with_reducible apply zJ<;>intro _|((with_reducible refine j8 ?_ (fun _=>?_) fun _=>?_);exact pr)|refine zK ?_|fail
      exact⟨by rw[List.take_of_length_le (by rw[<-c4];simp)],rfl⟩
    ·obtain⟨i17,i15,i16,i13,i3⟩:=gx;have iy:du [(3,3)] B (bn [(3,3)] β B):=fun s hs=>by simp[bn,hs]
     rw[Nat.sub_self]at i17;rw[List.take_of_length_le (by rw[o6];exact Nat.le_refl _)]at i3;have e1:A+aW (v.take (j+1))=Aj+bM x:=oM;have e2:W++cO G A (v.take (j+1))=Wj++lY G Aj x:=by rw[haw,<-List.append_assoc,hWj]
     have z0:¬(0:Int)<((0:Nat):Int):=by decide
     clear haw;repeat' first|exact zQ|with_reducible apply zJ<;>intro _|((with_reducible refine j8 ?_ (fun _=>?_) fun _=>?_);exact pr)|refine zK ?_|fail
     exact congrArg I oM
   ·obtain⟨ad8,EI,h3⟩:=hi;rw[tL]at EI h3;have c6:Lm S/\Lm (W++cO G A v):=⟨by simp[Lm];omega,by simp[Lm,s8];omega⟩
    have hR:=hR.out;rw[show cO G A v=W++cO G A v by rw[hW.out];rfl]at hR;generalize W++cO G A v=WW at *;replace hR:Hid _:=hR;repeat' first|exact zQ|with_reducible apply zJ<;>intro _|((with_reducible refine j8 ?_ (fun _=>?_) fun _=>?_);exact pr)|refine zK ?_|fail
    all_goals first|(rw[<-hR.out,if_pos (by assumption)];exact wk)|(rw[<-hR.out,if_neg (by assumption)];exact wk)
end Go.V.Jn
