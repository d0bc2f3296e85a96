/- Lemmas on plain data and programs: part B13. -/
import Derived.Test.YtkgloohlmogakaaGreatDoorB12
import Derived.Test.YtkgloohlmogakaaGreatDoorVE
set_option linter.all false
set_option maxHeartbeats 8000000
set_option maxRecDepth 100000
namespace Go.V.Ty
open Go.Proofs Go.Proofs.Tryz Go.RowKit Go.V.Lx Go.V.Gr
def p9(l:List ah)(x:Entry):Entry:={x with no:=num l x.cat}
def tY(l:List ah)(q:Part):Part:={q with no:=if q.text=[]then num l q.cat else 0}
def kk(l:List ah)(x:aE):aE:={x with no:=num l x.cat,parts:=x.parts.map (tY l)}
def fj(g:aS):aS:={g with no:=num g.au g.start,entries:=g.entries.map (p9 g.au),rules:=g.rules.map (kk g.au)}
def c_(g:aS):aS×Int:=
 if 32<g.au.length\/512<g.entries.length\/128<g.rules.length then(.zero,2)
 else if ¬g.au.Nodup\/gC g.au.contains g=false then(.zero,260)
 else if pH g=true then(.zero,261)else(fj g,0)
def o7(p:aS×Int):D:=.aL [p.1.d,.int .i64 p.2]
def ma:D:=.agg [.str [],.aq,.str [],.int .i64 0,.aq,.aq]
def Uv(p:aS×Int)(d:D)(bx:ae):Prop:=∃r,bz bx d=some r/\bN r (o7 p)
theorem zG{a b c d f k a' b' c' d' f' k':D}(h1:bN a a')(h2:bN b b')(h3:bN c c')(h4:bN d d')(h5:bN f f')(h6:bN k k'):bN (.agg [a,b,c,d,f,k]) (.agg [a',b',c',d',f',k']):=by
 refine .agg rfl fun i x x' hx dJ=>?_
 match i with
 |0=>simp at hx dJ;subst hx;subst dJ;exact h1
 |1=>simp at hx dJ;subst hx;subst dJ;exact h2
 |2=>simp at hx dJ;subst hx;subst dJ;exact h3
 |3=>simp at hx dJ;subst hx;subst dJ;exact h4
 |4=>simp at hx dJ;subst hx;subst dJ;exact h5
 |5=>simp at hx dJ;subst hx;subst dJ;exact h6
 |i+6=>simp at hx
def jT(n:Int)(bx:ae):Uv (.zero,n) (.aL [ma,.int .i64 n]) bx:=by
 refine⟨.aL [ma,.int .i64 n],by simp[ma,go_sem],?_⟩;exact kW (zG (.refl _) (.nil _) (.refl _) (.refl _) (.nil _) (.nil _)) (.refl _)
def Lh{l:List ah}{j:Nat}{s:ah}(hs:l[j]? =some s){c:Int}{m:PM}(hm:((l.take j).Nodup/\c=j/\m=mI (l.zipIdx.take j))\/(¬l.Nodup/\m.length<j)):
 ∃m' c',ot .str (.str s) (.int .i64 j) c (dD m)=some (.int .i64 c'::dD m')/\(((l.take (j+1)).Nodup/\c'=((j+1:Nat):Int)/\m'=mI (l.zipIdx.take (j+1)))\/(¬l.Nodup/\m'.length<j+1)):=by
 have fP:l.take (j+1)=l.take j++[s]:=by rw[List.take_add_one,hs];rfl
 rcases hm with⟨h1,rfl,rfl⟩|⟨h1,h2⟩
 ·have RT:(mI (l.zipIdx.take j)).map (·.1)=l.take j:=by
   simp only[mI,List.map_map,Function.comp_def];rw[List.map_take,List.zipIdx_map_fst]
  have hlen:(mI (l.zipIdx.take j)).length<=j:=by simp[mI];omega
  by_cases gF:s∈l.take j
  ·obtain⟨m',c',g1,g2,g3⟩:=ID (mI (l.zipIdx.take j)) s (j:Int) (.int .i64 j);refine⟨m',c',g1,.inr ⟨fun hn=>?_,?_⟩⟩
   ·have:=hn.sublist (List.take_sublist (j+1) l);rw[fP,List.nodup_append]at this;exact this.2.2 s gF s sI rfl
   ·have:=g3 (by rw[<-RT]at gF;obtain⟨e,he,h⟩:=List.mem_map.1 gF;exact⟨e,he,h⟩);omega
  ·refine⟨_,_,BO ?_,.inl ⟨?_,by omega,?_⟩⟩
   ·intro e he h;exact gF (by rw[<-RT];exact List.mem_map.2 ⟨e,he,h⟩)
   ·rw[fP,List.nodup_append];refine⟨h1,by simp,fun a ha b hb h=>?_⟩;simp at hb;subst hb;subst h;exact gF ha
   ·rw[IJ hs];simp[mI]
 ·obtain⟨m',c',g1,g2,g3⟩:=ID m s c (.int .i64 j);exact⟨m',c',g1,.inr ⟨h1,by omega⟩⟩
theorem eT.facts{B sz el:Nat}{l:List D}{bx bx':ae}{d:D}(h:eT B sz el l bx d bx'):d.cells=[d]/\D.one d=true/\∀e z b ag,tN (.slice e z b ag) d=some l.length:=by
 rcases h.1 with⟨hl,h⟩|⟨_,e,h,h2⟩
 ·rcases h with⟨h,h2⟩|⟨t,e,h1,h,h2⟩<;>rw[h,hl]<;>exact⟨rfl,rfl,fun _ _ _ _=>rfl⟩
 ·rw[h];exact⟨rfl,rfl,fun _ _ _ _=>rfl⟩
def kl{α:Type}(f:α->α)(l:List α)(k:Nat):List α:=(l.take k).map f++l.drop k
def IC{α:Type}(f:α->α)(l:List α):kl f l 0=l:=by simp[kl]
def BK{α:Type}(f:α->α)(l:List α):kl f l l.length=l.map f:=by simp[kl]
def BM{α:Type}(f:α->α)(l:List α)(k:Nat):(kl f l k).length=l.length:=by simp[kl];omega
def BL{α:Type}{f:α->α}{l:List α}{k:Nat}{x:α}(h:l[k]? =some x):(kl f l k)[k]? =some x:=by
 have hk:=(gS.1 h).1;rw[kl,List.getElem?_append_right (by simp;omega)];simp[Nat.min_eq_left (Nat.le_of_lt hk),h]
def Ra{α:Type}{f:α->α}{l:List α}{k:Nat}{x:α}(h:l[k]? =some x):(kl f l k).set k (f x)=kl f l (k+1):=by
 have hk:=(gS.1 h).1;have hx:=(gS.1 h).2;have e1:l.drop k=x::l.drop (k+1):=by rw[List.drop_eq_getElem_cons hk,hx]
 have e2:l.take (k+1)=l.take k++[x]:=by rw[List.take_add_one,h];rfl
 rw[kl,kl,e1,e2,List.set_append];simp[Nat.min_eq_left (Nat.le_of_lt hk)]
def BN{α:Type}{f:α->α}{d:α->D}{l:List α}{k:Nat}{x:α}(h:l[k]? =some x):((kl f l k).map d).set k (d (f x))=(kl f l (k+1)).map d:=by rw[<-Ra h,List.map_set]
def FW(eR:Nat)(l:List D)(bx:ae):Prop:=∃es,bx 327=⟨eR,1,5,142,es⟩/\dn bx es=some l/\∀t∈bH es,t=347
theorem rF(bx:ae):∀l:List aE,dn bx (l.map aE.d)=some (l.map aE.d)/\bH (l.map aE.d)=[]
 |[]=>⟨by simp[dn],rfl⟩
 |x::l=>by
  obtain⟨h1,h2⟩:=rF bx l;refine⟨?_,?_⟩
  ·rw[mC,dY,h1];simp[aE.d,go_sem]
  ·simp[aE.d,names,bH,h2]
theorem Ke{bx:ae}{d d':D}(hd:bz bx d=some d'):∀(l l':List D) (k:Nat),dn bx l=some l'->dn bx (l.set k d)=some (l'.set k d')
 |[],l',k,h=>by simp only[o0,sJ]at h;subst h;simp[dn]
 |x::l,l',0,h=>by
  rw[dY]at h;obtain⟨y,ys,h1,h2,rfl⟩:=pb h;rw[List.set_cons_zero,dY,hd,h2];rfl
 |x::l,l',k+1,h=>by
  rw[dY]at h;obtain⟨y,ys,h1,h2,rfl⟩:=pb h;rw[List.set_cons_succ,dY,h1,Ke hd l ys k h2];rfl
theorem uH{d:D}{t:Nat}:∀(l:List D) (k:Nat),t∈bH (l.set k d)->t∈bH l\/t∈names d
 |[],k,h=> .inl (by simpa using h)
 |x::l,0,h=>by
  simp only[List.set_cons_zero,bH,List.mem_append]at h⊢;exact h.elim .inr fun h=> .inl (.inr h)
 |x::l,k+1,h=>by
  simp only[List.set_cons_succ,bH,List.mem_append]at h⊢;rcases h with h|h
  ·exact .inl (.inl h)
  ·rcases uH l k h with h|h
   ·exact .inl (.inr h)
   ·exact .inr h
theorem FW.of{eR:Nat}{l:List aE}{bx:ae}(h:bx 327=⟨eR,1,5,142,l.map aE.d⟩):FW eR (l.map aE.d) bx:=
 ⟨_,h,(rF bx l).1,by rw[(rF bx l).2];simp⟩
theorem FW.eO{eR:Nat}{l:List D}{bx:ae}(h:FW eR l bx):∃bx0,((bx 327).k=1/\dn bx (bx 327).es=some l/\bx0=Go.V.eO bx 327 l)/\bx0 327=⟨eR,1,5,142,l⟩/\∀s,s≠327->s≠347->bx0 s=bx s:=by
 obtain⟨es,h1,h2,h3⟩:=h;have h4:dO bx es 327=bx 327:=by rw[fe,if_neg (fun hm=>by have:=h3 _ hm;omega)]
 have h5:(bx 327).es=es:=by rw[h1]
 refine⟨_,⟨by rw[h1],by rw[h5];exact h2,rfl⟩,?_,fun s hs uA=>?_⟩
 ·unfold Go.V.eO;rw[h5,eC,h4,h1]
 ·unfold Go.V.eO;rw[h5,aB hs,fe,if_neg];exact fun hm=>uA (h3 s hm)
def L7{g:aS}{p:ah->Bool}(h:gC p g=true){x:aE}(hx:x∈g.rules):x.parts≠[]/\x.parts.length<=4:=by
 simp only[gC,bA,List.all_eq_true]at h;have:=h.2.2.2.2.2 x hx;simp only[iY,bA,fx,decide_eq_true_eq]at this;have h2:=this.2.1;exact⟨fun e=>by rw[e]at h2;simp at h2,by omega⟩
def Qu(l:List ah)(hn:l.Nodup)(s:ah):r8 (some (.int .i64 0)) false (fb .str (.str s) (dD (mI l.zipIdx)) 0)=some (.int .i64 (num l s)):=by
 obtain⟨r,hr,⟨rfl,_,h⟩|⟨j,rfl,_⟩⟩:=Rz l hn s
 ·rw[hr,h];rfl
 ·rw[hr];rfl
def Ox(g:aS)(hg:mK g):mf prog (cJ prog) [(2000016,[]),(2000026,[]),(16,[(7,5)]),(20,[(12,3)]),(26,[(11,7),(16,6),(12,6),(11,6)]),(32,[(14,3)])] f172 0 [g.d] (fun _=> .none) (Uv (c_ g)) (fun _ _=>False):=by
 refine aJ _ [.cell 2 81,.tmp 3] 164 rfl rfl rfl aj ?_;simp(disch:=omega) only[go_sem,aS.d,strs];by_cases u6:32<g.au.length\/512<g.entries.length\/128<g.rules.length
 ·have hr:c_ g=(.zero,2):=by unfold c_;rw[if_pos u6]
  rw[hr];by_cases l1:(32:Int)<(g.au.length:Int)
  ·simp(disch:=omega) only[go_sem,l1,decide_true];exact jT _ _
  by_cases l2:(512:Int)<(g.entries.length:Int)
  ·simp(disch:=omega) only[go_sem,l1,l2,decide_true,decide_false];exact jT _ _
  have l3:(128:Int)<(g.rules.length:Int):=oM;simp(disch:=omega) only[go_sem,l1,l2,l3,decide_true,decide_false];exact jT _ _
 ·have l1:¬(32:Int)<(g.au.length:Int):=oM;have l2:¬(512:Int)<(g.entries.length:Int):=oM;have l3:¬(128:Int)<(g.rules.length:Int):=oM;simp(disch:=omega) only[go_sem,l1,l2,l3,decide_false];refine bo g.au.length (fun j σ bx=>σ 1= .loc 1 1 0 0/\σ 2= .loc 2 1 0 0/\σ 4= .loc 4 1 0 0/\σ 31=strs g.au/\σ 32= .int .i64 g.au.length/\σ 33= .int .i64 j/\bx 1=⟨1,1,6,81,[g.d]⟩/\bx 2=⟨1,1,6,81,[ma]⟩/\bx 4=⟨1,1,1,307,[.omap 29 1]⟩/\
   ∃c m,bx 29=⟨1,3,0,307,.int .i64 c::dD m⟩/\(((g.au.take j).Nodup/\c=j/\m=mI (g.au.zipIdx.take j))\/(¬g.au.Nodup/\m.length<j))) ?_ ?_ ?_
  ·simp(disch:=omega) only[go_sem,aS.d,strs,List.take_zero,ma];exact⟨0,[],rfl,.inl ⟨.nil,rfl,rfl⟩⟩
  ·rintro j σ bx hj ⟨q1,q2,q4,q31,Xs,Xt,b1,b2,b4,c,m,xz,hm⟩;obtain⟨s,hs⟩:=ba hj;have ar:(j:Int)<(g.au.length:Int):=oM;have oc:IntKind.i64.wrap ((j:Int)+1)=((j+1:Nat):Int):=aD oM;obtain⟨m',c',hu,tB⟩:∃m' c',ot .str (.str s) (.int .i64 j) c (dD m)=some (.int .i64 c'::dD m')/\(((g.au.take (j+1)).Nodup/\c'=((j+1:Nat):Int)/\m'=mI (g.au.zipIdx.take (j+1)))\/(¬g.au.Nodup/\m'.length<j+1)):=Lh hs hm;simp(disch:=omega) only[go_sem,q1,q2,q4,q31,Xs,Xt,b1,b2,b4,xz,ar,hs,strs,hu,oc,fM];exact⟨c',m',rfl,tB⟩
  ·rintro σ bx ⟨q1,q2,q4,q31,Xs,Xt,b1,b2,b4,c,m,xz,hm⟩;have ar:¬(g.au.length:Int)<(g.au.length:Int):=oM;simp(disch:=omega) only[go_sem,q1,q4,Xs,Xt,b1,b4,xz,ar,strs,aS.d,Gv];rcases hm with⟨hn,rfl,rfl⟩|⟨hn,h2⟩
   rotate_left
   ·have hr:c_ g=(.zero,260):=by unfold c_;rw[if_neg u6,if_pos (.inl hn)]
    have h3:¬((m.length:Int)=(g.au.length:Int)):=oM;simp(disch:=omega) only[go_sem,h3,decide_false,nF,q2,b2,ma];rw[hr];exact jT _ _
   rw[tL]at hn;have hz:g.au.zipIdx.take g.au.length=g.au.zipIdx:=by rw[<-List.length_zipIdx (l:=g.au) (i:=0),tL]
   rw[hz]at xz⊢;have h3:(((mI g.au.zipIdx).length:Nat):Int)=(g.au.length:Int):=by simp[mI]
   simp(disch:=omega) only[go_sem,h3,decide_true,nT,q1,b1,aS.d,strs];refine aC (T7 g hg bx (Va hn b4 xz) oM) rfl ?_;rintro d B ⟨rfl,hk⟩;have c1:=(hk 1 oM).trans b1;have c2:=(hk 2 oM).trans b2;have c4:=(hk 4 oM).trans b4;have Rs:=(hk 29 oM).trans xz;cases ht:gC g.au.contains g
   ·have hr:c_ g=(.zero,260):=by unfold c_;rw[if_neg u6,if_pos (.inr ht)]
    simp(disch:=omega) only[go_sem,h3,decide_true,nT,nF,q2,c2,ma];rw[hr];exact jT _ _
   simp(disch:=omega) only[go_sem,h3,decide_true,nT,q1,c1,aS.d,strs];refine av (KF g hg hn) (show D.aF [g.d]=true by simp[D.aF,kM]) ?_;cases hc:pH g
   rotate_left
   ·have hr:c_ g=(.zero,261):=by unfold c_;rw[if_neg u6,if_neg (by simp[hn,ht]),if_pos hc]
    simp(disch:=omega) only[go_sem,q2,c2,ma];rw[hr];exact jT _ _
   have hr:c_ g=(fj g,0):=by unfold c_;rw[if_neg u6,if_neg (by simp[hn,ht]),if_neg (by simp[hc])]
   rw[hr];have CF:=Qu g.au hn;simp(disch:=omega) only[go_sem,q1,q2,q4,c1,c2,c4,Rs,CF,ma,aS.d,strs];refine iS (.bm 0 (.load 1 1 (.bm 3 (.load 4 1 (.both 2 [1] (.bm 6 (.both 5 [] (.both 7 [] (.bm 8 (.both 9 [] .fin .stop)) .stop) .stop)) .stop))))) aj ?_;simp(disch:=omega) only[go_sem,q1,c1,aS.d,strs];generalize EJ:ak (ak B 2 _) 2 _=B1;have d1:B1 1=⟨1,1,6,81,[g.d]⟩:=by rw[<-EJ];simp[ak,c1]
   have d2:B1 2=⟨1,1,6,81,[.agg [.str g.name,.sl 1 (g.au.map D.str),.str g.start,.int .i64 (num g.au g.start),.sl 5 (g.entries.map Entry.d),.sl 5 (g.rules.map aE.d)]]⟩:=by rw[<-EJ];simp[ak]
   have d4:B1 4=⟨1,1,1,307,[.omap 29 1]⟩:=by rw[<-EJ];simp[ak,c4]
   obtain⟨cl,d29⟩:∃c:Int,B1 29=⟨1,3,0,307,.int .i64 c::dD (mI g.au.zipIdx)⟩:=⟨_,by rw[<-EJ];simp[ak,Rs];rfl⟩
   clear EJ;refine aC (Pc 300 g.entries oM B1) rfl ?_;rintro dE B2 ⟨hE,kE⟩;simp(disch:=omega) only[go_sem,kE 1 oM,aS.d,strs,q2,d1];refine aC (Pd 320 g.rules oM B2) rfl ?_;rintro dR B3 ⟨hR,kR⟩;have e1:=(kR 1 oM).trans ((kE 1 oM).trans d1);have e2:=(kR 2 oM).trans ((kE 2 oM).trans d2);have e4:=(kR 4 oM).trans ((kE 4 oM).trans d4);have e29:=(kR 29 oM).trans ((kE 29 oM).trans d29);obtain⟨f1,f2,f3⟩:=eT.facts ⟨hE,kE⟩;obtain⟨f4,f5,f6⟩:=eT.facts ⟨hR,kR⟩;rw[List.length_map]at f3 f6;simp(disch:=omega) only[go_sem,e2,q2,f1,f2,f3,f4,f5];generalize Vs:ak (ak B3 2 _) 2 _=B4;have uD:∀s,s≠2->B4 s=B3 s:=fun s hs=>by rw[<-Vs];simp[ak,hs]
   have g2:B4 2=⟨1,1,6,81,[.agg [.str g.name,.sl 1 (g.au.map D.str),.str g.start,.int .i64 (num g.au g.start),dE,dR]]⟩:=by rw[<-Vs];simp[ak]
   clear Vs;obtain⟨eE,VX⟩:∃eE,g.entries≠[]->dE= .bE 307 eE 5 0 g.entries.length/\B4 307=⟨eE,1,5,138,g.entries.map Entry.d⟩:=by
    by_cases he:g.entries=[]
    ·exact⟨0,fun h=>(h he).elim⟩
    ·obtain⟨e,h1,h2⟩:=eT.own ⟨hE,kE⟩ (by simpa using he);exact⟨e,fun _=>⟨by simpa using h1,(uD 307 oM).trans ((kR 307 oM).trans h2)⟩⟩
   have eF:=hg.A_;refine bo g.entries.length (fun j σ bx=>σ 2= .loc 2 1 0 0/\σ 4= .loc 4 1 0 0/\σ 75= .int .i64 g.entries.length/\σ 76= .int .i64 j/\(∀s,s≠307->bx s=B4 s)/\(g.entries≠[]->bx 307=⟨eE,1,5,138,(kl (p9 g.au) g.entries j).map Entry.d⟩)) ?_ ?_ ?_
   ·simp(disch:=omega) only[go_sem,q2,q4,IC];exact⟨fun _ _=>trivial,fun h=>(VX h).2⟩
   ·rintro j σ bx hj ⟨q2,q4,Xu,Xv,hk,K3⟩;obtain⟨x,hx⟩:=ba hj;have bq:g.entries≠[]:=by rintro e;rw[e]at hj;simp at hj
    obtain⟨rfl,-⟩:=VX bq;have b7:=K3 bq;have b2:=(hk 2 oM).trans g2;have b4:=(hk 4 oM).trans ((uD 4 oM).trans e4);have xz:=(hk 29 oM).trans ((uD 29 oM).trans e29);have ar:(j:Int)<(g.entries.length:Int):=oM;have oc:IntKind.i64.wrap ((j:Int)+1)=((j+1:Nat):Int):=aD oM;have eo:=BL (f:=p9 g.au) hx;have gG:=BN (f:=p9 g.au) (d:=Entry.d) hx;simp only[p9,Entry.d]at gG;simp(disch:=omega) only[go_sem,q2,q4,Xu,Xv,ar,oc,b2,b4,xz,b7,eo,CF,Entry.d,strs];refine⟨fun s hs=>by rw[if_neg hs];exact hk s hs,fun _=>?_⟩;rw[<-gG];try rfl
   ·rintro σ bx ⟨q2,q4,Xu,Xv,hk,K3⟩;have ar:¬(g.entries.length:Int)<(g.entries.length:Int):=oM;have b2:=(hk 2 oM).trans g2;simp(disch:=omega) only[go_sem,q2,Xu,Xv,ar,b2,f6];rw[BK]at K3;obtain⟨eR,VY⟩:∃eR,g.rules≠[]->dR= .bE 327 eR 5 0 g.rules.length/\bx 327=⟨eR,1,5,142,g.rules.map aE.d⟩:=by
     by_cases he:g.rules=[]
     ·exact⟨0,fun h=>(h he).elim⟩
     ·obtain⟨e,h1,h2⟩:=eT.own ⟨hR,kR⟩ (by simpa using he);exact⟨e,fun _=>⟨by simpa using h1,(hk 327 oM).trans ((uD 327 oM).trans h2)⟩⟩
    have tF:=hg.zq;generalize hB5:bx=B5 at *;refine vj g.rules.length (fun j σ bx=>σ 2= .loc 2 1 0 0/\σ 4= .loc 4 1 0 0/\σ 95= .int .i64 g.rules.length/\σ 96= .int .i64 j/\(∀s,s≠327->s<340->bx s=B5 s)/\(g.rules≠[]->FW eR ((kl (kk g.au) g.rules j).map aE.d) bx)) ?_ ?_ ?_
    ·simp(disch:=omega) only[go_sem,q2,q4,IC];exact⟨fun _ _ _=>trivial,fun h=> .of (VY h).2⟩
    ·rintro j σ bx hj ⟨q2,q4,xQ,xR,JO,hh⟩;obtain⟨x,hx⟩:=ba hj;have bq:g.rules≠[]:=by rintro e;rw[e]at hj;simp at hj
     obtain⟨rfl,-⟩:=VY bq;obtain⟨bx0,hm,qg,iz⟩:=(hh bq).eO;refine⟨bx0,.inr ⟨rfl,327,_,hm.1,hm.2.1,hm.2.2⟩,?_⟩;clear hm;have low:∀s,s≠307->s≠327->s<340->bx0 s=B4 s:=fun s h1 h2 h3=>(iz s h2 oM).trans ((JO s h2 h3).trans (hk s h1));have b2:=(low 2 oM oM oM).trans g2;have b4:=(low 4 oM oM oM).trans ((uD 4 oM).trans e4);have xz:=(low 29 oM oM oM).trans ((uD 29 oM).trans e29);have ar:(j:Int)<(g.rules.length:Int):=oM;have eo:=BL (f:=kk g.au) hx;have oD:x.parts≠[]/\x.parts.length<=4:=L7 ht (mG hx);have vA:x.parts.map Part.d≠[]:=by simpa using oD.1
     have oc:IntKind.i64.wrap ((j:Int)+1)=((j+1:Nat):Int):=aD oM;simp(disch:=omega) only[go_sem,q2,q4,xQ,xR,ar,b2,b4,qg,eo];refine wq (Q:=fun σ bx=>σ 2= .loc 2 1 0 0/\σ 4= .loc 4 1 0 0/\σ 10= .loc 327 eR j 0/\σ 95= .int .i64 g.rules.length/\σ 96= .int .i64 j/\∃eP,bx 327=⟨eR,1,5,142,((kl (kk g.au) g.rules j).map aE.d).set j (.agg [.str x.cat,.int .i64 (num g.au x.cat),.bE 347 eP 3 0 x.parts.length,.sl 2 (x.aM.map dK.d),.int .i64 x.cost])⟩/\bx 347=⟨eP,1,3,247,x.parts.map Part.d⟩/\∀s,s≠327->s<340->bx s=bx0 s) (fun _ _ h=>h) ?_ ?_
     ·rintro σ bx ⟨q2,q4,og,xQ,xR,eP,qg,An,iT⟩;have hz:=oD.2;have Lb:(((kl (kk g.au) g.rules j).map aE.d).set j (D.agg [.str x.cat,.int .i64 (num g.au x.cat),.bE 347 eP 3 0 x.parts.length,.sl 2 (x.aM.map dK.d),.int .i64 x.cost]))[j]? =some (D.agg [.str x.cat,.int .i64 (num g.au x.cat),.bE 347 eP 3 0 x.parts.length,.sl 2 (x.aM.map dK.d),.int .i64 x.cost]):=by rw[List.getElem?_set_self (by rw[List.length_map,BM];exact hj)]
      simp(disch:=omega) only[go_sem,og,qg,Lb];have hnum:num g.au x.cat=(kk g.au x).no:=rfl;refine bo x.parts.length (fun i σ bx=>σ 2= .loc 2 1 0 0/\σ 4= .loc 4 1 0 0/\σ 10= .loc 327 eR j 0/\σ 95= .int .i64 g.rules.length/\σ 96= .int .i64 j/\σ 124= .int .i64 x.parts.length/\σ 125= .int .i64 i/\bx 327=⟨eR,1,5,142,((kl (kk g.au) g.rules j).map aE.d).set j (.agg [.str x.cat,.int .i64 (num g.au x.cat),.bE 347 eP 3 0 x.parts.length,.sl 2 (x.aM.map dK.d),.int .i64 x.cost])⟩/\bx 347=⟨eP,1,3,247,(kl (tY g.au) x.parts i).map Part.d⟩/\∀s,s≠327->s<340->bx s=bx0 s) ?_ ?_ ?_
      ·simp(disch:=omega) only[go_sem,q2,q4,og,xQ,xR,qg,An,IC];exact iT
      ·rintro i σ bx hi ⟨q2,q4,og,xQ,xR,H0,H5,qg,An,iT⟩;obtain⟨y,hy⟩:=ba hi;have ar:(i:Int)<(x.parts.length:Int):=oM;have jE:IntKind.i64.wrap ((i:Int)+1)=((i+1:Nat):Int):=aD oM;have hyg:=BL (f:=tY g.au) hy;have gG:=BN (f:=tY g.au) (d:=Part.d) hy;have pQ:∀d:D,(((kl (tY g.au) x.parts i).map Part.d).set i d)[i]? =some d:=fun d=>List.getElem?_set_self (by rw[List.length_map,BM];exact hi);have b4':=(iT 4 oM oM).trans b4;have adv:=(iT 29 oM oM).trans xz;simp(disch:=omega) only[go_sem,og,H0,H5,ar,qg,An,Lb,hyg,Part.d,pQ];refine bg (fun c1=>?_) (fun c1=>?_)
       ·simp(disch:=omega) only[go_sem,q2,q4,og,xQ,xR,H0,H5,qg,Lb,pQ,jE,b4',adv,CF,List.set_set];refine⟨by rw[<-gG];simp[tY,Part.d,c1],fun s h1 h2=>?_⟩;rw[if_neg oM,if_neg oM];exact iT s h1 h2
       ·simp(disch:=omega) only[go_sem,q2,q4,og,xQ,xR,H0,H5,qg,jE];refine⟨by rw[<-gG];simp[tY,Part.d,c1],fun s h1 h2=>?_⟩;rw[if_neg oM];exact iT s h1 h2
      ·rintro σ bx ⟨q2,q4,og,xQ,xR,H0,H5,qg,An,iT⟩;have ar:¬(x.parts.length:Int)<(x.parts.length:Int):=oM;simp(disch:=omega) only[go_sem,q2,q4,xQ,xR,H0,H5,ar,oc];rw[BK]at An;refine⟨fun s h1 h2=>(iT s h1 h2).trans ((iz s h1 oM).trans (JO s h1 h2)),fun _=>⟨_,qg,?_,fun t ht=>?_⟩⟩
       ·rw[<-BN hx];refine Ke ?_ _ _ _ (rF bx _).1;have:=eK eP 1 3 247 x.parts.length ((x.parts.map (tY g.au)).map Part.d) (by decide) sI (zn _);simp only[tS,dY,o0,lX,An,this];simp[go_sem,aE.d,kk]
       ·rcases uH _ _ ht with h|h
        ·rw[(rF bx _).2]at h;simp at h
        ·simpa[names,bH]using h
     ·refine iS (.bm 0 (.bm 1 (.load 2 4 (.bm 3 (.bm 4 (.bm 5 (.load 6 327 (.bm 8 (.bm 9 (.bm 10 (.load 11 327 (.both 7 [327] (.both 12 [4,327] (.bm 13 (.bm 14 (.both 15 [] (.bm 16 (.bm 17 (.both 18 [] .fin .stop))) .stop))) .stop) (.both 12 [4,327] (.both 7 [327] (.bm 13 (.bm 14 (.both 15 [] (.bm 16 (.bm 17 (.both 18 [] .fin .stop))) .stop))) .stop) .stop))))))))))))) aj ?_;simp(disch:=omega) only[go_sem,q4,b4,xz,qg,eo,CF,aE.d];have pQ:∀d:D,(((kl (kk g.au) g.rules j).map aE.d).set j d)[j]? =some d:=fun d=>List.getElem?_set_self (by rw[List.length_map,BM];exact hj);refine⟨?_,?_⟩
      ·refine aC (Gl 340 x.parts oM bx0) rfl ?_;rintro dP B6 ⟨hP,kP⟩;obtain⟨eP,rfl,An⟩:=eT.own ⟨hP,kP⟩ vA;rw[List.length_map];have UY:=(kP 327 oM).trans qg;have c4:=kP 4 oM;simp(disch:=omega) only[go_sem,UY,c4,q2,q4,xQ,xR,eo,aE.d,pQ,List.set_set];exact⟨qg.symm,eP,rfl,An,fun s h1 h2=>by rw[if_neg h1,if_neg h1];exact kP s oM⟩
      ·refine aC (Gl 340 x.parts oM bx0) rfl ?_;rintro dP B6 ⟨hP,kP⟩;obtain⟨eP,rfl,An⟩:=eT.own ⟨hP,kP⟩ vA;rw[List.length_map];have UY:=(kP 327 oM).trans qg;have c4:=kP 4 oM;have Rs:=(kP 29 oM).trans xz;simp(disch:=omega) only[go_sem,UY,c4,Rs,q2,q4,xQ,xR,eo,aE.d,pQ,List.set_set,qg,CF];exact⟨eP,rfl,An,fun s h1 h2=>by rw[if_neg h1,if_neg h1];exact kP s oM⟩
    ·rintro σ bx ⟨q2,q4,xQ,xR,JO,hh⟩;have ar:¬(g.rules.length:Int)<(g.rules.length:Int):=oM;obtain⟨bx0,hm,Qe,rR,EK,EL⟩:∃bx0,(bx0=bx\/∃l,(bx 327).k=1/\dn bx (bx 327).es=some l/\bx0=Go.V.eO bx 327 l)/\(∀s,s≠327->s<340->bx0 s=B5 s)/\∃r,bz bx0 dR=some r/\bN r (.sl 5 ((g.rules.map (kk g.au)).map aE.d)):=by
      by_cases he:g.rules=[]
      ·refine⟨bx,.inl rfl,JO,?_⟩;rw[he]at hR⊢;have ho:=(eT.none (bx:=B2) ⟨hR,kR⟩).of (bx':=bx) fun t ht=>by
        simp at ht;subst ht;exact(JO 325 oM oM).trans ((hk 325 oM).trans (uD 325 oM))
       exact ho.out (by simp[D.aF])
      ·obtain⟨bx0,hm,qg,iz⟩:=(hh he).eO;rw[BK]at qg hm;refine⟨bx0,.inr ⟨_,hm⟩,fun s h1 h2=>(iz s h1 oM).trans (JO s h1 h2),?_⟩;rw[(VY he).1,lX,qg];exact⟨_,eK _ _ _ _ _ _ (by decide) sI (HW _),.refl _⟩
     refine⟨bx0,?_,?_⟩
     ·rcases hm with rfl|⟨l,h1,h2,h3⟩
      ·exact .inl rfl
      ·exact .inr ⟨rfl,327,l,h1,h2,h3⟩
     have b2:=(Qe 2 oM oM).trans ((hk 2 oM).trans g2);obtain⟨rE,Vu,Vv⟩:∃r,bz bx0 dE=some r/\bN r (.sl 5 ((g.entries.map (p9 g.au)).map Entry.d)):=by
      by_cases he:g.entries=[]
      ·rw[he]at hE⊢;have ho:=(eT.none (bx:=B1) ⟨hE,kE⟩).of (bx':=bx0) fun t ht=>by
        simp at ht;subst ht;exact(Qe 305 oM oM).trans ((hk 305 oM).trans ((uD 305 oM).trans (kR 305 oM)))
       exact ho.out (by simp[D.aF])
      ·have b7:=(Qe 307 oM oM).trans (K3 he);rw[(VX he).1,lX,b7];exact⟨_,eK _ _ _ _ _ _ (by decide) sI (Bw _),.refl _⟩
     simp(disch:=omega) only[go_sem,q2,xQ,xR,ar,b2,f2,f5];have hu:ak bx0 2 ⟨1,1,6,81,[.agg [.str g.name,.sl 1 (g.au.map D.str),.str g.start,.int .i64 (num g.au g.start),dE,dR]]⟩=bx0:=by
      funext s;by_cases h:s=2
      ·subst h;rw[eC,b2]
      ·rw[aB h]
     rw[hu];refine⟨.aL [.agg [.str g.name,.sl 1 (g.au.map D.str),.str g.start,.int .i64 (num g.au g.start),rE,rR],.int .i64 0],?_,kW (zG (.refl _) (.refl _) (.refl _) (.refl _) Vv EL) (.refl _)⟩;simp only[HP,tS,dY,o0,Vu,EK];simp[go_sem]
def Ow(g:aS)(hg:mK g):ao prog 172 [g.d] (o7 (c_ g)):=
 (aI mixed (Ox g hg) rfl aj rfl).to (fun _ _ h=>h) (fun d' bx' ⟨r,h1,h2⟩=>⟨r,h1,h2⟩)
def mB{α:Type}(p:α->α->Bool)(l m:List α):Bool:=decide (l.length=m.length)&&(l.zip m).all fun q=>p q.1 q.2
def OT{α:Type}{l m:List α}{k:Nat}{x y:α}(hx:l[k]? =some x)(hy:m[k]? =some y):(l.zip m).take (k+1)=(l.zip m).take k++[(x,y)]:=by
 have h:(l.zip m)[k]? =some (x,y):=List.getElem?_zip_eq_some.2 ⟨hx,hy⟩;rw[List.take_add_one,h];rfl
def U7{f:FuncId}{p:Entry->Entry->Bool}(l m:List Entry)(hl:l.length<=140737488355328)(hf:∀x∈l,∀y∈m,ao prog f [x.d,y.d] (.bool (p x y))):
 ao prog 173 [.sl 5 (l.map Entry.d),.sl 5 (m.map Entry.d),.fn (.func f) []] (.bool (mB p l m)):=by
 refine aw mixed (fn:=f173) (tab:=[]) ?_ rfl aj rfl;refine ax _ [.tmp 6] _ rfl rfl rfl aj ?_;simp(disch:=omega) only[go_sem];refine bg (fun h1=>?_) (fun h1=>?_)
 rotate_left
 ·exact ab (congrArg D.bool (by rw[mB,decide_eq_false oM];rfl))
 have h1:l.length=m.length:=oM;simp(disch:=omega) only[go_sem];refine bo l.length (fun k σ bx=>σ 1= .sl 5 (m.map Entry.d)/\σ 2= .fn (.func f) []/\σ 15= .sl 5 (l.map Entry.d)/\σ 16= .int .i64 l.length/\σ 17= .int .i64 k/\((l.zip m).take k).all (fun q=>p q.1 q.2)=true) ?_ ?_ ?_
 ·simp[go_sem,bB]
 ·rintro k σ bx hk ⟨q1,q2,H6,C8,C9,hn⟩;obtain⟨x,hx⟩:=ba hk;obtain⟨y,hy⟩:=ba (show k<m.length by omega);have ar:(k:Int)<(l.length:Int):=oM;have wF:(k:Int)<(m.length:Int):=oM;have ji:IntKind.i64.wrap ((k:Int)+1)=((k+1:Nat):Int):=aD oM;simp(disch:=omega) only[go_sem,q1,q2,H6,C8,C9,ar,hx,hy,Entry.d,strs];refine av (hf x (mG hx) y (mG hy)) (show D.aF [x.d,y.d]=true by simp[D.aF,D.pure,Entry.d,strs]) ?_;cases hp:p x y
  ·simp(disch:=omega) only[go_sem,nF];refine ab (congrArg D.bool ?_);have:((l.zip m).all fun q=>p q.1 q.2)=false:=by
    rw[List.all_eq_false];exact⟨(x,y),mG (List.getElem?_zip_eq_some.2 ⟨hx,hy⟩),by simp[hp]⟩
   rw[mB,this,Bool.and_false]
  ·simp(disch:=omega) only[go_sem,nT,q1,q2,H6,C8,C9,ji];rw[OT hx hy,List.all_append,hn];simp[hp]
 ·rintro σ bx ⟨q1,q2,H6,C8,C9,hn⟩;have ar:¬(l.length:Int)<(l.length:Int):=oM;simp(disch:=omega) only[go_sem,C8,C9,ar];refine ab (congrArg D.bool ?_);rw[List.take_of_length_le (by simp;omega)]at hn;rw[mB,hn,decide_eq_true h1];rfl
def U8{f:FuncId}{p:aE->aE->Bool}(l m:List aE)(hl:l.length<=140737488355328)(hf:∀x∈l,∀y∈m,ao prog f [x.d,y.d] (.bool (p x y))):
 ao prog 175 [.sl 5 (l.map aE.d),.sl 5 (m.map aE.d),.fn (.func f) []] (.bool (mB p l m)):=by
 refine aw mixed (fn:=f175) (tab:=[]) ?_ rfl aj rfl;refine ax _ [.tmp 6] _ rfl rfl rfl aj ?_;simp(disch:=omega) only[go_sem];refine bg (fun h1=>?_) (fun h1=>?_)
 rotate_left
 ·exact ab (congrArg D.bool (by rw[mB,decide_eq_false oM];rfl))
 have h1:l.length=m.length:=oM;simp(disch:=omega) only[go_sem];refine bo l.length (fun k σ bx=>σ 1= .sl 5 (m.map aE.d)/\σ 2= .fn (.func f) []/\σ 15= .sl 5 (l.map aE.d)/\σ 16= .int .i64 l.length/\σ 17= .int .i64 k/\((l.zip m).take k).all (fun q=>p q.1 q.2)=true) ?_ ?_ ?_
 ·simp[go_sem,bB]
 ·rintro k σ bx hk ⟨q1,q2,H6,C8,C9,hn⟩;obtain⟨x,hx⟩:=ba hk;obtain⟨y,hy⟩:=ba (show k<m.length by omega);have ar:(k:Int)<(l.length:Int):=oM;have wF:(k:Int)<(m.length:Int):=oM;have ji:IntKind.i64.wrap ((k:Int)+1)=((k+1:Nat):Int):=aD oM;simp(disch:=omega) only[go_sem,q1,q2,H6,C8,C9,ar,hx,hy,aE.d];refine av (hf x (mG hx) y (mG hy)) (show D.aF [x.d,y.d]=true by simp[D.aF,D.pure,aE.d]) ?_;cases hp:p x y
  ·simp(disch:=omega) only[go_sem,nF];refine ab (congrArg D.bool ?_);have:((l.zip m).all fun q=>p q.1 q.2)=false:=by
    rw[List.all_eq_false];exact⟨(x,y),mG (List.getElem?_zip_eq_some.2 ⟨hx,hy⟩),by simp[hp]⟩
   rw[mB,this,Bool.and_false]
  ·simp(disch:=omega) only[go_sem,nT,q1,q2,H6,C8,C9,ji];rw[OT hx hy,List.all_append,hn];simp[hp]
 ·rintro σ bx ⟨q1,q2,H6,C8,C9,hn⟩;have ar:¬(l.length:Int)<(l.length:Int):=oM;simp(disch:=omega) only[go_sem,C8,C9,ar];refine ab (congrArg D.bool ?_);rw[List.take_of_length_le (by simp;omega)]at hn;rw[mB,hn,decide_eq_true h1];rfl
def U2(x y:Entry):ao prog 174 [x.d,y.d] (.bool (decide (x.no=y.no))):=by
 refine aw mixed (fn:=f174) (tab:=[]) ?_ rfl aj rfl;refine ax _ [.tmp 4] _ rfl rfl rfl aj ?_;simp(disch:=omega) only[go_sem,Entry.d,strs];exact .refl _
def U3(x y:aE)(hx:x.parts.length<=140737488355328)(hy:y.parts.length<=140737488355328):ao prog 176 [x.d,y.d] (.bool (decide (x.no=y.no)&&decide (x.parts=y.parts))):=by
 refine aw mixed (fn:=f176) (tab:=[]) ?_ rfl aj rfl;refine ax _ [.tmp 4] _ rfl rfl rfl aj ?_;simp(disch:=omega) only[go_sem,aE.d];refine bg (fun h1=>?_) (fun h1=>?_)
 rotate_left
 ·simp(disch:=omega) only[go_sem,h1,decide_false];exact ab (by simp[h1])
 simp(disch:=omega) only[go_sem,h1,decide_true];refine av (PA x.parts y.parts hx hy) sG ?_;simp(disch:=omega) only[go_sem,h1,decide_true];exact ab (by simp[h1])
def jK(g:aS):Int:=
 if(c_ g).2≠0 then(c_ g).2
 else if decide ((c_ g).1.no=g.no)&&(mB (fun x y=>decide (x.no=y.no)) (c_ g).1.entries g.entries&&mB (fun x y=>decide (x.no=y.no)&&decide (x.parts=y.parts)) (c_ g).1.rules g.rules)then 0 else 260
def xd{g:aS}(h:(c_ g).2=0):(c_ g).1=fj g:=by
 unfold c_ at h⊢;split
 ·rename_i h1;rw[if_pos h1]at h;simp at h
 ·rename_i h1;rw[if_neg h1]at h;split
  ·rename_i h2;rw[if_pos h2]at h;simp at h
  ·rename_i h2;rw[if_neg h2]at h;split
   ·rename_i h3;rw[if_pos h3]at h;simp at h
   ·rfl
def Jr(g:aS)(hg:mK g):ao prog 125 [g.d] (.int .i64 (jK g)):=by
 refine aw mixed (fn:=f125) (tab:=[]) ?_ rfl aj rfl;refine ax _ [.tmp 2] _ rfl rfl rfl aj ?_;have eF:=hg.A_;have tF:=hg.zq;simp(disch:=omega) only[go_sem,aS.d,strs];refine av (Ow g hg) (show D.aF [g.d]=true by simp[D.aF,kM]) ?_;simp(disch:=omega) only[go_sem,o7,aS.d,strs];refine bg (fun h1=>?_) (fun h1=>?_)
 rotate_left
 ·simp(disch:=omega) only[go_sem,h1,decide_false,nF];exact ab (by rw[jK,if_pos h1])
 have hr:=xd h1;have NA:jK g=if decide ((fj g).no=g.no)&&(mB (fun x y=>decide (x.no=y.no)) (fj g).entries g.entries&&mB (fun x y=>decide (x.no=y.no)&&decide (x.parts=y.parts)) (fj g).rules g.rules)then 0 else 260:=by rw[jK,if_neg (by simp[h1]),hr]
 rw[NA];clear NA;simp(disch:=omega) only[go_sem,h1,hr,decide_true,nT];have gn:(fj g).entries.length<=140737488355328:=by simp[fj,eF]
 have hsr:(fj g).rules.length<=140737488355328:=by simp[fj,tF]
 refine av (U7 (fj g).entries g.entries gn (fun x _ y _=>U2 x y)) sG ?_;simp(disch:=omega) only[go_sem,hr];refine av (U8 (fj g).rules g.rules hsr (fun x hx y hy=>U3 x y ?_ (hg.rules y hy).wV)) sG ?_
 ·obtain⟨z,hz,rfl⟩:=List.mem_map.1 hx;have:=(hg.rules z hz).wV;simpa[kk]using this
 simp(disch:=omega) only[go_sem,hr];refine bg (fun h2=>?_) (fun h2=>?_)
 rotate_left
 ·simp(disch:=omega) only[go_sem,h2,decide_false,nF];first|exact .refl _|exact ab (by simp[h2])
 cases h3:mB (fun x y=>decide (x.no=y.no)) (fj g).entries g.entries
 ·simp(disch:=omega) only[go_sem,h2,decide_true,nT,nF];first|exact .refl _|exact ab sI
 cases h4:mB (fun x y=>decide (x.no=y.no)&&decide (x.parts=y.parts)) (fj g).rules g.rules
 ·simp(disch:=omega) only[go_sem,h2,decide_true,nT,nF];first|exact .refl _|exact ab sI
 ·simp(disch:=omega) only[go_sem,h2,decide_true,nT];first|exact .refl _|exact ab sI
def vO{α:Type}{l m:List α}{k:Nat}{x y:α}(hx:l[k]? =some x)(hy:m[k]? =some y)(h:¬x=y):¬l=m:=fun e=>by
 rw[e,hy]at hx;exact h (Option.some.inj hx).symm
def PC(l m:List ah)(hl:l.length<=140737488355328)(hm:m.length<=140737488355328):qh prog (cJ prog) [] f116 [strs l,strs m] (.bool (decide (l=m))):=by
 refine ax _ [.tmp 4] _ rfl rfl rfl aj ?_;simp(disch:=omega) only[go_sem,strs];refine bg (fun h1=>?_) (fun h1=>?_)
 ·have h1:l.length=m.length:=oM;simp(disch:=omega) only[go_sem];refine bo l.length (fun k σ bx=>σ 0=strs l/\σ 1=strs m/\σ 5= .int .i64 k/\l.take k=m.take k) ?_ ?_ ?_
  ·simp[go_sem,bB,strs]
  ·rintro k σ bx hk ⟨h0,lf,h8,hn⟩;obtain⟨x,hx⟩:=ba hk;obtain⟨y,hy⟩:=ba (show k<m.length by omega);have ar:(k:Int)<(l.length:Int):=oM;have wF:(k:Int)<(m.length:Int):=oM;repeat' (first|with_reducible apply zJ<;>intro _|simp(disch:=omega) only[go_sem, *,h0,lf,h8,ar,wF,strs,hx,hy])
   ·rename_i mg;rw[aD oM];exact⟨rfl,sZ hx hy hn mg⟩
   ·rename_i mg;exact ab (congrArg D.bool (decide_eq_false (vO hx hy mg)).symm)
  ·rintro σ bx ⟨h0,lf,h8,hn⟩;have ar:¬(l.length:Int)<(l.length:Int):=oM;simp(disch:=omega) only[go_sem,h0,h8,ar,strs];rw[tL,h1,tL]at hn;exact ab (congrArg D.bool (decide_eq_true hn).symm)
 ·have:¬l=m:=fun e=>h1 (by rw[e]);exact ab (congrArg D.bool (decide_eq_false this).symm)
def Gx(l m:List ah)(hl:l.length<=140737488355328)(hm:m.length<=140737488355328):ao prog 116 [strs l,strs m] (.bool (decide (l=m))):=aw mixed (PC l m hl hm) rfl aj rfl
def QP(x y:Entry)(hx:x.aM.length<=140737488355328)(hy:y.aM.length<=140737488355328):qh prog (cJ prog) [] f117 [x.d,y.d] (.bool (decide (x=y))):=by
 refine ax _ [.tmp 4] _ rfl rfl rfl aj ?_;have hq:=Gx x.aM y.aM hx hy;simp only[strs]at hq;obtain⟨a,b,c,d,e⟩:=x;obtain⟨a',b',c',d',e'⟩:=y;simp only at hq hx hy;repeat' (first|with_reducible apply zJ<;>intro _|with_reducible refine cb (hq) sG ?_|with_reducible refine cd (hq) sG ?_|simp(disch:=omega) only[go_sem, *,Entry.d,strs])
 all_goals (refine ab (congrArg D.bool ?_);simp[*];done)
def QO(x y:Entry)(hx:x.aM.length<=140737488355328)(hy:y.aM.length<=140737488355328):ao prog 117 [x.d,y.d] (.bool (decide (x=y))):=aw mixed (QP x y hx hy) rfl aj rfl
def QR(x y:aE)(hx:x.parts.length<=140737488355328/\x.aM.length<=140737488355328)(hy:y.parts.length<=140737488355328/\y.aM.length<=140737488355328):qh prog (cJ prog) [] f118 [x.d,y.d] (.bool (decide (x=y))):=by
 refine ax _ [.tmp 4] _ rfl rfl rfl aj ?_;obtain⟨a,b,c,d,e⟩:=x;obtain⟨a',b',c',d',e'⟩:=y;simp only at hx hy;repeat' (first|with_reducible apply zJ<;>intro _|simp(disch:=omega) only[go_sem, *,aE.d])
 case refine_1.refine_1.refine_1.refine_1.refine_1=>
  rename_i e1 e2 e3 e4 e5;have e4:c.length=c'.length:=oM;have e5:d.length=d'.length:=oM;refine bo c.length (fun k σ bx=>σ 2= .loc 2 1 0 0/\σ 3= .loc 3 1 0 0/\σ 5= .int .i64 k/\bx 2=⟨1,1,5,142,[.agg [.str a,.int .i64 b,.sl 3 (c.map Part.d),.sl 2 (d.map dK.d),.int .i64 e]]⟩/\bx 3=⟨1,1,5,142,[.agg [.str a',.int .i64 b',.sl 3 (c'.map Part.d),.sl 2 (d'.map dK.d),.int .i64 e']]⟩/\c.take k=c'.take k) ?_ ?_ ?_
  ·simp[go_sem,ak,Bx.none]
  ·rintro k σ bx hk ⟨h2,h3,h5,b2,b3,hn⟩;obtain⟨x,hx⟩:=ba hk;obtain⟨y,hy⟩:=ba (show k<c'.length by omega);have ar:(k:Int)<(c.length:Int):=oM;have wF:(k:Int)<(c'.length:Int):=oM;obtain⟨x1,x2,x3⟩:=x;obtain⟨y1,y2,y3⟩:=y;repeat' (first|with_reducible apply zJ<;>intro _|simp(disch:=omega) only[go_sem, *,h2,h3,h5,b2,b3,ar,hx,hy,Part.d])
   ·rename_i mg;rw[aD oM];exact⟨rfl,sZ hx hy hn (by simpa using mg)⟩
   ·rename_i mg;refine ab (congrArg D.bool (decide_eq_false fun e=>vO hx hy (fun h=>?_) (by injection e)).symm);injection h
    subst_vars
    simp at mg
  ·rintro σ bx ⟨h2,h3,h5,b2,b3,hn⟩;have ar:¬(c.length:Int)<(c.length:Int):=oM;rw[tL,e4,tL]at hn;simp(disch:=omega) only[go_sem,h2,h5,b2,ar];refine bo d.length (fun k σ bx=>σ 2= .loc 2 1 0 0/\σ 3= .loc 3 1 0 0/\σ 6= .int .i64 k/\bx 2=⟨1,1,5,142,[.agg [.str a,.int .i64 b,.sl 3 (c.map Part.d),.sl 2 (d.map dK.d),.int .i64 e]]⟩/\bx 3=⟨1,1,5,142,[.agg [.str a',.int .i64 b',.sl 3 (c'.map Part.d),.sl 2 (d'.map dK.d),.int .i64 e']]⟩/\d.take k=d'.take k) ?_ ?_ ?_
   ·simp[go_sem,ak,h2,h3,b2,b3]
   ·rintro k σ bx hk ⟨h2,h3,h5,b2,b3,tC⟩;obtain⟨x,hx⟩:=ba hk;obtain⟨y,hy⟩:=ba (show k<d'.length by omega);have ar:(k:Int)<(d.length:Int):=oM;have wF:(k:Int)<(d'.length:Int):=oM;obtain⟨x1,x2⟩:=x;obtain⟨y1,y2⟩:=y;repeat' (first|with_reducible apply zJ<;>intro _|simp(disch:=omega) only[go_sem, *,h2,h3,h5,b2,b3,ar,hx,hy,dK.d])
    ·rename_i mg;rw[aD oM];exact⟨rfl,sZ hx hy tC (by simpa using mg)⟩
    ·rename_i mg;refine ab (congrArg D.bool (decide_eq_false fun e=>vO hx hy (fun h=>?_) (by injection e)).symm);injection h
     subst_vars
     simp at mg
   ·rintro σ bx ⟨h2,h3,h5,b2,b3,tC⟩;have ar:¬(d.length:Int)<(d.length:Int):=oM;rw[tL,e5,tL]at tC;simp(disch:=omega) only[go_sem,h2,h5,b2,ar];exact ab (congrArg D.bool (decide_eq_true (by rw[e1,e2,e3,hn,tC])).symm)
 all_goals
  refine ab (congrArg D.bool (decide_eq_false ?_).symm);intro e;injection e;simp_all
def QQ(x y:aE)(hx:x.parts.length<=140737488355328/\x.aM.length<=140737488355328)(hy:y.parts.length<=140737488355328/\y.aM.length<=140737488355328):ao prog 118 [x.d,y.d] (.bool (decide (x=y))):=aw mixed (QR x y hx hy) rfl aj rfl
def TS(x y:aS)(hx:Sz x)(hy:Sz y):qh prog (cJ prog) [] f68 [x.d,y.d] (.bool (decide (x=y))):=by
 refine ax _ [.tmp 4] _ rfl rfl rfl aj ?_;have hq:=Gx x.au y.au hx.au hy.au;simp only[strs]at hq;obtain⟨a,b,c,d,e,f⟩:=x;obtain⟨a',b',c',d',e',f'⟩:=y;obtain⟨u1,u2,u3,u4,u5⟩:=hx;obtain⟨v1,v2,v3,v4,v5⟩:=hy;simp only at hq u1 u2 u3 u4 u5 v1 v2 v3 v4 v5;repeat' (first|with_reducible apply zJ<;>intro _|with_reducible refine cb (hq) sG ?_|with_reducible refine cd (hq) sG ?_|simp(disch:=omega) only[go_sem, *,aS.d,strs])
 case refine_1.refine_1.refine_1.refine_1.refine_1.refine_1=>
  rename_i e1 e2 e3 e4 e5 e6;have e5:e.length=e'.length:=oM;have e6:f.length=f'.length:=oM;refine bo e.length (fun k σ bx=>σ 2= .loc 2 1 0 0/\σ 3= .loc 3 1 0 0/\σ 5= .int .i64 k/\bx 2=⟨1,1,6,81,[.agg [.str a,.sl 1 (b.map D.str),.str c,.int .i64 d,.sl 5 (e.map Entry.d),.sl 5 (f.map aE.d)]]⟩/\bx 3=⟨1,1,6,81,[.agg [.str a',.sl 1 (b'.map D.str),.str c',.int .i64 d',.sl 5 (e'.map Entry.d),.sl 5 (f'.map aE.d)]]⟩/\e.take k=e'.take k) ?_ ?_ ?_
  ·simp[go_sem,ak,Bx.none]
  ·rintro k σ bx hk ⟨h2,h3,h5,b2,b3,hn⟩;obtain⟨x,hx⟩:=ba hk;obtain⟨y,hy⟩:=ba (show k<e'.length by omega);have ar:(k:Int)<(e.length:Int):=oM;have hc:=QO x y (u4 x (mG hx)) (v4 y (mG hy));have fY:x.d= .agg [.str x.text,.str x.cat,.int .i64 x.no,strs x.aM,.int .i64 x.cost]:=rfl;have oH:y.d= .agg [.str y.text,.str y.cat,.int .i64 y.no,strs y.aM,.int .i64 y.cost]:=rfl;rw[fY,oH]at hc;simp only[strs]at fY oH hc;simp(disch:=omega) only[go_sem,h2,h3,h5,b2,b3,ar,hx,hy,fY,oH];refine av hc sG ?_;simp(disch:=omega) only[go_sem];refine bg (fun hv=>?_) (fun hv=>?_)
   ·simp(disch:=omega) only[go_sem,h2,h3,h5,b2,b3];rw[aD oM];exact⟨rfl,sZ hx hy hn hv⟩
   ·simp(disch:=omega) only[go_sem];exact ab (congrArg D.bool (decide_eq_false fun e=>vO hx hy hv (by injection e)).symm)
  ·rintro σ bx ⟨h2,h3,h5,b2,b3,hn⟩;have ar:¬(e.length:Int)<(e.length:Int):=oM;rw[tL,e5,tL]at hn;simp(disch:=omega) only[go_sem,h2,h5,b2,ar];refine bo f.length (fun k σ bx=>σ 2= .loc 2 1 0 0/\σ 3= .loc 3 1 0 0/\σ 6= .int .i64 k/\bx 2=⟨1,1,6,81,[.agg [.str a,.sl 1 (b.map D.str),.str c,.int .i64 d,.sl 5 (e.map Entry.d),.sl 5 (f.map aE.d)]]⟩/\bx 3=⟨1,1,6,81,[.agg [.str a',.sl 1 (b'.map D.str),.str c',.int .i64 d',.sl 5 (e'.map Entry.d),.sl 5 (f'.map aE.d)]]⟩/\f.take k=f'.take k) ?_ ?_ ?_
   ·simp[go_sem,ak,h2,h3,b2,b3]
   ·rintro k σ bx hk ⟨h2,h3,h5,b2,b3,tC⟩;obtain⟨x,hx⟩:=ba hk;obtain⟨y,hy⟩:=ba (show k<f'.length by omega);have ar:(k:Int)<(f.length:Int):=oM;have hc:=QQ x y (u5 x (mG hx)) (v5 y (mG hy));have fY:x.d= .agg [.str x.cat,.int .i64 x.no,.sl 3 (x.parts.map Part.d),.sl 2 (x.aM.map dK.d),.int .i64 x.cost]:=rfl;have oH:y.d= .agg [.str y.cat,.int .i64 y.no,.sl 3 (y.parts.map Part.d),.sl 2 (y.aM.map dK.d),.int .i64 y.cost]:=rfl;rw[fY,oH]at hc;simp(disch:=omega) only[go_sem,h2,h3,h5,b2,b3,ar,hx,hy,fY,oH];refine av hc (by simp[D.aF,D.pure]) ?_;simp(disch:=omega) only[go_sem];refine bg (fun hv=>?_) (fun hv=>?_)
    ·simp(disch:=omega) only[go_sem,h2,h3,h5,b2,b3];rw[aD oM];exact⟨rfl,sZ hx hy tC hv⟩
    ·simp(disch:=omega) only[go_sem];exact ab (congrArg D.bool (decide_eq_false fun e=>vO hx hy hv (by injection e)).symm)
   ·rintro σ bx ⟨h2,h3,h5,b2,b3,tC⟩;have ar:¬(f.length:Int)<(f.length:Int):=oM;rw[tL,e6,tL]at tC;simp(disch:=omega) only[go_sem,h2,h5,b2,ar];exact ab (congrArg D.bool (decide_eq_true (by rw[e1,e2,e3,e4,hn,tC])).symm)
 all_goals
  refine ab (congrArg D.bool (decide_eq_false ?_).symm);intro e;injection e;simp_all
def Ko(x y:aS)(hx:Sz x)(hy:Sz y):ao prog 68 [x.d,y.d] (.bool (decide (x=y))):=aw mixed (TS x y hx hy) rfl aj rfl
def Ba(x:Entry):Bool:=decide (x.aM.length<=10)
def yh(x:aE):Bool:=decide (x.parts.length<=10)&&decide (x.aM.length<=20)
def Ji(g:aS):Prop:=40<g.au.length\/(40<g.entries.length/\g.entries.length<=512)\/600<g.entries.length\/(20<g.rules.length/\g.rules.length<=128)\/200<g.rules.length
instance(g:aS):Decidable (Ji g):=by unfold Ji;infer_instance
def tp(g:aS):Bool:= !decide (Ji g)&&(g.entries.all Ba&&g.rules.all yh)
def Zh(g:aS):qh prog (cJ prog) [] f30 [g.d] (.bool (tp g)):=by
 refine ax _ [.tmp 2] _ rfl rfl rfl aj ?_;have cX:g.d= .agg [.str g.name,strs g.au,.str g.start,.int .i64 g.no,.sl 5 (g.entries.map Entry.d),.sl 5 (g.rules.map aE.d)]:=rfl;rw[cX];by_cases wC:Ji g
 ·have hf:tp g=false:=by unfold tp;rw[decide_eq_true wC];rfl
  rw[hf];unfold Ji at wC;repeat' (first|with_reducible apply zJ<;>intro _|simp(disch:=omega) only[go_sem, *,strs])
  all_goals first
   |exact .refl _
   |(exfalso;omega)
 ·have hf:tp g=(g.entries.all Ba&&g.rules.all yh):=by unfold tp;rw[decide_eq_false wC];rfl
  rw[hf];unfold Ji at wC;repeat' (first|with_reducible apply zJ<;>intro _|simp(disch:=omega) only[go_sem, *,strs])
  all_goals first
   |(exfalso;omega)
   |skip
  all_goals
   refine bo g.entries.length (fun k σ bx=>σ 1= .loc 1 1 0 0/\σ 3= .int .i64 k/\bx 1=⟨1,1,6,81,[.agg [.str g.name,.sl 1 (g.au.map D.str),.str g.start,.int .i64 g.no,.sl 5 (g.entries.map Entry.d),.sl 5 (g.rules.map aE.d)]]⟩/\(g.entries.take k).all Ba=true) ?_ ?_ ?_
   ·simp[go_sem,ak,Bx.none]
   ·rintro k σ bx hk ⟨h1,h3,b1,hn⟩;obtain⟨x,hx⟩:=ba hk;have ar:(k:Int)<(g.entries.length:Int):=oM;have fY:x.d= .agg [.str x.text,.str x.cat,.int .i64 x.no,.sl 1 (x.aM.map D.str),.int .i64 x.cost]:=rfl;simp(disch:=omega) only[go_sem,h1,h3,b1,ar,hx,fY];refine bg (fun hv=>?_) (fun hv=>?_)
    ·simp(disch:=omega) only[go_sem];rw[pE Ba hx (by simp[Ba];omega)];exact .refl _
    ·simp(disch:=omega) only[go_sem,h1,h3,b1];rw[aD oM];exact⟨rfl,lZ Ba hx hn (by simp[Ba];omega)⟩
   ·rintro σ bx ⟨h1,h3,b1,hn⟩;have ar:¬(g.entries.length:Int)<(g.entries.length:Int):=oM;rw[tL]at hn;rw[hn,Bool.true_and];simp(disch:=omega) only[go_sem,h1,h3,b1,ar];refine bo g.rules.length (fun k σ bx=>σ 1= .loc 1 1 0 0/\σ 4= .int .i64 k/\bx 1=⟨1,1,6,81,[.agg [.str g.name,.sl 1 (g.au.map D.str),.str g.start,.int .i64 g.no,.sl 5 (g.entries.map Entry.d),.sl 5 (g.rules.map aE.d)]]⟩/\(g.rules.take k).all yh=true) ?_ ?_ ?_
    ·simp[go_sem,ak,h1,b1]
    ·rintro k σ bx hk ⟨h1,h3,b1,hn⟩;obtain⟨x,hx⟩:=ba hk;have ar:(k:Int)<(g.rules.length:Int):=oM;have fY:x.d= .agg [.str x.cat,.int .i64 x.no,.sl 3 (x.parts.map Part.d),.sl 2 (x.aM.map dK.d),.int .i64 x.cost]:=rfl;repeat' (first|with_reducible apply zJ<;>intro _|simp(disch:=omega) only[go_sem, *,h1,h3,b1,ar,hx,fY])
     all_goals first
      |(rw[pE yh hx (by simp only[yh,Bool.and_eq_false_iff,decide_eq_false_iff_not];omega)];exact .refl _)
      |(rw[aD oM];exact⟨rfl,lZ yh hx hn (by simp only[yh,bA,decide_eq_true_eq];omega)⟩)
    ·rintro σ bx ⟨h1,h3,b1,hn⟩;have ar:¬(g.rules.length:Int)<(g.rules.length:Int):=oM;rw[tL]at hn;rw[hn];simp(disch:=omega) only[go_sem,h1,h3,b1,ar];exact .refl _
def Zg(g:aS)(h:Sz g)(hn:g.name.length<=140737488355328)(hs:g.start.length<=140737488355328):ao prog 30 [g.d] (.bool (tp g)):=aw mixed (Zh g) rfl aj rfl
end Go.V.Ty
namespace Go.V.Ty
open Go.Proofs Go.RowKit Go.V.Lx Go.V.Gr
def i1:((1:Nat):Int)=1:=rfl
def i2:((2:Nat):Int)=2:=rfl
def i3:((3:Nat):Int)=3:=rfl
mutual
theorem ze(bx:ae):∀d:D,d.pure=true->bz bx d=some d/\names d=[]
 | .loc ..,h| .bE ..,h| .fH ..,h| .omap ..,h=>by cases h
 | .agg ds,h=>by have:=lQ bx ds h;simp[bz,names,this]
 | .aL ds,h=>by have:=lQ bx ds h;simp[bz,names,this]
 | .fn f ds,h=>by have:=lQ bx ds h;simp[bz,names,this]
 | .iw f ds,h=>by have:=lQ bx ds h;simp[bz,names,this]
 | .dB t d,h=>by have:=ze bx d h;simp[bz,names,this]
 | .undef,_| .int ..,_| .bool _,_| .str _,_| .raw _,_| .aq,_| .sl ..,_| .g_ ..,_| .cA ..,_| .any _,_| .fI,_| .gZ,_=>⟨by simp[bz],by simp[names]⟩
theorem lQ(bx:ae):∀ds:List D,D.aF ds=true->dn bx ds=some ds/\bH ds=[]
 |[],_=>⟨by simp[dn],by simp[bH]⟩
 |d::ds,h=>by
  simp only[D.aF,bA]at h;have h1:=ze bx d h.1;have h2:=lQ bx ds h.2;exact⟨by rw[dY,h1.1,h2.1];rfl,by simp[bH,h1.2,h2.2]⟩
end
theorem Bp{bx:ae}{d d':D}(hd:bz bx d=some d'):∀(l l':List D),dn bx l=some l'->dn bx (l++[d])=some (l'++[d'])
 |[],l',h=>by simp only[o0,sJ]at h;subst h;rw[List.nil_append,dY,hd,o0];rfl
 |x::l,l',h=>by
  rw[dY]at h;obtain⟨y,ys,h1,h2,rfl⟩:=pb h;rw[List.cons_append,dY,h1,Bp hd l ys h2];rfl
theorem y5:∀(l m:List D),bH (l++m)=bH l++bH m
 |[],m=>rfl
 |x::l,m=>by simp only[List.cons_append,bH,y5 l m,List.append_assoc]
theorem Fk:∀(l m:List D),D.aF (l++m)=(D.aF l&&D.aF m)
 |[],m=>by simp[D.aF]
 |x::l,m=>by simp only[List.cons_append,D.aF,Fk l m,Bool.and_assoc]
structure vg(l m:List D):Prop where
 len:l.length=m.length
 cells:∀(i:Nat) x x',l[i]? =some x->m[i]? =some x'->x.cells.length=x'.cells.length
 ve:∀(i:Nat) x x' (j:Nat) c c',l[i]? =some x->m[i]? =some x'->x.cells[j]? =some c->x'.cells[j]? =some c'->bN c c'
theorem vg.sl{l m:List D}(h:vg l m)(sz:Nat):bN (.sl sz l) (.sl sz m):=.sl h.len h.cells h.ve
theorem vg.nil:vg [] []:=⟨rfl,by simp,by simp⟩
theorem vg.snoc{l m:List D}{d d':D}(h:vg l m)(h1:d.cells.length=d'.cells.length)(h2:∀(j:Nat) c c',d.cells[j]? =some c->d'.cells[j]? =some c'->bN c c'):vg (l++[d]) (m++[d']):=by
 have hl:=h.len;have at_:∀(i:Nat) x x',(l++[d])[i]? =some x->(m++[d'])[i]? =some x'->(l[i]? =some x/\m[i]? =some x')\/(x=d/\x'=d'):=by
  intro i x x' hx dJ;by_cases hi:i<l.length
  ·rw[List.getElem?_append_left hi]at hx;rw[List.getElem?_append_left oM]at dJ;exact .inl ⟨hx,dJ⟩
  ·have:i=l.length:=by
    have:=(gS.1 hx).1;simp at this;omega
   subst this;rw[List.getElem?_append_right oM]at hx;rw[List.getElem?_append_right oM,hl]at dJ;simp at hx dJ;exact .inr ⟨hx.symm,dJ.symm⟩
 refine⟨by simp[hl],fun i x x' hx dJ=>?_,fun i x x' j c c' hx dJ hc fO=>?_⟩
 ·rcases at_ i x x' hx dJ with⟨g1,g2⟩|⟨rfl,rfl⟩
  ·exact h.cells i x x' g1 g2
  ·exact h1
 ·rcases at_ i x x' hx dJ with⟨g1,g2⟩|⟨rfl,rfl⟩
  ·exact h.ve i x x' j c c' g1 g2 hc fO
  ·exact h2 j c c' hc fO
def uh(s t el:Nat)(x:D)(m:List D)(bx:ae):Prop:=
 (x= .aq/\m=[])\/∃e es l,x= .bE s e 5 0 es.length/\bx s=⟨e,1,5,el,es⟩/\dn bx es=some l/\vg l m/\D.aF l=true/\∀q∈bH es,q=t
theorem uh.len{s t el:Nat}{x:D}{m:List D}{bx:ae}(h:uh s t el x m bx):x.cells=[x]/\x.one=true/\∀c,fi x 0 [c]=some c:=by rcases h with⟨rfl,rfl⟩|⟨e,es,l,rfl,h⟩<;>exact⟨rfl,rfl,fun c=>by simp[fi,D.cells]⟩
theorem uh.eO{s t el:Nat}{x:D}{m:List D}{bx:ae}(h:uh s t el x m bx)(bw:s≠t):
 ∃bx0,(bx0=bx\/∃l,(bx s).k=1/\dn bx (bx s).es=some l/\bx0=Go.V.eO bx s l)/\(∀q,q≠s->q≠t->bx0 q=bx q)/\∃l,aX bx0 [s] el 5 x l/\vg l m/\D.aF l=true:=by
 rcases h with⟨rfl,rfl⟩|⟨e,es,l,rfl,h1,h2,h3,h4,h5⟩
 ·exact⟨bx,.inl rfl,fun _ _ _=>rfl,[],.nil _ _ _ _,.nil,rfl⟩
 ·have hU:(bx s).es=es:=by rw[h1]
  have hf:dO bx es s=bx s:=by rw[fe,if_neg (fun hm=>bw (h5 _ hm))]
  refine⟨_,.inr ⟨l,by rw[h1],by rw[hU];exact h2,rfl⟩,fun q hq iK=>?_,l,.inr ⟨s,e,by simp,?_,?_⟩,h3,h4⟩
  ·unfold Go.V.eO;rw[hU,aB hq,fe,if_neg (fun hm=>iK (h5 _ hm))]
  ·rw[(tT _ _ h2).1]
  ·unfold Go.V.eO;rw[hU,eC,hf,h1]
theorem uh.add{s t el e:Nat}{l m:List D}{d d' dm:D}{bx:ae}(hw:vg l m)(hp:D.aF l=true)(hb:bx s=⟨e,1,5,el,l++[d]⟩)(hd:bz bx d=some d')(n_:d'.pure=true)(h1:d'.cells.length=dm.cells.length)
 (h2:∀(j:Nat) c c',d'.cells[j]? =some c->dm.cells[j]? =some c'->bN c c') (hn:∀q∈names d,q=t):uh s t el (.bE s e 5 0 (l++[d]).length) (m++[dm]) bx:=by
 obtain⟨o1,o2⟩:=lQ bx l hp;refine .inr ⟨e,_,_,rfl,hb,Bp hd _ _ o1,hw.snoc h1 h2,by rw[Fk,hp];simp[D.aF,n_],fun q hq=>?_⟩;rw[y5,o2]at hq;simp[bH]at hq;exact hn q hq
theorem aX.names{ts:List Nat}{bx:ae}{el esz:Nat}{x:D}{xs:List D}(h:aX bx ts el esz x xs):∀q∈Go.V.names x,q∈ts:=by
 rcases h with⟨rfl,_⟩|⟨t,e,ht,rfl,_⟩
 ·intro q hq;simp[Go.V.names]at hq
 ·intro q hq;simp[Go.V.names]at hq;subst hq;exact ht
def Bq{ts:List Nat}{bx:ae}{el esz:Nat}{x:D}{xs:List D}(h:aX bx ts el esz x xs)(hp:D.aF xs=true){m:List D}(hw:vg xs m):∃r,bz bx x=some r/\bN r (.sl esz m)/\r.pure=true:=by
 rcases h with⟨rfl,rfl⟩|⟨t,e,_,rfl,hb⟩
 ·have:m=[]:=List.eq_nil_of_length_eq_zero (by rw[<-hw.len];rfl);subst this;exact⟨_,wQ,.nil _,rfl⟩
 ·exact⟨_,by rw[lX,hb];exact eK _ _ _ _ _ _ (by decide) rfl hp,hw.sl _,rfl⟩
theorem vg.refl(l:List D):vg l l:=⟨rfl,fun i x x' h h'=>by rw[h]at h';injection h' with h';rw[h'],fun i x x' j c c' h h' hc fO=>by rw[h]at h';injection h' with h';subst h';rw[hc]at fO;injection fO with fO;subst fO;exact .refl _⟩
end Go.V.Ty
namespace Go.V.Ty
open Go.Proofs Go.RowKit Go.V.Lx Go.V.Gr
def Rr(n:Int)(x:Entry):Entry:={x with no:=n}
def YX(n:Int)(x:Part):Part:={x with no:=n}
def FJ(n:Int)(x:aE):aE:={x with no:=n,parts:=x.parts.map (YX n)}
def BW(g:aS)(n:Int):aS:={g with no:=n,entries:=g.entries.map (Rr n),rules:=g.rules.map (FJ n)}
def BJ{α β:Type}{f:α->β}{l:List α}{k:Nat}{x:α}(h:l[k]? =some x):(l.map f).take (k+1)=(l.map f).take k++[f x]:=by rw[List.take_add_one,gM,h];rfl
def M1{bx:ae}{t e esz ty:Nat}{d:D}(h:bx t=⟨e,1,esz,ty,[d]⟩):iJ bx esz (.bE t e esz 0 1)=some [d]:=by simp[iJ,h,lv]
def Is(g:aS)(n:Int):fj (BW g n)=fj g:=by
 have h1:(g.entries.map (Rr n)).map (p9 g.au)=g.entries.map (p9 g.au):=by rw[List.map_map];rfl
 have h2:(g.rules.map (FJ n)).map (kk g.au)=g.rules.map (kk g.au):=by
  rw[List.map_map];refine List.map_congr_left fun x _=>?_;simp only[Function.comp,kk,FJ,List.map_map]
  congr 1
 simp only[fj,BW,h1,h2]
def O3(g:aS)(n:Int):BW (fj g) n=BW g n:=by
 simp only[BW,fj,List.map_map]
 congr 1
 refine List.map_congr_left fun x _=>?_;simp only[Function.comp,FJ,kk,List.map_map]
 congr 1
def set_set(g:aS):fj (fj g)=fj g:=by rw[<-Is (fj g) 0,O3,Is]
theorem FZ{α:Type}(f:α->α)(p:α->α->Bool)(l:List α):mB p (l.map f) l=l.all fun x=>p (f x) x:=by
 have:∀l:List α,((l.map f).zip l).all (fun q=>p q.1 q.2)=l.all fun x=>p (f x) x:=by
  intro l;induction l with
  |nil=>rfl
  |cons x l ih=>simp only[mC,List.zip_cons_cons,List.all_cons,ih]
 rw[mB,this];simp
def MP{g:aS}(h:(c_ g).2=0):(jK g=0<->fj g=g)/\(jK g=0\/jK g=260):=by
 have hr:=xd h;have NA:jK g=if decide ((fj g).no=g.no)&&(mB (fun x y=>decide (x.no=y.no)) (fj g).entries g.entries&&mB (fun x y=>decide (x.no=y.no)&&decide (x.parts=y.parts)) (fj g).rules g.rules)then 0 else 260:=by rw[jK,if_neg (by simp[h]),hr]
 refine⟨?_,by rw[NA];split<;>simp⟩;rw[NA,show(fj g).entries=g.entries.map (p9 g.au)from rfl,show(fj g).rules=g.rules.map (kk g.au)from rfl,FZ,FZ];constructor
 ·intro hc;split at hc
  ·rename_i h1;simp only[bA,decide_eq_true_eq,List.all_eq_true]at h1;obtain⟨h1,h2,h3⟩:=h1;have e1:g.entries.map (p9 g.au)=g.entries:=by
    conv=>rhs;rw[<-List.map_id g.entries]
    refine List.map_congr_left fun x hx=>?_;have:=h2 x hx;obtain⟨a,b,c,d,e⟩:=x;simp only[p9,id]at this⊢;rw[this]
   have e2:g.rules.map (kk g.au)=g.rules:=by
    conv=>rhs;rw[<-List.map_id g.rules]
    refine List.map_congr_left fun x hx=>?_;have:=h3 x hx;obtain⟨a,b,c,d,e⟩:=x;simp only[kk,id]at this⊢;rw[this.1,this.2]
   obtain⟨a,b,c,d,e,f⟩:=g;simp only[fj]at h1 e1 e2⊢;rw[h1,e1,e2]
  ·cases hc
 ·intro hs;rw[if_pos];simp only[bA,decide_eq_true_eq,List.all_eq_true];refine⟨by rw[hs],fun x hx=>?_,fun x hx=>?_⟩
  ·have e1:g.entries.map (p9 g.au)=g.entries:=congrArg aS.entries hs;obtain⟨i,hi⟩:=List.mem_iff_getElem?.1 hx;have:=congrArg (·[i]?) e1;simp only[gM,hi,Option.map_some,sJ]at this;rw[this]
  ·have e1:g.rules.map (kk g.au)=g.rules:=congrArg aS.rules hs;obtain⟨i,hi⟩:=List.mem_iff_getElem?.1 hx;have:=congrArg (·[i]?) e1;simp only[gM,hi,Option.map_some,sJ]at this;rw[this];exact⟨rfl,rfl⟩
def O9{g:aS}(h:(c_ g).2≠0):jK g=(c_ g).2:=by rw[jK,if_pos h]
theorem mK.sz{g:aS}(h:mK g):Sz g:=⟨h.A7,h.A_,h.zq,fun x hx=>(h.en x hx).len,fun x hx=>⟨(h.rules x hx).wV,(h.rules x hx).KY⟩⟩
def TW{g:aS}(h:mK g):mK (fj g):=by
 refine⟨h.name,h.start,h.A7,by simpa[fj]using h.A_,by simpa[fj]using h.zq,h.au,fun x hx=>?_,fun x hx=>?_⟩
 ·obtain⟨y,hy,rfl⟩:=List.mem_map.1 hx;exact⟨(h.en y hy).text,(h.en y hy).cat,(h.en y hy).len,(h.en y hy).aM⟩
 ·obtain⟨y,hy,rfl⟩:=List.mem_map.1 hx;refine⟨(h.rules y hy).cat,by simpa[kk]using(h.rules y hy).wV,(h.rules y hy).KY,fun q hq=>?_,(h.rules y hy).aM⟩;obtain⟨r,hr,rfl⟩:=List.mem_map.1 hq;exact⟨((h.rules y hy).parts r hr).text,((h.rules y hy).parts r hr).cat⟩
def pg(g:aS):D.aF [g.d]=true:=by simp[D.aF,kM]
def pg2(g h:aS):D.aF [g.d,h.d]=true:=by simp[D.aF,kM]
theorem qD{α:Type}{es:List D}{f:α->D}{p:α->Prop}(h:∀x∈es,∃a,x=f a/\p a):∃l:List α,es=l.map f/\∀x∈l,p x:=by
 induction es with
 |nil=>exact⟨[],rfl,fun x hx=>by cases hx⟩
 |cons x es ih=>
  obtain⟨a,rfl,ha⟩:=h x sI;obtain⟨l,rfl,hl⟩:=ih fun y hy=>h y (by simp[hy]);exact⟨a::l,rfl,fun y hy=>by
   rcases List.mem_cons.1 hy with rfl|hy
   ·exact ha
   ·exact hl y hy⟩
def fV{n:Nat}(h:n<=reachBytes):n<=140737488355328:=by unfold reachBytes at h;show n<=140737488355328;omega
def t_:Sh:=.slice 1 .str
def pA:Sh:=.slice 1 (.int .u8)
def Dj:Sh:=.agg [.str,.int .i64,.str]
def Di:Sh:=.agg [.int .i64,.str]
def Ab:Sh:=.agg [.str,.str,.int .i64,t_,.int .i64]
def Dk:Sh:=.agg [.str,.int .i64,.slice 3 Dj,.slice 2 Di,.int .i64]
def zu:Sh:=.agg [.str,t_,.str,.int .i64,.slice 5 Ab,.slice 5 Dk]
def tt{ys:List D}(h:t_.b_ ys):∃l:List ah,ys=[strs l]/\l.length<=140737488355328/\∀s∈l,s.length<=140737488355328:=by
 simp only[t_,Sh.b_]at h;obtain⟨es,rfl,hl,h⟩:=h;obtain⟨l,rfl,hp⟩:=qD (f:=D.str) (p:=fun s=>s.length<=140737488355328) (es:=es) fun x hx=>by
  obtain⟨zs,rfl,s,rfl,hs⟩:=h x hx;exact⟨s,rfl,fV hs⟩
 exact⟨l,rfl,by rw[List.length_map]at hl;exact fV hl,hp⟩
def P1{ys:List D}(h:Dj.b_ ys):∃x:Part,Dj.pack ys=x.d/\Mr x:=by
 simp only[Dj,Sh.b_,Sh.il]at h;obtain⟨a,b,rfl,⟨m,rfl,h1⟩,c,e,rfl,⟨s,rfl,_⟩,c2,e2,rfl,⟨n,rfl,h2⟩,rfl⟩:=h;exact⟨⟨m,s,n⟩,rfl,fV h2,fV h1⟩
def PX{ys:List D}(h:Di.b_ ys):∃x:dK,Di.pack ys=x.d/\small x.text:=by
 simp only[Di,Sh.b_,Sh.il]at h;obtain⟨a,b,rfl,⟨m,rfl,h1⟩,c,e,rfl,⟨s,rfl,h2⟩,rfl⟩:=h;exact⟨⟨m,s⟩,rfl,fV h2⟩
def Nr{ys:List D}(h:Ab.b_ ys):∃x:Entry,Ab.pack ys=x.d/\Mq x:=by
 simp only[Ab,Sh.b_,Sh.il]at h;obtain⟨a,b,rfl,⟨t,rfl,h1⟩,c,e,rfl,⟨s,rfl,h2⟩,c2,e2,rfl,⟨n,rfl,_⟩,c3,e3,rfl,h3,c4,e4,rfl,⟨k,rfl,_⟩,rfl⟩:=h;obtain⟨l,rfl,hl,hp⟩:=tt h3;exact⟨⟨t,s,n,l,k⟩,rfl,fV h1,fV h2,hl,hp⟩
def P4{ys:List D}(h:Dk.b_ ys):∃x:aE,Dk.pack ys=x.d/\Jk x:=by
 simp only[Dk,Sh.b_,Sh.il]at h;obtain⟨a,b,rfl,⟨t,rfl,h1⟩,c,e,rfl,⟨s,rfl,_⟩,c2,e2,rfl,⟨ps,rfl,oD,h2⟩,c3,e3,rfl,⟨gs,rfl,Ay,h3⟩,c4,e4,rfl,⟨k,rfl,_⟩,rfl⟩:=h;obtain⟨l,rfl,hp⟩:=qD (f:=Part.d) (p:=Mr) (es:=ps) fun x hx=>by
  obtain⟨zs,rfl,hz⟩:=h2 x hx;exact P1 hz
 obtain⟨m,rfl,hq⟩:=qD (f:=dK.d) (p:=fun x=>small x.text) (es:=gs) fun x hx=>by
  obtain⟨zs,rfl,hz⟩:=h3 x hx;exact PX hz
 rw[List.length_map]at oD Ay;exact⟨⟨t,s,l,m,k⟩,rfl,fV h1,fV oD,fV Ay,hp,hq⟩
def PY{d:D}(h:zu.has d):∃g:aS,d=g.d/\mK g:=by
 obtain⟨ys,rfl,h⟩:=h;simp only[zu,Sh.b_,Sh.il]at h;obtain⟨a,b,rfl,⟨t,rfl,h1⟩,c,e,rfl,h2,c2,e2,rfl,⟨s,rfl,h3⟩,c3,e3,rfl,⟨n,rfl,_⟩,c4,e4,rfl,⟨es,rfl,eF,h4⟩,c5,e5,rfl,⟨rs,rfl,tF,h5⟩,rfl⟩:=h;obtain⟨l,rfl,hl,hp⟩:=tt h2;obtain⟨m,rfl,hm⟩:=qD (f:=Entry.d) (p:=Mq) (es:=es) fun x hx=>by
  obtain⟨zs,rfl,hz⟩:=h4 x hx;exact Nr hz
 obtain⟨k,rfl,hk⟩:=qD (f:=aE.d) (p:=Jk) (es:=rs) fun x hx=>by
  obtain⟨zs,rfl,hz⟩:=h5 x hx;exact P4 hz
 rw[List.length_map]at eF tF;exact⟨⟨t,l,s,n,m,k⟩,rfl,fV h1,fV h3,hl,fV eF,fV tF,hp,hm,hk⟩
def PZ{d:D}(h:(Sh.int .i64).has d):∃n,d= .int .i64 n:=by
 obtain⟨ys,rfl,h⟩:=h;simp only[Sh.b_]at h;obtain⟨n,rfl,_⟩:=h;exact⟨n,rfl⟩
structure Typed(g:aS):Prop where
 start:g.au.contains g.start=true
 ent:∀x∈g.entries,g.au.contains x.cat=true
 XE:∀x∈g.rules,g.au.contains x.cat=true
 part:∀x∈g.rules,∀q∈x.parts,q.text=[]->g.au.contains q.cat=true
def Q_{g:aS}(h:gC g.au.contains g=true):Typed g:=by
 simp only[gC,bA,List.all_eq_true]at h;obtain⟨h1,h2,h3,h4,h5,h6⟩:=h;refine⟨h4,fun x hx=>?_,fun x hx=>?_,fun x hx q hq ht=>?_⟩
 ·have:=h5 x hx;simp only[fD,bA]at this;exact this.2.1
 ·have:=h6 x hx;simp only[iY,bA]at this;exact this.1
 ·have:=h6 x hx;simp only[iY,bA,List.all_eq_true]at this;have:=this.2.2.2.2.1 q hq;simpa[mR,ht]using this
def Xb{l:List ah}{s:ah}(h:l.contains s=true):∃k:Nat,num l s=k/\l[k]? =some s:=by
 have hm:s∈l:=List.contains_iff_mem.1 h;have ar:=List.idxOf_lt_length_of_mem hm;exact⟨l.idxOf s,by simp only[num,h,if_true],by rw[gE ar,List.getElem_idxOf]⟩
end Go.V.Ty
