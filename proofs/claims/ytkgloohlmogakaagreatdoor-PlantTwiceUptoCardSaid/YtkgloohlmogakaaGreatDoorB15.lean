/- Types: Resolve. -/
import Derived.Test.YtkgloohlmogakaaGreatDoorB14
set_option linter.unusedSimpArgs false
set_option linter.unusedVariables false
set_option maxRecDepth 100000
namespace Go.V.Ty
open Go.Proofs Go.RowKit Go.V.Lx Go.V.Gr
set_option maxHeartbeats 1000000
def lA(l:List ah)(x:Entry):Entry:={x with no:=num l x.cat}
def oA(l:List ah)(q:Part):Part:={q with no:=if q.text=[]then num l q.cat else 0}
def gz(l:List ah)(x:aC):aC:={x with no:=num l x.cat,parts:=x.parts.map (oA l)}
def dA(g:aO):aO:={g with no:=num g.cats g.start,entries:=g.entries.map (lA g.cats),rules:=g.rules.map (gz g.cats)}
def bX(g:aO):aO×Int:=
 if 32<g.cats.length\/512<g.entries.length\/128<g.rules.length then(.zero,2)
 else if ¬g.cats.Nodup\/eA g.cats.contains g=false then(.zero,260)
 else if kZ g=true then(.zero,261)else(dA g,0)
def kB(p:aO×Int):D:=.tup [p.1.d,.int .i64 p.2]
def ik:D:=.agg [.str [],.nilsl,.str [],.int .i64 0,.nilsl,.nilsl]
def KW(p:aO×Int)(d:D)(bx:ae):Prop:=∃r,bf bx d=some r/\bk r (kB p)
theorem sT{a b c d f k a' b' c' d' f' k':D}(h1:bk a a')(h2:bk b b')(h3:bk c c')(h4:bk d d')(h5:bk f f')(h6:bk k k'):bk (.agg [a,b,c,d,f,k]) (.agg [a',b',c',d',f',k']):=by
 refine .agg rfl fun i x x' hx hx'=>?_
 match i with
 |0=>simp at hx hx';subst hx;subst hx';exact h1
 |1=>simp at hx hx';subst hx;subst hx';exact h2
 |2=>simp at hx hx';subst hx;subst hx';exact h3
 |3=>simp at hx hx';subst hx;subst hx';exact h4
 |4=>simp at hx hx';subst hx;subst hx';exact h5
 |5=>simp at hx hx';subst hx;subst hx';exact h6
 |i+6=>simp at hx
theorem f_(n:Int)(bx:ae):KW (.zero,n) (.tup [ik,.int .i64 n]) bx:=by
 refine⟨.tup [ik,.int .i64 n],by simp[ik,go_sem],?_⟩;exact gV (sT (.refl _) (.nil _) (.refl _) (.refl _) (.nil _) (.nil _)) (.refl _)
theorem Dw{l:List ah}{j:Nat}{s:ah}(hs:l[j]? =some s){c:Int}{m:PM}(hm:((l.take j).Nodup/\c=j/\m=iV (l.zipIdx.take j))\/(¬l.Nodup/\m.length<j)):
 ∃m' c',jW .str (.str s) (.int .i64 j) c (cn m)=some (.int .i64 c'::cn m')/\(((l.take (j+1)).Nodup/\c'=((j+1:Nat):Int)/\m'=iV (l.zipIdx.take (j+1)))\/(¬l.Nodup/\m'.length<j+1)):=by
 have htk:l.take (j+1)=l.take j++[s]:=by rw[List.take_add_one,hs];rfl
 rcases hm with⟨h1,rfl,rfl⟩|⟨h1,h2⟩
 ·have hkeys:(iV (l.zipIdx.take j)).map (·.1)=l.take j:=by
   simp only[iV,List.map_map,Function.comp_def];rw[List.map_take,List.zipIdx_map_fst]
  have hlen:(iV (l.zipIdx.take j)).length<=j:=by simp[iV];omega
  by_cases hmem:s∈l.take j
  ·obtain⟨m',c',g1,g2,g3⟩:=Bi (iV (l.zipIdx.take j)) s (j:Int) (.int .i64 j);refine⟨m',c',g1,.inr ⟨fun hn=>?_,?_⟩⟩
   ·have:=hn.sublist (List.take_sublist (j+1) l);rw[htk,List.nodup_append]at this;exact this.2.2 s hmem s sI rfl
   ·have:=g3 (by rw[<-hkeys]at hmem;obtain⟨e,he,h⟩:=List.mem_map.1 hmem;exact⟨e,he,h⟩);omega
  ·refine⟨_,_,uJ ?_,.inl ⟨?_,by omega,?_⟩⟩
   ·intro e he h;exact hmem (by rw[<-hkeys];exact List.mem_map.2 ⟨e,he,h⟩)
   ·rw[htk,List.nodup_append];refine⟨h1,by simp,fun a ha b hb h=>?_⟩;simp at hb;subst hb;subst h;exact hmem ha
   ·rw[Bp hs];simp[iV]
 ·obtain⟨m',c',g1,g2,g3⟩:=Bi m s c (.int .i64 j);exact⟨m',c',g1,.inr ⟨h1,by omega⟩⟩
theorem c_.facts{B sz el:Nat}{l:List D}{bx bx':ae}{d:D}(h:c_ B sz el l bx d bx'):d.cells=[d]/\D.one d=true/\∀e z b ag,mO (.slice e z b ag) d=some l.length:=by
 rcases h.1 with⟨hl,h⟩|⟨_,e,h,h2⟩
 ·rcases h with⟨h,h2⟩|⟨t,e,h1,h,h2⟩<;>rw[h,hl]<;>exact⟨rfl,rfl,fun _ _ _ _=>rfl⟩
 ·rw[h];exact⟨rfl,rfl,fun _ _ _ _=>rfl⟩
def gA{α:Type}(f:α->α)(l:List α)(k:Nat):List α:=(l.take k).map f++l.drop k
theorem Bh{α:Type}(f:α->α)(l:List α):gA f l 0=l:=by simp[gA]
theorem uG{α:Type}(f:α->α)(l:List α):gA f l l.length=l.map f:=by simp[gA]
theorem gh{α:Type}(f:α->α)(l:List α)(k:Nat):(gA f l k).length=l.length:=by simp[gA];omega
theorem uH{α:Type}{f:α->α}{l:List α}{k:Nat}{x:α}(h:l[k]? =some x):(gA f l k)[k]? =some x:=by
 have hk:=(List.getElem?_eq_some_iff.1 h).1;rw[gA,List.getElem?_append_right (by simp;omega)];simp[Nat.min_eq_left (Nat.le_of_lt hk),h]
theorem Ix{α:Type}{f:α->α}{l:List α}{k:Nat}{x:α}(h:l[k]? =some x):(gA f l k).set k (f x)=gA f l (k+1):=by
 have hk:=(List.getElem?_eq_some_iff.1 h).1;have hx:=(List.getElem?_eq_some_iff.1 h).2;have e1:l.drop k=x::l.drop (k+1):=by rw[List.drop_eq_getElem_cons hk,hx]
 have e2:l.take (k+1)=l.take k++[x]:=by rw[List.take_add_one,h];rfl
 rw[gA,gA,e1,e2,List.set_append];simp[Nat.min_eq_left (Nat.le_of_lt hk)]
theorem uI{α:Type}{f:α->α}{d:α->D}{l:List α}{k:Nat}{x:α}(h:l[k]? =some x):((gA f l k).map d).set k (d (f x))=(gA f l (k+1)).map d:=by rw[<-Ix h,List.map_set]
def yW(eR:Nat)(l:List D)(bx:ae):Prop:=∃es,bx 327=⟨eR,1,5,142,es⟩/\cg bx es=some l/\∀t∈bq es,t=347
theorem mH(bx:ae):∀l:List aC,cg bx (l.map aC.d)=some (l.map aC.d)/\bq (l.map aC.d)=[]
 |[]=>⟨by simp[cg],rfl⟩
 |x::l=>by
  obtain⟨h1,h2⟩:=mH bx l;refine⟨?_,?_⟩
  ·rw[List.map_cons,cQ,h1];simp[aC.d,go_sem]
  ·simp[aC.d,names,bq,h2]
theorem CI{bx:ae}{d d':D}(hd:bf bx d=some d'):∀(l l':List D) (k:Nat),cg bx l=some l'->cg bx (l.set k d)=some (l'.set k d')
 |[],l',k,h=>by simp only[kx,Option.some.injEq]at h;subst h;simp[cg]
 |x::l,l',0,h=>by
  rw[cQ]at h;obtain⟨y,ys,h1,h2,rfl⟩:=kJ h;rw[List.set_cons_zero,cQ,hd,h2];rfl
 |x::l,l',k+1,h=>by
  rw[cQ]at h;obtain⟨y,ys,h1,h2,rfl⟩:=kJ h;rw[List.set_cons_succ,cQ,h1,CI hd l ys k h2];rfl
theorem oZ{d:D}{t:Nat}:∀(l:List D) (k:Nat),t∈bq (l.set k d)->t∈bq l\/t∈names d
 |[],k,h=> .inl (by simpa using h)
 |x::l,0,h=>by
  simp only[List.set_cons_zero,bq,List.mem_append]at h⊢;exact h.elim .inr fun h=> .inl (.inr h)
 |x::l,k+1,h=>by
  simp only[List.set_cons_succ,bq,List.mem_append]at h⊢;rcases h with h|h
  ·exact .inl (.inl h)
  ·rcases oZ l k h with h|h
   ·exact .inl (.inr h)
   ·exact .inr h
theorem yW.of{eR:Nat}{l:List aC}{bx:ae}(h:bx 327=⟨eR,1,5,142,l.map aC.d⟩):yW eR (l.map aC.d) bx:=
 ⟨_,h,(mH bx l).1,by rw[(mH bx l).2];simp⟩
theorem yW.dF{eR:Nat}{l:List D}{bx:ae}(h:yW eR l bx):∃bx0,((bx 327).k=1/\cg bx (bx 327).es=some l/\bx0=Go.V.dF bx 327 l)/\bx0 327=⟨eR,1,5,142,l⟩/\∀s,s≠327->s≠347->bx0 s=bx s:=by
 obtain⟨es,h1,h2,h3⟩:=h;have h4:cv bx es 327=bx 327:=by rw[dI,if_neg (fun hm=>by have:=h3 _ hm;omega)]
 have h5:(bx 327).es=es:=by rw[h1]
 refine⟨_,⟨by rw[h1],by rw[h5];exact h2,rfl⟩,?_,fun s hs hs2=>?_⟩
 ·unfold Go.V.dF;rw[h5,cO,h4,h1]
 ·unfold Go.V.dF;rw[h5,aA hs,dI,if_neg];exact fun hm=>hs2 (h3 s hm)
theorem Ef{g:aO}{p:ah->Bool}(h:eA p g=true){x:aC}(hx:x∈g.rules):x.parts≠[]/\x.parts.length<=4:=by
 simp only[eA,Bool.and_eq_true,List.all_eq_true]at h;have:=h.2.2.2.2.2 x hx;simp only[ft,Bool.and_eq_true,dJ,decide_eq_true_eq]at this;have h2:=this.2.1;exact⟨fun e=>by rw[e]at h2;simp at h2,by omega⟩
theorem HH(l:List ah)(hn:l.Nodup)(s:ah):mW (some (.int .i64 0)) false (dt .str (.str s) (cn (iV l.zipIdx)) 0)=some (.int .i64 (num l s)):=by
 obtain⟨r,hr,⟨rfl,_,h⟩|⟨j,rfl,_⟩⟩:=IQ l hn s
 ·rw[hr,h];rfl
 ·rw[hr];rfl
theorem F9(g:aO)(hg:iZ g):iI Tryz.prog (bK Tryz.prog) [(2000016,[]),(2000026,[]),(16,[(7,5)]),(20,[(12,3)]),(26,[(11,7),(16,6),(12,6),(11,6)]),(32,[(14,3)])] Tryz.f172 0 [g.d] (fun _=> .none) (KW (bX g)) (fun _ _=>False):=by
 refine aH _ [.cell 2 81,.tmp 3] 164 rfl rfl rfl aj ?_;simp(disch:=omega) only[go_sem,aO.d,strs];by_cases hlim:32<g.cats.length\/512<g.entries.length\/128<g.rules.length
 ·have hr:bX g=(.zero,2):=by unfold bX;rw[if_pos hlim]
  rw[hr];by_cases l1:(32:Int)<(g.cats.length:Int)
  ·simp(disch:=omega) only[go_sem,l1,decide_true];exact f_ _ _
  by_cases l2:(512:Int)<(g.entries.length:Int)
  ·simp(disch:=omega) only[go_sem,l1,l2,decide_true,decide_false];exact f_ _ _
  have l3:(128:Int)<(g.rules.length:Int):=oM;simp(disch:=omega) only[go_sem,l1,l2,l3,decide_true,decide_false];exact f_ _ _
 ·have l1:¬(32:Int)<(g.cats.length:Int):=oM;have l2:¬(512:Int)<(g.entries.length:Int):=oM;have l3:¬(128:Int)<(g.rules.length:Int):=oM;simp(disch:=omega) only[go_sem,l1,l2,l3,decide_false];refine aX g.cats.length (fun j σ bx=>σ 1= .loc 1 1 0 0/\σ 2= .loc 2 1 0 0/\σ 4= .loc 4 1 0 0/\σ 31=strs g.cats/\σ 32= .int .i64 g.cats.length/\σ 33= .int .i64 j/\bx 1=⟨1,1,6,81,[g.d]⟩/\bx 2=⟨1,1,6,81,[ik]⟩/\bx 4=⟨1,1,1,307,[.omap 29 1]⟩/\
   ∃c m,bx 29=⟨1,3,0,307,.int .i64 c::cn m⟩/\(((g.cats.take j).Nodup/\c=j/\m=iV (g.cats.zipIdx.take j))\/(¬g.cats.Nodup/\m.length<j))) ?_ ?_ ?_
  ·simp(disch:=omega) only[go_sem,aO.d,strs,List.take_zero,ik];exact⟨0,[],rfl,.inl ⟨.nil,rfl,rfl⟩⟩
  ·rintro j σ bx hj ⟨q1,q2,q4,q31,q32,q33,b1,b2,b4,c,m,b29,hm⟩;obtain⟨s,hs⟩:=aP hj;have hlt:(j:Int)<(g.cats.length:Int):=oM;have hj1:IntKind.i64.wrap ((j:Int)+1)=((j+1:Nat):Int):=aK oM;obtain⟨m',c',hu,hm'⟩:∃m' c',jW .str (.str s) (.int .i64 j) c (cn m)=some (.int .i64 c'::cn m')/\(((g.cats.take (j+1)).Nodup/\c'=((j+1:Nat):Int)/\m'=iV (g.cats.zipIdx.take (j+1)))\/(¬g.cats.Nodup/\m'.length<j+1)):=Dw hs hm;simp(disch:=omega) only[go_sem,q1,q2,q4,q31,q32,q33,b1,b2,b4,b29,hlt,hs,strs,hu,hj1,dW];exact⟨c',m',rfl,hm'⟩
  ·rintro σ bx ⟨q1,q2,q4,q31,q32,q33,b1,b2,b4,c,m,b29,hm⟩;have hlt:¬(g.cats.length:Int)<(g.cats.length:Int):=oM;simp(disch:=omega) only[go_sem,q1,q2,q4,q31,q32,q33,b1,b2,b4,b29,hlt,strs,aO.d,zE];rcases hm with⟨hn,rfl,rfl⟩|⟨hn,h2⟩
   rotate_left
   ·have hr:bX g=(.zero,260):=by unfold bX;rw[if_neg hlim,if_pos (.inl hn)]
    have h3:¬((m.length:Int)=(g.cats.length:Int)):=oM;simp(disch:=omega) only[go_sem,h3,decide_false,Bool.not_false,q2,b2,ik];rw[hr];exact f_ _ _
   rw[List.take_length]at hn;have hz:g.cats.zipIdx.take g.cats.length=g.cats.zipIdx:=by rw[<-List.length_zipIdx (l:=g.cats) (i:=0),List.take_length]
   rw[hz]at b29⊢;have h3:(((iV g.cats.zipIdx).length:Nat):Int)=(g.cats.length:Int):=by simp[iV]
   simp(disch:=omega) only[go_sem,h3,decide_true,Bool.not_true,q1,q2,b1,b2,aO.d,strs];refine aB (Kx g hg bx (LD hn b4 b29) oM) rfl ?_;rintro d B ⟨rfl,hk⟩;have c1:=(hk 1 oM).trans b1;have c2:=(hk 2 oM).trans b2;have c4:=(hk 4 oM).trans b4;have c29:=(hk 29 oM).trans b29;cases ht:eA g.cats.contains g
   ·have hr:bX g=(.zero,260):=by unfold bX;rw[if_neg hlim,if_pos (.inr ht)]
    simp(disch:=omega) only[go_sem,ht,h3,decide_true,Bool.not_true,Bool.not_false,q2,c2,ik];rw[hr];exact f_ _ _
   simp(disch:=omega) only[go_sem,ht,h3,decide_true,Bool.not_true,q1,q2,c1,aO.d,strs];refine au (C9 g hg hn) (show D.aF [g.d]=true by simp[D.aF,gO]) ?_;cases hc:kZ g
   rotate_left
   ·have hr:bX g=(.zero,261):=by unfold bX;rw[if_neg hlim,if_neg (by simp[hn,ht]),if_pos hc]
    simp(disch:=omega) only[go_sem,hc,q2,c2,ik];rw[hr];exact f_ _ _
   have hr:bX g=(dA g,0):=by unfold bX;rw[if_neg hlim,if_neg (by simp[hn,ht]),if_neg (by simp[hc])]
   rw[hr];have hlook:=HH g.cats hn;simp(disch:=omega) only[go_sem,hc,q1,q2,q4,c1,c2,c4,c29,hlook,ik,aO.d,strs];refine fQ (.light 0 (.load 1 1 (.light 3 (.load 4 1 (.both 2 [1] (.light 6 (.both 5 [] (.both 7 [] (.light 8 (.both 9 [] .fin .stop)) .stop) .stop)) .stop))))) aj ?_;simp(disch:=omega) only[go_sem,hc,q1,q2,q4,c1,c2,c4,c29,ik,aO.d,strs];generalize hB1:ao (ao B 2 _) 2 _=B1;have d1:B1 1=⟨1,1,6,81,[g.d]⟩:=by rw[<-hB1];simp[ao,c1]
   have d2:B1 2=⟨1,1,6,81,[.agg [.str g.name,.sl 1 (g.cats.map D.str),.str g.start,.int .i64 (num g.cats g.start),.sl 5 (g.entries.map Entry.d),.sl 5 (g.rules.map aC.d)]]⟩:=by rw[<-hB1];simp[ao]
   have d4:B1 4=⟨1,1,1,307,[.omap 29 1]⟩:=by rw[<-hB1];simp[ao,c4]
   obtain⟨cl,d29⟩:∃c:Int,B1 29=⟨1,3,0,307,.int .i64 c::cn (iV g.cats.zipIdx)⟩:=⟨_,by rw[<-hB1];simp[ao,c29];rfl⟩
   clear hB1;refine aB (GP 300 g.entries oM B1) rfl ?_;rintro dE B2 ⟨hE,kE⟩;simp(disch:=omega) only[go_sem,kE 1 oM,aO.d,strs,q1,q2,d1,d2];refine aB (GQ 320 g.rules oM B2) rfl ?_;rintro dR B3 ⟨hR,kR⟩;have e1:=(kR 1 oM).trans ((kE 1 oM).trans d1);have e2:=(kR 2 oM).trans ((kE 2 oM).trans d2);have e4:=(kR 4 oM).trans ((kE 4 oM).trans d4);have e29:=(kR 29 oM).trans ((kE 29 oM).trans d29);obtain⟨f1,f2,f3⟩:=c_.facts ⟨hE,kE⟩;obtain⟨f4,f5,f6⟩:=c_.facts ⟨hR,kR⟩;rw[List.length_map]at f3 f6;simp(disch:=omega) only[go_sem,e2,q1,q2,f1,f2,f3,f4,f5,f6];generalize hB4:ao (ao B3 2 _) 2 _=B4;have keep4:∀s,s≠2->B4 s=B3 s:=fun s hs=>by rw[<-hB4];simp[ao,hs]
   have g2:B4 2=⟨1,1,6,81,[.agg [.str g.name,.sl 1 (g.cats.map D.str),.str g.start,.int .i64 (num g.cats g.start),dE,dR]]⟩:=by rw[<-hB4];simp[ao]
   clear hB4;obtain⟨eE,hdE⟩:∃eE,g.entries≠[]->dE= .osl 307 eE 5 0 g.entries.length/\B4 307=⟨eE,1,5,138,g.entries.map Entry.d⟩:=by
    by_cases he:g.entries=[]
    ·exact⟨0,fun h=>(h he).elim⟩
    ·obtain⟨e,h1,h2⟩:=c_.own ⟨hE,kE⟩ (by simpa using he);exact⟨e,fun _=>⟨by simpa using h1,(keep4 307 oM).trans ((kR 307 oM).trans h2)⟩⟩
   have hel:=hg.elen;refine aX g.entries.length (fun j σ bx=>σ 2= .loc 2 1 0 0/\σ 4= .loc 4 1 0 0/\σ 75= .int .i64 g.entries.length/\σ 76= .int .i64 j/\(∀s,s≠307->bx s=B4 s)/\(g.entries≠[]->bx 307=⟨eE,1,5,138,(gA (lA g.cats) g.entries j).map Entry.d⟩)) ?_ ?_ ?_
   ·simp(disch:=omega) only[go_sem,q2,q4,Bh];exact⟨fun _ _=>trivial,fun h=>(hdE h).2⟩
   ·rintro j σ bx hj ⟨q2,q4,q75,q76,hk,h307⟩;obtain⟨x,hx⟩:=aP hj;have hne:g.entries≠[]:=by rintro e;rw[e]at hj;simp at hj
    obtain⟨rfl,-⟩:=hdE hne;have b7:=h307 hne;have b2:=(hk 2 oM).trans g2;have b4:=(hk 4 oM).trans ((keep4 4 oM).trans e4);have b29:=(hk 29 oM).trans ((keep4 29 oM).trans e29);have hlt:(j:Int)<(g.entries.length:Int):=oM;have hj1:IntKind.i64.wrap ((j:Int)+1)=((j+1:Nat):Int):=aK oM;have hget:=uH (f:=lA g.cats) hx;have hset:=uI (f:=lA g.cats) (d:=Entry.d) hx;simp only[lA,Entry.d]at hset;simp(disch:=omega) only[go_sem,q2,q4,q75,q76,hlt,hj1,b2,b4,b29,b7,hget,gh,hlook,Entry.d,strs];refine⟨fun s hs=>by rw[if_neg hs];exact hk s hs,fun _=>?_⟩;rw[<-hset];try rfl
   ·rintro σ bx ⟨q2,q4,q75,q76,hk,h307⟩;have hlt:¬(g.entries.length:Int)<(g.entries.length:Int):=oM;have b2:=(hk 2 oM).trans g2;simp(disch:=omega) only[go_sem,q2,q4,q75,q76,hlt,b2,f1,f2,f3,f4,f5,f6];rw[uG]at h307;obtain⟨eR,hdR⟩:∃eR,g.rules≠[]->dR= .osl 327 eR 5 0 g.rules.length/\bx 327=⟨eR,1,5,142,g.rules.map aC.d⟩:=by
     by_cases he:g.rules=[]
     ·exact⟨0,fun h=>(h he).elim⟩
     ·obtain⟨e,h1,h2⟩:=c_.own ⟨hR,kR⟩ (by simpa using he);exact⟨e,fun _=>⟨by simpa using h1,(hk 327 oM).trans ((keep4 327 oM).trans h2)⟩⟩
    have hrl:=hg.rlen;generalize hB5:bx=B5 at *;refine B_ g.rules.length (fun j σ bx=>σ 2= .loc 2 1 0 0/\σ 4= .loc 4 1 0 0/\σ 95= .int .i64 g.rules.length/\σ 96= .int .i64 j/\(∀s,s≠327->s<340->bx s=B5 s)/\(g.rules≠[]->yW eR ((gA (gz g.cats) g.rules j).map aC.d) bx)) ?_ ?_ ?_
    ·simp(disch:=omega) only[go_sem,q2,q4,Bh];exact⟨fun _ _ _=>trivial,fun h=> .of (hdR h).2⟩
    ·rintro j σ bx hj ⟨q2,q4,q95,q96,hk5,hh⟩;obtain⟨x,hx⟩:=aP hj;have hne:g.rules≠[]:=by rintro e;rw[e]at hj;simp at hj
     obtain⟨rfl,-⟩:=hdR hne;obtain⟨bx0,hm,b27,hk0⟩:=(hh hne).dF;refine⟨bx0,.inr ⟨rfl,327,_,hm.1,hm.2.1,hm.2.2⟩,?_⟩;clear hm;have low:∀s,s≠307->s≠327->s<340->bx0 s=B4 s:=fun s h1 h2 h3=>(hk0 s h2 oM).trans ((hk5 s h2 h3).trans (hk s h1));have b2:=(low 2 oM oM oM).trans g2;have b4:=(low 4 oM oM oM).trans ((keep4 4 oM).trans e4);have b29:=(low 29 oM oM oM).trans ((keep4 29 oM).trans e29);have hlt:(j:Int)<(g.rules.length:Int):=oM;have hget:=uH (f:=gz g.cats) hx;have hpl:x.parts≠[]/\x.parts.length<=4:=Ef ht (List.mem_of_getElem? hx);have hpm:x.parts.map Part.d≠[]:=by simpa using hpl.1
     have hj1:IntKind.i64.wrap ((j:Int)+1)=((j+1:Nat):Int):=aK oM;simp(disch:=omega) only[go_sem,q2,q4,q95,q96,hlt,b2,b4,b27,hget,gh];refine ve (Q:=fun σ bx=>σ 2= .loc 2 1 0 0/\σ 4= .loc 4 1 0 0/\σ 10= .loc 327 eR j 0/\σ 95= .int .i64 g.rules.length/\σ 96= .int .i64 j/\∃eP,bx 327=⟨eR,1,5,142,((gA (gz g.cats) g.rules j).map aC.d).set j (.agg [.str x.cat,.int .i64 (num g.cats x.cat),.osl 347 eP 3 0 x.parts.length,.sl 2 (x.gives.map ct.d),.int .i64 x.cost])⟩/\bx 347=⟨eP,1,3,247,x.parts.map Part.d⟩/\∀s,s≠327->s<340->bx s=bx0 s) (fun _ _ h=>h) ?_ ?_
     ·rintro σ bx ⟨q2,q4,q10,q95,q96,eP,b27,b47,hkb⟩;have hz:=hpl.2;have hget2:(((gA (gz g.cats) g.rules j).map aC.d).set j (D.agg [.str x.cat,.int .i64 (num g.cats x.cat),.osl 347 eP 3 0 x.parts.length,.sl 2 (x.gives.map ct.d),.int .i64 x.cost]))[j]? =some (D.agg [.str x.cat,.int .i64 (num g.cats x.cat),.osl 347 eP 3 0 x.parts.length,.sl 2 (x.gives.map ct.d),.int .i64 x.cost]):=by rw[List.getElem?_set_self (by rw[List.length_map,gh];exact hj)]
      simp(disch:=omega) only[go_sem,q2,q4,q10,q95,q96,b27,b47,hget2];have hnum:num g.cats x.cat=(gz g.cats x).no:=rfl;refine aX x.parts.length (fun i σ bx=>σ 2= .loc 2 1 0 0/\σ 4= .loc 4 1 0 0/\σ 10= .loc 327 eR j 0/\σ 95= .int .i64 g.rules.length/\σ 96= .int .i64 j/\σ 124= .int .i64 x.parts.length/\σ 125= .int .i64 i/\bx 327=⟨eR,1,5,142,((gA (gz g.cats) g.rules j).map aC.d).set j (.agg [.str x.cat,.int .i64 (num g.cats x.cat),.osl 347 eP 3 0 x.parts.length,.sl 2 (x.gives.map ct.d),.int .i64 x.cost])⟩/\bx 347=⟨eP,1,3,247,(gA (oA g.cats) x.parts i).map Part.d⟩/\∀s,s≠327->s<340->bx s=bx0 s) ?_ ?_ ?_
      ·simp(disch:=omega) only[go_sem,q2,q4,q10,q95,q96,b27,b47,Bh];exact hkb
      ·rintro i σ bx hi ⟨q2,q4,q10,q95,q96,q124,q125,b27,b47,hkb⟩;obtain⟨y,hy⟩:=aP hi;have hlt:(i:Int)<(x.parts.length:Int):=oM;have hi1:IntKind.i64.wrap ((i:Int)+1)=((i+1:Nat):Int):=aK oM;have hyg:=uH (f:=oA g.cats) hy;have hset:=uI (f:=oA g.cats) (d:=Part.d) hy;have hjl:∀d:D,(((gA (oA g.cats) x.parts i).map Part.d).set i d)[i]? =some d:=fun d=>List.getElem?_set_self (by rw[List.length_map,gh];exact hi);have b4':=(hkb 4 oM oM).trans b4;have b29':=(hkb 29 oM oM).trans b29;simp(disch:=omega) only[go_sem,q2,q4,q10,q95,q96,q124,q125,hlt,b27,b47,hget2,hyg,gh,Part.d,hjl,hi1];refine ar (fun c1=>?_) (fun c1=>?_)
       ·simp(disch:=omega) only[go_sem,q2,q4,q10,q95,q96,q124,q125,hlt,b27,b47,hget2,hyg,gh,Part.d,hjl,hi1,b4',b29',hlook,List.set_set];refine⟨by rw[<-hset];simp[oA,Part.d,c1],fun s h1 h2=>?_⟩;rw[if_neg oM,if_neg oM];exact hkb s h1 h2
       ·simp(disch:=omega) only[go_sem,q2,q4,q10,q95,q96,q124,q125,hlt,b27,b47,hget2,hyg,gh,Part.d,hjl,hi1];refine⟨by rw[<-hset];simp[oA,Part.d,c1],fun s h1 h2=>?_⟩;rw[if_neg oM];exact hkb s h1 h2
      ·rintro σ bx ⟨q2,q4,q10,q95,q96,q124,q125,b27,b47,hkb⟩;have hlt:¬(x.parts.length:Int)<(x.parts.length:Int):=oM;simp(disch:=omega) only[go_sem,q2,q4,q10,q95,q96,q124,q125,hlt,hj1];rw[uG]at b47;refine⟨fun s h1 h2=>(hkb s h1 h2).trans ((hk0 s h1 oM).trans (hk5 s h1 h2)),fun _=>⟨_,b27,?_,fun t ht=>?_⟩⟩
       ·rw[<-uI hx];refine CI ?_ _ _ _ (mH bx _).1;have:=cU eP 1 3 247 x.parts.length ((x.parts.map (oA g.cats)).map Part.d) (by decide) sI (iw _);simp only[oq,cQ,kx,jv,b47,this];simp[go_sem,aC.d,gz]
       ·rcases oZ _ _ ht with h|h
        ·rw[(mH bx _).2]at h;simp at h
        ·simpa[names,bq]using h
     ·refine fQ (.light 0 (.light 1 (.load 2 4 (.light 3 (.light 4 (.light 5 (.load 6 327 (.light 8 (.light 9 (.light 10 (.load 11 327 (.both 7 [327] (.both 12 [4,327] (.light 13 (.light 14 (.both 15 [] (.light 16 (.light 17 (.both 18 [] .fin .stop))) .stop))) .stop) (.both 12 [4,327] (.both 7 [327] (.light 13 (.light 14 (.both 15 [] (.light 16 (.light 17 (.both 18 [] .fin .stop))) .stop))) .stop) .stop))))))))))))) aj ?_;simp(disch:=omega) only[go_sem,q2,q4,q95,q96,b4,b29,b27,hget,gh,hlook,aC.d];have hjl:∀d:D,(((gA (gz g.cats) g.rules j).map aC.d).set j d)[j]? =some d:=fun d=>List.getElem?_set_self (by rw[List.length_map,gh];exact hj);refine⟨?_,?_⟩
      ·refine aB (zt 340 x.parts oM bx0) rfl ?_;rintro dP B6 ⟨hP,kP⟩;obtain⟨eP,rfl,b47⟩:=c_.own ⟨hP,kP⟩ hpm;rw[List.length_map];have c27:=(kP 327 oM).trans b27;have c4:=kP 4 oM;simp(disch:=omega) only[go_sem,c27,c4,q2,q4,q95,q96,hget,gh,aC.d,hjl,List.set_set];exact⟨b27.symm,eP,rfl,b47,fun s h1 h2=>by rw[if_neg h1,if_neg h1];exact kP s oM⟩
      ·refine aB (zt 340 x.parts oM bx0) rfl ?_;rintro dP B6 ⟨hP,kP⟩;obtain⟨eP,rfl,b47⟩:=c_.own ⟨hP,kP⟩ hpm;rw[List.length_map];have c27:=(kP 327 oM).trans b27;have c4:=kP 4 oM;have c29:=(kP 29 oM).trans b29;simp(disch:=omega) only[go_sem,c27,c4,c29,q2,q4,q95,q96,hget,gh,aC.d,hjl,List.set_set,b27,hlook];exact⟨eP,rfl,b47,fun s h1 h2=>by rw[if_neg h1,if_neg h1];exact kP s oM⟩
    ·rintro σ bx ⟨q2,q4,q95,q96,hk5,hh⟩;have hlt:¬(g.rules.length:Int)<(g.rules.length:Int):=oM;obtain⟨bx0,hm,hlow,rR,hR1,hR2⟩:∃bx0,(bx0=bx\/∃l,(bx 327).k=1/\cg bx (bx 327).es=some l/\bx0=Go.V.dF bx 327 l)/\(∀s,s≠327->s<340->bx0 s=B5 s)/\∃r,bf bx0 dR=some r/\bk r (.sl 5 ((g.rules.map (gz g.cats)).map aC.d)):=by
      by_cases he:g.rules=[]
      ·refine⟨bx,.inl rfl,hk5,?_⟩;rw[he]at hR⊢;have ho:=(c_.none (bx:=B2) ⟨hR,kR⟩).of (bx':=bx) fun t ht=>by
        simp at ht;subst ht;exact(hk5 325 oM oM).trans ((hk 325 oM).trans (keep4 325 oM))
       exact ho.out (by simp[D.aF])
      ·obtain⟨bx0,hm,b27,hk0⟩:=(hh he).dF;rw[uG]at b27 hm;refine⟨bx0,.inr ⟨_,hm⟩,fun s h1 h2=>(hk0 s h1 oM).trans (hk5 s h1 h2),?_⟩;rw[(hdR he).1,jv,b27];exact⟨_,cU _ _ _ _ _ _ (by decide) sI (uu _),.refl _⟩
     refine⟨bx0,?_,?_⟩
     ·rcases hm with rfl|⟨l,h1,h2,h3⟩
      ·exact .inl rfl
      ·exact .inr ⟨rfl,327,l,h1,h2,h3⟩
     have b2:=(hlow 2 oM oM).trans ((hk 2 oM).trans g2);obtain⟨rE,hE1,hE2⟩:∃r,bf bx0 dE=some r/\bk r (.sl 5 ((g.entries.map (lA g.cats)).map Entry.d)):=by
      by_cases he:g.entries=[]
      ·rw[he]at hE⊢;have ho:=(c_.none (bx:=B1) ⟨hE,kE⟩).of (bx':=bx0) fun t ht=>by
        simp at ht;subst ht;exact(hlow 305 oM oM).trans ((hk 305 oM).trans ((keep4 305 oM).trans (kR 305 oM)))
       exact ho.out (by simp[D.aF])
      ·have b7:=(hlow 307 oM oM).trans (h307 he);rw[(hdE he).1,jv,b7];exact⟨_,cU _ _ _ _ _ _ (by decide) sI (qN _),.refl _⟩
     simp(disch:=omega) only[go_sem,q2,q4,q95,q96,hlt,b2,f1,f2,f3,f4,f5,f6];have hu:ao bx0 2 ⟨1,1,6,81,[.agg [.str g.name,.sl 1 (g.cats.map D.str),.str g.start,.int .i64 (num g.cats g.start),dE,dR]]⟩=bx0:=by
      funext s;by_cases h:s=2
      ·subst h;rw[cO,b2]
      ·rw[aA h]
     rw[hu];refine⟨.tup [.agg [.str g.name,.sl 1 (g.cats.map D.str),.str g.start,.int .i64 (num g.cats g.start),rE,rR],.int .i64 0],?_,gV (sT (.refl _) (.refl _) (.refl _) (.refl _) hE2 hR2) (.refl _)⟩;simp only[AG,oq,cQ,kx,hE1,hR1];simp[go_sem]
theorem F8(g:aO)(hg:iZ g):aq Tryz.prog 172 [g.d] (kB (bX g)):=
 (aG mixed (F9 g hg) rfl aj rfl).to (fun _ _ h=>h) (fun d' bx' ⟨r,h1,h2⟩=>⟨r,h1,h2⟩)
set_option maxHeartbeats 1000000
def iU{α:Type}(p:α->α->Bool)(l m:List α):Bool:=decide (l.length=m.length)&&(l.zip m).all fun q=>p q.1 q.2
theorem Gw{α:Type}{l m:List α}{k:Nat}{x y:α}(hx:l[k]? =some x)(hy:m[k]? =some y):(l.zip m).take (k+1)=(l.zip m).take k++[(x,y)]:=by
 have h:(l.zip m)[k]? =some (x,y):=List.getElem?_zip_eq_some.2 ⟨hx,hy⟩;rw[List.take_add_one,h];rfl
theorem Lw{f:FuncId}{p:Entry->Entry->Bool}(l m:List Entry)(hl:l.length<=140737488355328)(hf:∀x∈l,∀y∈m,aq Tryz.prog f [x.d,y.d] (.bool (p x y))):
 aq Tryz.prog 173 [.sl 5 (l.map Entry.d),.sl 5 (m.map Entry.d),.fn (.func f) []] (.bool (iU p l m)):=by
 refine av mixed (fn:=Tryz.f173) (tab:=[]) ?_ rfl aj rfl;refine aw _ [.tmp 6] _ rfl rfl rfl aj ?_;simp(disch:=omega) only[go_sem];refine ar (fun h1=>?_) (fun h1=>?_)
 rotate_left
 ·exact ab (congrArg D.bool (by rw[iU,decide_eq_false oM];rfl))
 have h1:l.length=m.length:=oM;simp(disch:=omega) only[go_sem];refine aX l.length (fun k σ bx=>σ 1= .sl 5 (m.map Entry.d)/\σ 2= .fn (.func f) []/\σ 15= .sl 5 (l.map Entry.d)/\σ 16= .int .i64 l.length/\σ 17= .int .i64 k/\((l.zip m).take k).all (fun q=>p q.1 q.2)=true) ?_ ?_ ?_
 ·simp[go_sem,aR]
 ·rintro k σ bx hk ⟨q1,q2,q15,q16,q17,hn⟩;obtain⟨x,hx⟩:=aP hk;obtain⟨y,hy⟩:=aP (show k<m.length by omega);have hlt:(k:Int)<(l.length:Int):=oM;have hlt2:(k:Int)<(m.length:Int):=oM;have hk1:IntKind.i64.wrap ((k:Int)+1)=((k+1:Nat):Int):=aK oM;simp(disch:=omega) only[go_sem,q1,q2,q15,q16,q17,hlt,hlt2,hx,hy,Entry.d,strs];refine au (hf x (List.mem_of_getElem? hx) y (List.mem_of_getElem? hy)) (show D.aF [x.d,y.d]=true by simp[D.aF,D.pure,Entry.d,strs,cr,iw,kO]) ?_;cases hp:p x y
  ·simp(disch:=omega) only[go_sem,hp,Bool.not_false];refine ab (congrArg D.bool ?_);have:((l.zip m).all fun q=>p q.1 q.2)=false:=by
    rw[List.all_eq_false];exact⟨(x,y),List.mem_of_getElem? (List.getElem?_zip_eq_some.2 ⟨hx,hy⟩),by simp[hp]⟩
   rw[iU,this,Bool.and_false]
  ·simp(disch:=omega) only[go_sem,hp,Bool.not_true,q1,q2,q15,q16,q17,hk1];rw[Gw hx hy,List.all_append,hn];simp[hp]
 ·rintro σ bx ⟨q1,q2,q15,q16,q17,hn⟩;have hlt:¬(l.length:Int)<(l.length:Int):=oM;simp(disch:=omega) only[go_sem,q1,q2,q15,q16,q17,hlt];refine ab (congrArg D.bool ?_);rw[List.take_of_length_le (by simp;omega)]at hn;rw[iU,hn,decide_eq_true h1];rfl
theorem Ly{f:FuncId}{p:aC->aC->Bool}(l m:List aC)(hl:l.length<=140737488355328)(hf:∀x∈l,∀y∈m,aq Tryz.prog f [x.d,y.d] (.bool (p x y))):
 aq Tryz.prog 175 [.sl 5 (l.map aC.d),.sl 5 (m.map aC.d),.fn (.func f) []] (.bool (iU p l m)):=by
 refine av mixed (fn:=Tryz.f175) (tab:=[]) ?_ rfl aj rfl;refine aw _ [.tmp 6] _ rfl rfl rfl aj ?_;simp(disch:=omega) only[go_sem];refine ar (fun h1=>?_) (fun h1=>?_)
 rotate_left
 ·exact ab (congrArg D.bool (by rw[iU,decide_eq_false oM];rfl))
 have h1:l.length=m.length:=oM;simp(disch:=omega) only[go_sem];refine aX l.length (fun k σ bx=>σ 1= .sl 5 (m.map aC.d)/\σ 2= .fn (.func f) []/\σ 15= .sl 5 (l.map aC.d)/\σ 16= .int .i64 l.length/\σ 17= .int .i64 k/\((l.zip m).take k).all (fun q=>p q.1 q.2)=true) ?_ ?_ ?_
 ·simp[go_sem,aR]
 ·rintro k σ bx hk ⟨q1,q2,q15,q16,q17,hn⟩;obtain⟨x,hx⟩:=aP hk;obtain⟨y,hy⟩:=aP (show k<m.length by omega);have hlt:(k:Int)<(l.length:Int):=oM;have hlt2:(k:Int)<(m.length:Int):=oM;have hk1:IntKind.i64.wrap ((k:Int)+1)=((k+1:Nat):Int):=aK oM;simp(disch:=omega) only[go_sem,q1,q2,q15,q16,q17,hlt,hlt2,hx,hy,aC.d,strs];refine au (hf x (List.mem_of_getElem? hx) y (List.mem_of_getElem? hy)) (show D.aF [x.d,y.d]=true by simp[D.aF,D.pure,aC.d,strs,cr,iw,kO]) ?_;cases hp:p x y
  ·simp(disch:=omega) only[go_sem,hp,Bool.not_false];refine ab (congrArg D.bool ?_);have:((l.zip m).all fun q=>p q.1 q.2)=false:=by
    rw[List.all_eq_false];exact⟨(x,y),List.mem_of_getElem? (List.getElem?_zip_eq_some.2 ⟨hx,hy⟩),by simp[hp]⟩
   rw[iU,this,Bool.and_false]
  ·simp(disch:=omega) only[go_sem,hp,Bool.not_true,q1,q2,q15,q16,q17,hk1];rw[Gw hx hy,List.all_append,hn];simp[hp]
 ·rintro σ bx ⟨q1,q2,q15,q16,q17,hn⟩;have hlt:¬(l.length:Int)<(l.length:Int):=oM;simp(disch:=omega) only[go_sem,q1,q2,q15,q16,q17,hlt];refine ab (congrArg D.bool ?_);rw[List.take_of_length_le (by simp;omega)]at hn;rw[iU,hn,decide_eq_true h1];rfl
theorem Lo(x y:Entry):aq Tryz.prog 174 [x.d,y.d] (.bool (decide (x.no=y.no))):=by
 refine av mixed (fn:=Tryz.f174) (tab:=[]) ?_ rfl aj rfl;refine aw _ [.tmp 4] _ rfl rfl rfl aj ?_;simp(disch:=omega) only[go_sem,Entry.d,strs];exact .refl _
theorem Lp(x y:aC)(hx:x.parts.length<=140737488355328)(hy:y.parts.length<=140737488355328):aq Tryz.prog 176 [x.d,y.d] (.bool (decide (x.no=y.no)&&decide (x.parts=y.parts))):=by
 refine av mixed (fn:=Tryz.f176) (tab:=[]) ?_ rfl aj rfl;refine aw _ [.tmp 4] _ rfl rfl rfl aj ?_;simp(disch:=omega) only[go_sem,aC.d];refine ar (fun h1=>?_) (fun h1=>?_)
 rotate_left
 ·simp(disch:=omega) only[go_sem,h1,decide_false];exact ab (by simp[h1])
 simp(disch:=omega) only[go_sem,h1,decide_true];refine au (G9 x.parts y.parts hx hy) (by simp[go_sem,iw]) ?_;simp(disch:=omega) only[go_sem,h1,decide_true];exact ab (by simp[h1])
def fT(g:aO):Int:=
 if(bX g).2≠0 then(bX g).2
 else if decide ((bX g).1.no=g.no)&&(iU (fun x y=>decide (x.no=y.no)) (bX g).1.entries g.entries&&iU (fun x y=>decide (x.no=y.no)&&decide (x.parts=y.parts)) (bX g).1.rules g.rules)then 0 else 260
theorem qT{g:aO}(h:(bX g).2=0):(bX g).1=dA g:=by
 unfold bX at h⊢;split
 ·rename_i h1;rw[if_pos h1]at h;simp at h
 ·rename_i h1;rw[if_neg h1]at h;split
  ·rename_i h2;rw[if_pos h2]at h;simp at h
  ·rename_i h2;rw[if_neg h2]at h;split
   ·rename_i h3;rw[if_pos h3]at h;simp at h
   ·rfl
theorem sY(g:aO)(hg:iZ g):aq Tryz.prog 125 [g.d] (.int .i64 (fT g)):=by
 refine av mixed (fn:=Tryz.f125) (tab:=[]) ?_ rfl aj rfl;refine aw _ [.tmp 2] _ rfl rfl rfl aj ?_;have hel:=hg.elen;have hrl:=hg.rlen;simp(disch:=omega) only[go_sem,aO.d,strs];refine au (F8 g hg) (show D.aF [g.d]=true by simp[D.aF,gO]) ?_;simp(disch:=omega) only[go_sem,kB,aO.d,strs];refine ar (fun h1=>?_) (fun h1=>?_)
 rotate_left
 ·simp(disch:=omega) only[go_sem,h1,decide_false,Bool.not_false];exact ab (by rw[fT,if_pos h1])
 have hr:=qT h1;have hck:fT g=if decide ((dA g).no=g.no)&&(iU (fun x y=>decide (x.no=y.no)) (dA g).entries g.entries&&iU (fun x y=>decide (x.no=y.no)&&decide (x.parts=y.parts)) (dA g).rules g.rules)then 0 else 260:=by rw[fT,if_neg (by simp[h1]),hr]
 rw[hck];clear hck;simp(disch:=omega) only[go_sem,h1,hr,decide_true,Bool.not_true];have hse:(dA g).entries.length<=140737488355328:=by simp[dA,hel]
 have hsr:(dA g).rules.length<=140737488355328:=by simp[dA,hrl]
 refine au (Lw (dA g).entries g.entries hse (fun x _ y _=>Lo x y)) (by simp[go_sem,qN]) ?_;simp(disch:=omega) only[go_sem,hr,aO.d,strs];refine au (Ly (dA g).rules g.rules hsr (fun x hx y hy=>Lp x y ?_ (hg.rules y hy).plen)) (by simp[go_sem,uu]) ?_
 ·obtain⟨z,hz,rfl⟩:=List.mem_map.1 hx;have:=(hg.rules z hz).plen;simpa[gz]using this
 simp(disch:=omega) only[go_sem,hr,aO.d,strs];refine ar (fun h2=>?_) (fun h2=>?_)
 rotate_left
 ·simp(disch:=omega) only[go_sem,h2,decide_false,Bool.not_false];first|exact .refl _|exact ab (by simp[h2])
 cases h3:iU (fun x y=>decide (x.no=y.no)) (dA g).entries g.entries
 ·simp(disch:=omega) only[go_sem,h2,h3,decide_true,Bool.not_true,Bool.not_false];first|exact .refl _|exact ab sI
 cases h4:iU (fun x y=>decide (x.no=y.no)&&decide (x.parts=y.parts)) (dA g).rules g.rules
 ·simp(disch:=omega) only[go_sem,h2,h3,h4,decide_true,Bool.not_true,Bool.not_false];first|exact .refl _|exact ab sI
 ·simp(disch:=omega) only[go_sem,h2,h3,h4,decide_true,Bool.not_true,Bool.not_false];first|exact .refl _|exact ab sI
end Go.V.Ty
