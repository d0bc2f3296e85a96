/- Plain laws: B24. -/
import Derived.Test.YtkgloohlmogakaaGreatDoorB20
set_option linter.all false
set_option maxHeartbeats 8000000
namespace Go.V.Jn
open Go.V.Lx Go.V.Gr
def tz{g k:Nat}{kind:UInt8}{p:ah}(hg:g<4294967296):gen (dw g k kind p)=g:=by
 unfold gen dw;rw[List.take_left' (dz 4 g),ud];exact Nat.mod_eq_of_lt hg
def IH{g k:Nat}{kind:UInt8}{p:ah}(hp:p.length<=112):(dw g k kind p).drop 124=be 4 g:=by
 unfold dw;rw[<-List.append_assoc,<-List.append_assoc];exact List.drop_left' (by simp[dz,tF hp])
def Du{g k:Nat}{kind:UInt8}{p:ah}:(dw g k kind p).drop 10=kind::UInt8.ofNat p.length::(p++(List.replicate (112 - p.length) 0++be 4 g)):=by
 unfold dw;generalize pU (body k kind p)=c;unfold body;have e:be 4 g++(be 4 c++(be 2 k++kind::UInt8.ofNat p.length::(p++List.replicate (112 - p.length) 0)++be 4 g))=(be 4 g++be 4 c++be 2 k)++(kind::UInt8.ofNat p.length::(p++(List.replicate (112 - p.length) 0++be 4 g))):=by simp[List.append_assoc]
 rw[e,List.drop_left' (by simp[dz])]
def KQ{g k:Nat}{kind:UInt8}{p:ah}(j:Nat):(dw g k kind p)[10+j]? =(kind::UInt8.ofNat p.length::(p++(List.replicate (112 - p.length) 0++be 4 g)))[j]?:=by rw[<-Du (g:=g) (k:=k),List.getElem?_drop]
def KR{g k:Nat}{kind:UInt8}{p:ah}:(dw g k kind p).getD 10 0=kind:=by rw[List.getD_eq_getElem?_getD,KQ 0];rfl
def KP{g k:Nat}{kind:UInt8}{p:ah}(hp:p.length<=112):bT (dw g k kind p)=p.length:=by
 unfold bT;rw[List.getD_eq_getElem?_getD,KQ 1];simp;omega
def FL{g k:Nat}{kind:UInt8}{p:ah}(hp:p.length<=112):piece (dw g k kind p)=p:=by
 unfold piece;rw[KP hp,show(12:Nat)=10+2 from rfl,<-List.drop_drop,Du];simp
def Rl{g k:Nat}{kind:UInt8}{p:ah}(h0:0<g)(hg:g<4294967296)(hp:p.length<=112)(hk:kind.toNat<=3)(h1:2<=kind.toNat\/p.length=112)(h2:kind.toNat % 2=1\/p.length≠0):gH (dw g k kind p) k=true:=by
 unfold gH sP sF;rw[tz hg,KR,KP hp,FL hp];have h3:kind.toNat % 2=1\/¬p=[]:=h2.imp id fun h e=>h (by simp[e]);simp[*]
def HG(k n:Nat)(h:0<n):(iX k n).toNat % 2=1<->k=0:=by
 unfold iX;split
 ·split<;>simp[*]
 ·split<;>simp[*]
def Fl(k n:Nat)(h:k<n):2<=(iX k n).toNat<->k+1=n:=by
 unfold iX;split
 ·split
  ·simp;omega
  ·simp;omega
 ·split
  ·simp;omega
  ·simp;omega
def T0(k n:Nat):(iX k n).toNat<=3:=by
 unfold iX;split
 ·split<;>simp
 ·split<;>simp
def zA{b:ah}{k:Nat}(h:k<bm b):((b.drop (112 * k)).take 112).length<=112/\(¬k+1=bm b->((b.drop (112 * k)).take 112).length=112)/\(k≠0->((b.drop (112 * k)).take 112).length≠0)/\(k+1=bm b->b.take (112 * k)++(b.drop (112 * k)).take 112=b):=by
 unfold bm at *;refine⟨by simp;omega,fun h1=>by simp;omega,fun h1=>by simp;omega,fun h1=>?_⟩;rw[<-List.take_add,List.take_of_length_le oM]
def Md{g a k:Nat}{b:ah}(h0:0<g)(hg:g<4294967296)(h:k<bm b):gH (eQ g a (bm b) b k).data (a+k)=true:=by
 obtain⟨h1,h2,h3,h4⟩:=zA h;refine Rl h0 hg h1 (T0 _ _) ?_ ?_
 ·by_cases hl:k+1=bm b
  ·exact .inl ((Fl k _ h).2 hl)
  ·exact .inr (h2 hl)
 ·by_cases hz:k=0
  ·exact .inl ((HG k _ oM).2 hz)
  ·exact .inr (h3 hz)
def xl{S:List ah}{g a k f last:Nat}{b acc:ah}(h0:0<g)(hg:g<4294967296)(hl:last<=g)(h:k<bm b)(hx:S[a+k]? =some (eQ g a (bm b) b k).data)(ha:S[a]? =some (eQ g a (bm b) b 0).data):
 dn S a last (f+1) (a+k) acc=if k+1=bm b then some (acc++(b.drop (112 * k)).take 112,a+k+1)else dn S a last f (a+k+1) (acc++(b.drop (112 * k)).take 112):=by
 obtain⟨h1,h2,h3,h4⟩:=zA h;rw[qY hx,Md h0 hg h];have e1:gen (eQ g a (bm b) b k).data=g:=tz hg;have e2:gen (S.getD a [])=g:=by rw[List.getD_eq_getElem?_getD,ha];exact tz hg
 have e3:sF (eQ g a (bm b) b k).data=(iX k (bm b)).toNat:=by show((dw _ _ _ _).getD 10 0).toNat=_;rw[KR]
 have e4:piece (eQ g a (bm b) b k).data=(b.drop (112 * k)).take 112:=FL h1;rw[e1,e2,e3,e4];have c1:(decide ((iX k (bm b)).toNat % 2=1)==decide (a+k=a))=true:=by
  have:=HG k (bm b) oM;by_cases hz:k=0
  ·rw[decide_eq_true (this.2 hz),decide_eq_true oM];rfl
  ·rw[decide_eq_false (fun h=>hz (this.1 h)),decide_eq_false oM];rfl
 have hk:=Fl k _ h;rw[c1];by_cases hz:k+1=bm b
 ·simp[hl,hz,hk.2 hz]
 ·simp[hl,hz,fun h=>hz (hk.1 h)];intro h;exact absurd (hk.1 h) hz
def Ra{S:List ah}{g a last:Nat}{b:ah}(h0:0<g)(hg:g<4294967296)(hl:last<=g)(hw:∀k,k<bm b->S[a+k]? =some (eQ g a (bm b) b k).data):
 dn S a last (S.length - a) a []=some (b,a+bm b):=by
 have hp:=um b;have ha:=hw 0 oM;suffices ∀r k f,k+(r+1)=bm b->r<f->dn S a last f (a+k) (b.take (112 * k))=some (b,a+bm b) by
  have hlen:=(gS.1 (hw (bm b - 1) oM)).1;simpa using this (bm b - 1) 0 (S.length - a) oM oM
 intro r;induction r with
 |zero=>
  intro k f hk hf;obtain⟨f,rfl⟩:∃f',f=f'+1:=⟨f - 1,by omega⟩
  rw[xl h0 hg hl oM (hw k oM) ha,if_pos oM,(zA (show k<bm b by omega)).2.2.2 oM,show a+k+1=a+bm b by omega]
 |succ r ih=>
  intro k f hk hf;obtain⟨f,rfl⟩:∃f',f=f'+1:=⟨f - 1,by omega⟩
  rw[xl h0 hg hl oM (hw k oM) ha,if_neg oM,<-List.take_add,show 112 * k+112=112 * (k+1) by omega];exact ih (k+1) f oM oM
def Rb{S:List ah}{g a last m:Nat}{b t:ah}(h0:0<g)(hg:g<4294967296)(hl:last<=g)(hm:m<bm b)(hw:∀k,k<m->S[a+k]? =some (eQ g a (bm b) b k).data)(ht:S[a+m]? =some t)(hb:gH t (a+m)=false)(f:Nat):
 dn S a last f a []=none:=by
 suffices ∀r k f acc,k+r=m->dn S a last f (a+k) acc=none from this m 0 f [] oM
 intro r;induction r with
 |zero=>
  intro k f acc hk;cases f with
  |zero=>rfl
  |succ f=>rw[show k=m by omega,qY ht,hb];simp
 |succ r ih=>
  intro k f acc hk;cases f with
  |zero=>rfl
  |succ f=>
   rw[xl h0 hg hl oM (hw k oM) (hw 0 oM),if_neg oM];exact ih (k+1) f _ oM
def G3{s:ah}{k:Nat}(h:gH s k=true):s.length=128/\(piece s).length=bT s/\bT s<=112/\(2<=sF s\/bT s=112)/\(sF s % 2=1\/bT s≠0):=by
 unfold gH sP at h;simp only[bA,Bool.or_eq_true,decide_eq_true_eq,beq_iff_eq]at h;have hp:(piece s).length<=112:=by unfold piece;simp;omega
 have hs:s.length=128:=by rw[h.2];exact xD hp
 refine⟨hs,?_,by omega,by omega,by omega⟩;unfold piece;simp;omega
theorem IA{S:List ah}{a last:Nat}:∀ {f n:Nat} {acc b:ah} {e:Nat},dn S a last f n acc=some (b,e)->a<=n->acc.length=112 * (n - a)->e=a+bm b
 |0,n,acc,b,e,h,_,_=>by simp[dn]at h
 |f+1,n,acc,b,e,h,ha,hl=>by
  unfold dn at h;cases hs:S[n]? with
  |none=>rw[hs]at h;cases h
  |some s=>
   rw[hs]at h;simp only at h;split at h
   ·rename_i hc;simp only[bA,decide_eq_true_eq,beq_iff_eq]at hc;obtain⟨g1,g2,g3,g4,g5⟩:=G3 hc.1.1.1;have Kb:=hc.1.1.2;split at h
    ·rename_i hk;simp only[sJ,Prod.mk.injEq]at h;obtain⟨rfl,rfl⟩:=h;unfold bm;rw[List.length_append,g2,hl];by_cases hn:n=a
     ·subst hn;omega
     ·rw[decide_eq_false hn]at Kb;have:¬sF s % 2=1:=by simpa using Kb
      omega
    ·rename_i hk;refine IA h oM ?_;rw[List.length_append,g2,hl];omega
   ·cases h
inductive Reads(S:List ah):Nat->Nat->List ah->Nat->Nat->Prop where
 |nil (a last:Nat):Reads S a last [] a last
 |cons {a last n a' d_:Nat} {b:ah} {l:List ah} (h:dn S a last (S.length - a) a []=some (b,n)) (hs:Reads S n (gen (S.getD a [])) l a' d_):Reads S a last (b::l) a' d_
theorem Reads.size{S:List ah}{a last a' d_:Nat}{l:List ah}(h:Reads S a last l a' d_):a'=a+aV l:=by
 induction h with
 |nil=>simp[aV]
 |cons h hs ih=>
  have:=IA h (Nat.le_refl _) sI;simp only[aV,mC,List.sum_cons]at *;omega
theorem Reads.app{S:List ah}{a last a1 l1 a2 l2:Nat}{l m:List ah}(h:Reads S a last l a1 l1)(h2:Reads S a1 l1 m a2 l2):Reads S a last (l++m) a2 l2:=by
 induction h with
 |nil=>exact h2
 |cons h hs ih=>exact .cons h (ih h2)
theorem Q9{S:List ah}{a last a' d_:Nat}{l:List ah}(h:Reads S a last l a' d_):∀ {f:Nat},S.length<=a+f->dn S a' d_ (S.length - a') a' []=none->(lS S f a last).map (·.1)=l:=by
 induction h with
 |nil a last=>
  intro f hf hn;cases f with
  |zero=>rfl
  |succ f=>rw[kY,hn];rfl
 |cons h hs ih=>
  intro f hf hn;have:=nK h;simp only at this;cases f with
  |zero=>omega
  |succ f=>rw[kY,h];simp only[mC];rw[ih oM hn]
def Dp{S:List ah}{a' d_:Nat}{l:List ah}(h:Reads S 0 0 l a' d_)(hn:dn S a' d_ (S.length - a') a' []=none):b_ S=l:=Q9 h sI hn
theorem A9(S:List ah):∀(f a last:Nat),S.length<=a+f->∃a' d_,Reads S a last ((lS S f a last).map (·.1)) a' d_/\dn S a' d_ (S.length - a') a' []=none
 |0,a,last,h=>⟨a,last,.nil _ _,by rw[show S.length - a=0 by omega];rfl⟩
 |f+1,a,last,h=>by
  rw[kY];cases hr:dn S a last (S.length - a) a []with
  |none=>exact⟨a,last,.nil _ _,hr⟩
  |some p=>
   obtain⟨b,n⟩:=p;have:=nK hr;simp only at this;obtain⟨a',d_,h1,h2⟩:=A9 S f n (gen (S.getD a [])) oM;exact⟨a',d_,.cons hr h1,h2⟩
def Mo(S:List ah):∃a' d_,Reads S 0 0 (b_ S) a' d_/\dn S a' d_ (S.length - a') a' []=none:=A9 S S.length 0 0 sI
theorem Iz{S T:List ah}{a last:Nat}:∀ {f n:Nat} {acc b:ah} {e:Nat},dn S a last f n acc=some (b,e)->a<=n->(∀i,i<e->T[i]? =S[i]?)->dn T a last f n acc=some (b,e)
 |0,n,acc,b,e,h,_,_=>by simp[dn]at h
 |f+1,n,acc,b,e,h,ha,hk=>by
  have ar:=nK h;simp only at ar;have hn:=hk n oM;have h0:T.getD a []=S.getD a []:=by rw[List.getD_eq_getElem?_getD,List.getD_eq_getElem?_getD,hk a oM]
  unfold dn at h⊢;rw[hn,h0];cases hs:S[n]? with
  |none=>rw[hs]at h;cases h
  |some s=>
   rw[hs]at h;simp only at h⊢;split at h
   ·rename_i hc;rw[if_pos hc];split at h
    ·rename_i ke;rw[if_pos ke];exact h
    ·rename_i ke;rw[if_neg ke];exact Iz h oM hk
   ·cases h
theorem Reads.mono{S:List ah}{a last a' d_:Nat}{l:List ah}(h:Reads S a last l a' d_):a<=a':=by rw[h.size];omega
theorem Reads.je{S T:List ah}{a last a' d_:Nat}{l:List ah}(h:Reads S a last l a' d_)(hl:T.length=S.length)(hk:∀i,i<a'->T[i]? =S[i]?):Reads T a last l a' d_:=by
 induction h with
 |nil=>exact .nil _ _
 |@cons a last n a' d_ b l h hs ih=>
  have ar:=nK h;simp only at ar;have hm:=hs.mono;have h0:T.getD a []=S.getD a []:=by rw[List.getD_eq_getElem?_getD,List.getD_eq_getElem?_getD,hk a oM]
  refine .cons (n:=n) (by rw[hl];exact Iz h (Nat.le_refl _) fun i hi=>hk i oM) ?_;rw[h0];exact ih hk
def Ai{S:List ah}{s:ah}(h:s∈S):num (s.take 4)<cB S/\num (s.drop 124)<cB S:=by
 suffices ∀(S:List ah) (g:Nat),g<=S.foldl (fun g s=>max g (max (num (s.take 4)) (num (s.drop 124)))) g/\(s∈S->num (s.take 4)<=S.foldl (fun g s=>max g (max (num (s.take 4)) (num (s.drop 124)))) g/\num (s.drop 124)<=S.foldl (fun g s=>max g (max (num (s.take 4)) (num (s.drop 124)))) g) by
  have:=(this S 0).2 h;unfold cB;omega
 intro S;induction S with
 |nil=>intro g;exact⟨Nat.le_refl _,fun h=>by cases h⟩
 |cons x S ih=>
  intro g;obtain⟨i1,i2⟩:=ih (max g (max (num (x.take 4)) (num (x.drop 124))));rw[List.foldl_cons];refine⟨by omega,fun hm=>?_⟩;rcases List.mem_cons.1 hm with rfl|hm
  ·omega
  ·exact i2 hm
theorem Reads.T3{S:List ah}{a last a' d_:Nat}{l:List ah}(h:Reads S a last l a' d_)(hl:last<cB S):d_<cB S:=by
 induction h with
 |nil=>exact hl
 |@cons a last n a' d_ b l h hs ih=>
  refine ih ?_;have ar:=nK h;simp only at ar;have ha:S.getD a []∈S:=by rw[List.getD_eq_getElem?_getD,gE oM];exact List.getElem_mem _
  exact(Ai ha).1
theorem BJ:∀(W:List bE) (a:Nat) (S:List ah),(∀k w,W[k]? =some w->w.at_=((a+k:Nat):Int))->a+W.length<=S.length->∀i,(cP S W)[i]? =if a<=i/\i<a+W.length then(W[i - a]?).map (·.data)else S[i]?
 |[],a,S,_,_,i=>by rw[if_neg sI];rfl
 |w::W,a,S,h,hl,i=>by
  have hw:=h 0 w rfl;simp only[List.length_cons]at hl;have e:cP S (w::W)=cP (S.set a w.data) W:=by
   show cP (S.set w.at_.toNat w.data) W=_;rw[hw];rfl
  rw[e,BJ W (a+1) (S.set a w.data) (fun k x hx=>by rw[h (k+1) x (by simpa using hx)];omega) (by simp;omega) i];by_cases h1:a+1<=i/\i<a+1+W.length
  ·rw[if_pos h1,if_pos (by simp;omega),show i - a=(i - (a+1))+1 by omega,List.getElem?_cons_succ]
  ·rw[if_neg h1,List.getElem?_set];by_cases h2:a=i
   ·subst h2;rw[if_pos rfl,if_pos oM,if_pos sI];simp
   ·rw[if_neg h2,if_neg (by simp;omega)]
def Iy{g a k:Nat}{b:ah}(h:k<bm b):(iO g a b)[k]? =some (eQ g a (bm b) b k):=by
 unfold iO;rw[gM,List.getElem?_range h];rfl
theorem JI:∀(l:List ah) (g a k:Nat) (w:bE),(cq g a l)[k]? =some w->w.at_=((a+k:Nat):Int)
 |[],g,a,k,w,h=>by simp[cq]at h
 |b::l,g,a,k,w,h=>by
  rw[cq,List.getElem?_append]at h;rw[me]at h;split at h
  ·rename_i hk;rw[Iy hk]at h;injection h with h;subst h;rfl
  ·rename_i hk;rw[JI l g (a+bm b) _ w h];omega
theorem sf{T:List ah}{g:Nat}(h0:0<g)(hg:g<4294967296):∀(v:List ah) (a last m:Nat),last<=g->m<=aV v->(∀k,k<m->∃w,(cq g a v)[k]? =some w/\T[a+k]? =some w.data)->(m<aV v->∃t,T[a+m]? =some t/\gH t (a+m)=false)->
 ∃q a' d_,q<=v.length/\Reads T a last (v.take q) a' d_/\(m=0->q=0\/v=[])/\((m=aV v/\q=v.length/\(v≠[]->d_=g))\/(m<aV v/\dn T a' d_ (T.length - a') a' []=none))
 |[],a,last,m,hl,hm,hw,ht=>⟨0,a,last,Nat.le_refl _,.nil _ _,fun _=> .inl rfl,.inl ⟨by simp[aV]at *;omega,rfl,fun h=>absurd rfl h⟩⟩
 |b::v,a,last,m,hl,hm,hw,ht=>by
  have hu:aV (b::v)=bm b+aV v:=by simp[aV]
  have hp:=um b;rw[hu]at hm ht;have pG:∀k,k<m->k<bm b->T[a+k]? =some (eQ g a (bm b) b k).data:=fun k hk bR=>by
   obtain⟨w,h1,h2⟩:=hw k hk;rw[cq,List.getElem?_append_left (by rw[me];exact bR),Iy bR]at h1;injection h1 with h1;subst h1;exact h2
  by_cases hmb:bm b<=m
  ·have hr:=Ra (S:=T) (a:=a) (last:=last) (b:=b) h0 hg hl fun k hk=>pG k oM hk;have hga:gen (T.getD a [])=g:=by have h00:=pG 0 oM oM;rw[Nat.add_zero]at h00;rw[List.getD_eq_getElem?_getD,h00];exact tz hg
   obtain⟨q,a',d_,i1,i2,i3,i4⟩:=sf h0 hg v (a+bm b) g (m - bm b) (Nat.le_refl _) oM (fun k hk=>by
    obtain⟨w,h1,h2⟩:=hw (bm b+k) oM;refine⟨w,?_,by rw[Nat.add_assoc];exact h2⟩;rw[cq,List.getElem?_append_right (by rw[me];omega),me,Nat.add_sub_cancel_left]at h1;exact h1) (fun h=>by
    obtain⟨t,h1,h2⟩:=ht oM;rw[show a+bm b+(m - bm b)=a+m by omega];exact⟨t,h1,h2⟩)
   refine⟨q+1,a',d_,by simp;omega,.cons hr (by rw[hga];exact i2),fun h=>by omega,?_⟩;rcases i4 with⟨j1,j2,j3⟩|⟨j1,j2⟩
   ·refine .inl ⟨by omega,by simp[j2],fun _=>?_⟩;by_cases hv:v=[]
    ·subst hv;simp at j2;subst j2;cases i2;rfl
    ·exact j3 hv
   ·exact .inr ⟨by omega,j2⟩
  ·obtain⟨t,h1,h2⟩:=ht oM;exact⟨0,a,last,Nat.zero_le _,.nil _ _,fun _=> .inl rfl,.inr ⟨by omega,Rb h0 hg hl oM (fun k hk=>pG k hk oM) h1 h2 _⟩⟩
theorem Rw{n o:ah}{g k:Nat}(hn:n.length=128)(ho:o.length=128)(hg:gen n=g)(ar:num (o.drop 124)<g):gH (n.take 64++o.drop 64) k=false:=by
 cases h:gH (n.take 64++o.drop 64) k with
 |false=>rfl
 |true=>
  have h1:=(G3 h)
  have hG:gen (n.take 64++o.drop 64)=g:=by
   unfold gen at *;rw[List.take_append_of_le_length (by simp;omega),List.take_take];exact hg
  have hD:(n.take 64++o.drop 64).drop 124=o.drop 124:=by
   rw[List.drop_append,List.drop_of_length_le (by simp;omega),List.nil_append,List.drop_drop]
   congr 1;simp;omega
  unfold gH at h;simp only[bA,beq_iff_eq]at h;have h2:=congrArg (List.drop 124) h.2;rw[IH oM,hD,hG]at h2;rw[h2,ud]at ar;have:=Nat.mod_le g (256 ^ 4);have AP:g<256 ^ 4:=by rw[<-hg];have:=my (n.take 4);rw[show(n.take 4).length=4 by simp;omega]at this;exact this
  rw[Nat.mod_eq_of_lt AP]at ar;omega
structure Zj(S:List ah):Prop where
 a:∀x∈S,x.length=128
 b:S.length<=4096
def Rs{rs S:List ah}{y:Nat}{L:Int}{st:Bool}(hS:Zj S)(hr:b_ S=rs.take y)(hy:y<=rs.length)(hu:aV rs<=S.length)(hG:cB S<4294967296):
 b_ (cP S (cq (cB S) (aV (rs.take y)) (rs.drop y)))=rs/\
 ∀m:Nat,m<aV (rs.drop y)->∃q,y<=q/\q<=rs.length/\(m=0->q=y)/\b_ (om ⟨S,cq (cB S) (aV (rs.take y)) (rs.drop y),m,st⟩)=rs.take q:=by
 obtain⟨a',d_,r1,r2⟩:=Mo S;have vZ:=tj rs y;rw[hr]at r1;have bP:=r1.size;rw[Nat.zero_add]at bP;subst bP;have h0:0<cB S:=by unfold cB;omega
 have AR:=r1.T3 h0;generalize hA:aV (rs.take y)=A at *;generalize hg:cB S=g at *;generalize hv:rs.drop y=v at *;have hvr:rs.take y++v=rs:=by rw[<-hv,List.take_append_drop]
 have sE:=pb g v A;have fS:=JI v g A;have WR:=BJ (cq g A v) A S fS oM;constructor
 ·generalize hT:cP S (cq g A v)=T at *;have G_:T.length=S.length:=by rw[<-hT,gW]
  obtain⟨q,a2,l2,i1,i2,i3,i4⟩:=sf (T:=T) h0 hG v A d_ (aV v) oM (Nat.le_refl _) (fun k hk=>by
   refine⟨(cq g A v)[k]'oM,gE _,?_⟩;rw[WR,if_pos oM,Nat.add_sub_cancel_left,gE oM];rfl) (fun h=>by omega)
  rcases i4 with⟨_,rfl,j⟩|⟨j,_⟩
  rotate_left
  ·omega
  rw[tL]at i2;have hk:=(r1.je G_ fun i hi=>by rw[WR,if_neg oM]).app i2;rw[hvr]at hk;refine Dp hk ?_;have bP:=i2.size;by_cases hve:v=[]
  ·subst hve;have hTS:T=S:=by rw[<-hT];simp[cq,cP]
   rw[hTS];cases i2;exact r2
  ·have kO:=j hve;by_cases tR:a2<S.length
   ·have V6:T[a2]? =some (S[a2]'tR):=by rw[WR,if_neg oM,gE tR]
    obtain⟨f,hf⟩:∃f,T.length - a2=f+1:=⟨T.length - a2 - 1,by omega⟩
    have N6:=Ai (List.getElem_mem tR);rw[hg]at N6;rw[hf,qY V6,if_neg];simp only[bA,decide_eq_true_eq,kO];rintro⟨_,h⟩;have:gen (S[a2]'tR)<g:=N6.1;omega
   ·rw[show T.length - a2=0 by omega];rfl
 ·intro m hm;have yW:m<(cq g A v).length:=oM;obtain⟨w,hw⟩:∃w,(cq g A v)[m]? =some w:=⟨_,gE yW⟩
  have W5:=fS m w hw;have uU:=tE (mG hw);have vX:=BJ ((cq g A v).take m) A S (fun k x hx=>fS k x (by
   rw[List.getElem?_take]at hx;split at hx
   ·exact hx
   ·cases hx)) (by simp;omega)
  have aeT:((cq g A v).take m).length=m:=by simp;omega
  rw[aeT]at vX;generalize hT:om ⟨S,cq g A v,m,st⟩=T;have G8:A+m<S.length:=oM;have ho:(cP S ((cq g A v).take m))[A+m]? =some (S[A+m]'G8):=by rw[vX,if_neg oM,gE G8]
  have hT2:T=(cP S ((cq g A v).take m)).set (A+m) (w.data.take 64++(S[A+m]'G8).drop 64):=by
   rw[<-hT];unfold om;simp only[Int.toNat_natCast,List.getD_eq_getElem?_getD,hw,Option.getD_some,W5,ho]
  have G_:T.length=S.length:=by rw[hT2];simp[gW]
  have V3:∀i,T[i]? =if i=A+m then some (w.data.take 64++(S[A+m]'G8).drop 64)else if A<=i/\i<A+m then((cq g A v)[i - A]?).map (·.data)else S[i]?:=fun i=>by
   rw[hT2,List.getElem?_set];by_cases hi:i=A+m
   ·rw[if_pos hi.symm,if_pos (by rw[gW];omega),if_pos hi]
   ·rw[if_neg (fun h=>hi h.symm),if_neg hi,vX];by_cases h2:A<=i/\i<A+m
    ·rw[if_pos h2,if_pos h2,List.getElem?_take,if_pos oM]
    ·rw[if_neg h2,if_neg h2]
  have hgw:gen w.data=g:=by
   suffices ∀(l:List ah) (a:Nat),w∈cq g a l->gen w.data=g from this v A (mG hw)
   intro l;induction l with
   |nil=>intro a h;simp[cq]at h
   |cons b l ih=>
    intro a h;simp only[cq,List.mem_append]at h;rcases h with h|h
    ·simp only[iO,List.mem_map,List.mem_range]at h;obtain⟨k,hk,rfl⟩:=h;exact tz hG
    ·exact ih _ h
  have wV:gH (w.data.take 64++(S[A+m]'G8).drop 64) (A+m)=false:=by
   have N6:=Ai (List.getElem_mem G8);rw[hg]at N6;exact Rw uU.2.2 (hS.a _ (List.getElem_mem G8)) hgw N6.2
  obtain⟨q,a2,l2,i1,i2,i3,i4⟩:=sf (T:=T) h0 hG v A d_ m oM oM (fun k hk=>by
   refine⟨(cq g A v)[k]'oM,gE _,?_⟩;rw[V3,if_neg oM,if_pos oM,Nat.add_sub_cancel_left,gE oM];rfl) (fun _=>⟨_,by rw[V3,if_pos rfl],wV⟩)
  rcases i4 with⟨j,_⟩|⟨_,j⟩
  ·omega
  have hk:=(r1.je G_ fun i hi=>by rw[V3,if_neg oM,if_neg oM]).app i2;have uT:v.length=rs.length - y:=by rw[<-hv,List.length_drop]
  have hq:rs.take y++v.take q=rs.take (y+q):=by rw[<-hv,List.take_add]
  rw[hq]at hk;refine⟨y+q,by omega,by omega,fun h=>?_,Dp hk j⟩;rcases i3 h with h|h
  ·omega
  ·subst h;simp at i1;omega
end Go.V.Jn
