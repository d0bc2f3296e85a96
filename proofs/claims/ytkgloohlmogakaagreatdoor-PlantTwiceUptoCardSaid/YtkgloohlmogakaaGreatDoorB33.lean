/- Journals: what remains of the records after a loss of power (plain). -/
import Derived.Test.YtkgloohlmogakaaGreatDoorB30
import Derived.Test.YtkgloohlmogakaaGreatDoorB27
set_option linter.unusedSimpArgs false
set_option linter.unusedVariables false
namespace Go.V.Jn
open Go.V.Lx Go.V.Gr
theorem nN{g k:Nat}{kind:UInt8}{p:ah}(hg:g<4294967296):gen (dj g k kind p)=g:=by
 unfold gen dj;rw[List.take_left' (eu 4 g),vH];exact Nat.mod_eq_of_lt hg
theorem A4{g k:Nat}{kind:UInt8}{p:ah}(hp:p.length<=112):(dj g k kind p).drop 124=be 4 g:=by
 unfold dj;rw[<-List.append_assoc,<-List.append_assoc];exact List.drop_left' (by simp[eu,t_ hp])
theorem vX{g k:Nat}{kind:UInt8}{p:ah}:(dj g k kind p).drop 10=kind::UInt8.ofNat p.length::(p++(List.replicate (112 - p.length) 0++be 4 g)):=by
 unfold dj;generalize zA (body k kind p)=c;unfold body;have e:be 4 g++(be 4 c++(be 2 k++kind::UInt8.ofNat p.length::(p++List.replicate (112 - p.length) 0)++be 4 g))=(be 4 g++be 4 c++be 2 k)++(kind::UInt8.ofNat p.length::(p++(List.replicate (112 - p.length) 0++be 4 g))):=by simp[List.append_assoc]
 rw[e,List.drop_left' (by simp[eu])]
theorem CS{g k:Nat}{kind:UInt8}{p:ah}(j:Nat):(dj g k kind p)[10+j]? =(kind::UInt8.ofNat p.length::(p++(List.replicate (112 - p.length) 0++be 4 g)))[j]?:=by rw[<-vX (g:=g) (k:=k),List.getElem?_drop]
theorem CT{g k:Nat}{kind:UInt8}{p:ah}:(dj g k kind p).getD 10 0=kind:=by rw[List.getD_eq_getElem?_getD,CS 0];rfl
theorem CR{g k:Nat}{kind:UInt8}{p:ah}(hp:p.length<=112):bM (dj g k kind p)=p.length:=by
 unfold bM;rw[List.getD_eq_getElem?_getD,CS 1];simp;omega
theorem yi{g k:Nat}{kind:UInt8}{p:ah}(hp:p.length<=112):piece (dj g k kind p)=p:=by
 unfold piece;rw[CR hp,show(12:Nat)=10+2 from rfl,<-List.drop_drop,vX];simp
theorem Ih{g k:Nat}{kind:UInt8}{p:ah}(h0:0<g)(hg:g<4294967296)(hp:p.length<=112)(hk:kind.toNat<=3)(h1:2<=kind.toNat\/p.length=112)(h2:kind.toNat % 2=1\/p.length≠0):fH (dj g k kind p) k=true:=by
 unfold fH yQ pP;rw[nN hg,CT,CR hp,yi hp];have h3:kind.toNat % 2=1\/¬p=[]:=h2.imp id fun h e=>h (by simp[e]);simp[*]
theorem Ac(k n:Nat)(h:0<n):(ic k n).toNat % 2=1<->k=0:=by
 unfold ic;split
 ·split<;>simp[*]
 ·split<;>simp[*]
theorem xL(k n:Nat)(h:k<n):2<=(ic k n).toNat<->k+1=n:=by
 unfold ic;split
 ·split
  ·simp;omega
  ·simp;omega
 ·split
  ·simp;omega
  ·simp;omega
theorem J0(k n:Nat):(ic k n).toNat<=3:=by
 unfold ic;split
 ·split<;>simp
 ·split<;>simp
theorem sB{b:ah}{k:Nat}(h:k<bn b):((b.drop (112 * k)).take 112).length<=112/\(¬k+1=bn b->((b.drop (112 * k)).take 112).length=112)/\(k≠0->((b.drop (112 * k)).take 112).length≠0)/\(k+1=bn b->b.take (112 * k)++(b.drop (112 * k)).take 112=b):=by
 unfold bn at *;refine⟨by simp;omega,fun h1=>by simp;omega,fun h1=>by simp;omega,fun h1=>?_⟩;rw[<-List.take_add,List.take_of_length_le oM]
theorem DY{g a k:Nat}{b:ah}(h0:0<g)(hg:g<4294967296)(h:k<bn b):fH (dX g a (bn b) b k).data (a+k)=true:=by
 obtain⟨h1,h2,h3,h4⟩:=sB h;refine Ih h0 hg h1 (J0 _ _) ?_ ?_
 ·by_cases hl:k+1=bn b
  ·exact .inl ((xL k _ h).2 hl)
  ·exact .inr (h2 hl)
 ·by_cases hz:k=0
  ·exact .inl ((Ac k _ oM).2 hz)
  ·exact .inr (h3 hz)
theorem qJ{S:List ah}{g a k f last:Nat}{b acc:ah}(h0:0<g)(hg:g<4294967296)(hl:last<=g)(h:k<bn b)(hx:S[a+k]? =some (dX g a (bn b) b k).data)(ha:S[a]? =some (dX g a (bn b) b 0).data):
 cP S a last (f+1) (a+k) acc=if k+1=bn b then some (acc++(b.drop (112 * k)).take 112,a+k+1)else cP S a last f (a+k+1) (acc++(b.drop (112 * k)).take 112):=by
 obtain⟨h1,h2,h3,h4⟩:=sB h;rw[ox hx,DY h0 hg h];have e1:gen (dX g a (bn b) b k).data=g:=nN hg;have e2:gen (S.getD a [])=g:=by rw[List.getD_eq_getElem?_getD,ha];exact nN hg
 have e3:pP (dX g a (bn b) b k).data=(ic k (bn b)).toNat:=by show((dj _ _ _ _).getD 10 0).toNat=_;rw[CT]
 have e4:piece (dX g a (bn b) b k).data=(b.drop (112 * k)).take 112:=yi h1;rw[e1,e2,e3,e4];have c1:(decide ((ic k (bn b)).toNat % 2=1)==decide (a+k=a))=true:=by
  have:=Ac k (bn b) oM;by_cases hz:k=0
  ·rw[decide_eq_true (this.2 hz),decide_eq_true oM];rfl
  ·rw[decide_eq_false (fun h=>hz (this.1 h)),decide_eq_false oM];rfl
 have hk:=xL k _ h;rw[c1];by_cases hz:k+1=bn b
 ·simp[hl,hz,hk.2 hz]
 ·simp[hl,hz,fun h=>hz (hk.1 h)];intro h;exact absurd (hk.1 h) hz
theorem H2{S:List ah}{g a last:Nat}{b:ah}(h0:0<g)(hg:g<4294967296)(hl:last<=g)(hw:∀k,k<bn b->S[a+k]? =some (dX g a (bn b) b k).data):
 cP S a last (S.length - a) a []=some (b,a+bn b):=by
 have hp:=qX b;have ha:=hw 0 oM;suffices ∀r k f,k+(r+1)=bn b->r<f->cP S a last f (a+k) (b.take (112 * k))=some (b,a+bn b) by
  have hlen:=(List.getElem?_eq_some_iff.1 (hw (bn b - 1) oM)).1;simpa using this (bn b - 1) 0 (S.length - a) oM oM
 intro r;induction r with
 |zero=>
  intro k f hk hf;obtain⟨f,rfl⟩:∃f',f=f'+1:=⟨f - 1,by omega⟩
  rw[qJ h0 hg hl oM (hw k oM) ha,if_pos oM,(sB (show k<bn b by omega)).2.2.2 oM,show a+k+1=a+bn b by omega]
 |succ r ih=>
  intro k f hk hf;obtain⟨f,rfl⟩:∃f',f=f'+1:=⟨f - 1,by omega⟩
  rw[qJ h0 hg hl oM (hw k oM) ha,if_neg oM,<-List.take_add,show 112 * k+112=112 * (k+1) by omega];exact ih (k+1) f oM oM
theorem H4{S:List ah}{g a last m:Nat}{b t:ah}(h0:0<g)(hg:g<4294967296)(hl:last<=g)(hm:m<bn b)(hw:∀k,k<m->S[a+k]? =some (dX g a (bn b) b k).data)(ht:S[a+m]? =some t)(hb:fH t (a+m)=false)(f:Nat):
 cP S a last f a []=none:=by
 suffices ∀r k f acc,k+r=m->cP S a last f (a+k) acc=none from this m 0 f [] oM
 intro r;induction r with
 |zero=>
  intro k f acc hk;cases f with
  |zero=>rfl
  |succ f=>rw[show k=m by omega,ox ht,hb];simp
 |succ r ih=>
  intro k f acc hk;cases f with
  |zero=>rfl
  |succ f=>
   rw[qJ h0 hg hl oM (hw k oM) (hw 0 oM),if_neg oM];exact ih (k+1) f _ oM
theorem zX{s:ah}{k:Nat}(h:fH s k=true):s.length=128/\(piece s).length=bM s/\bM s<=112/\(2<=pP s\/bM s=112)/\(pP s % 2=1\/bM s≠0):=by
 unfold fH yQ at h;simp only[Bool.and_eq_true,Bool.or_eq_true,decide_eq_true_eq,beq_iff_eq]at h;have hp:(piece s).length<=112:=by unfold piece;simp;omega
 have hs:s.length=128:=by rw[h.2];exact qY hp
 refine⟨hs,?_,by omega,by omega,by omega⟩;unfold piece;simp;omega
theorem AX{S:List ah}{a last:Nat}:∀ {f n:Nat} {acc b:ah} {e:Nat},cP S a last f n acc=some (b,e)->a<=n->acc.length=112 * (n - a)->e=a+bn b
 |0,n,acc,b,e,h,_,_=>by simp[cP]at h
 |f+1,n,acc,b,e,h,ha,hl=>by
  unfold cP at h;cases hs:S[n]? with
  |none=>rw[hs]at h;cases h
  |some s=>
   rw[hs]at h;simp only at h;split at h
   ·rename_i hc;simp only[Bool.and_eq_true,decide_eq_true_eq,beq_iff_eq]at hc;obtain⟨g1,g2,g3,g4,g5⟩:=zX hc.1.1.1;have hod:=hc.1.1.2;split at h
    ·rename_i hk;simp only[Option.some.injEq,Prod.mk.injEq]at h;obtain⟨rfl,rfl⟩:=h;unfold bn;rw[List.length_append,g2,hl];by_cases hn:n=a
     ·subst hn;omega
     ·rw[decide_eq_false hn]at hod;have:¬pP s % 2=1:=by simpa using hod
      omega
    ·rename_i hk;refine AX h oM ?_;rw[List.length_append,g2,hl];omega
   ·cases h
inductive Reads(S:List ah):Nat->Nat->List ah->Nat->Nat->Prop where
 |nil (a last:Nat):Reads S a last [] a last
 |cons {a last n a' last':Nat} {b:ah} {l:List ah} (h:cP S a last (S.length - a) a []=some (b,n)) (hs:Reads S n (gen (S.getD a [])) l a' last'):Reads S a last (b::l) a' last'
theorem Reads.size{S:List ah}{a last a' last':Nat}{l:List ah}(h:Reads S a last l a' last'):a'=a+aS l:=by
 induction h with
 |nil=>simp[aS]
 |cons h hs ih=>
  have:=AX h (Nat.le_refl _) sI;simp only[aS,List.map_cons,List.sum_cons]at *;omega
theorem Reads.app{S:List ah}{a last a1 l1 a2 l2:Nat}{l m:List ah}(h:Reads S a last l a1 l1)(h2:Reads S a1 l1 m a2 l2):Reads S a last (l++m) a2 l2:=by
 induction h with
 |nil=>exact h2
 |cons h hs ih=>exact .cons h (ih h2)
theorem HZ{S:List ah}{a last a' last':Nat}{l:List ah}(h:Reads S a last l a' last'):∀ {f:Nat},S.length<=a+f->cP S a' last' (S.length - a') a' []=none->(jy S f a last).map (·.1)=l:=by
 induction h with
 |nil a last=>
  intro f hf hn;cases f with
  |zero=>rfl
  |succ f=>rw[jz,hn];rfl
 |cons h hs ih=>
  intro f hf hn;have:=ky h;simp only at this;cases f with
  |zero=>omega
  |succ f=>rw[jz,h];simp only[List.map_cons];rw[ih oM hn]
theorem vR{S:List ah}{a' last':Nat}{l:List ah}(h:Reads S 0 0 l a' last')(hn:cP S a' last' (S.length - a') a' []=none):bU S=l:=HZ h sI hn
theorem tP(S:List ah):∀(f a last:Nat),S.length<=a+f->∃a' last',Reads S a last ((jy S f a last).map (·.1)) a' last'/\cP S a' last' (S.length - a') a' []=none
 |0,a,last,h=>⟨a,last,.nil _ _,by rw[show S.length - a=0 by omega];rfl⟩
 |f+1,a,last,h=>by
  rw[jz];cases hr:cP S a last (S.length - a) a []with
  |none=>exact⟨a,last,.nil _ _,hr⟩
  |some p=>
   obtain⟨b,n⟩:=p;have:=ky hr;simp only at this;obtain⟨a',last',h1,h2⟩:=tP S f n (gen (S.getD a [])) oM;exact⟨a',last',.cons hr h1,h2⟩
theorem D9(S:List ah):∃a' last',Reads S 0 0 (bU S) a' last'/\cP S a' last' (S.length - a') a' []=none:=tP S S.length 0 0 sI
theorem AW{S T:List ah}{a last:Nat}:∀ {f n:Nat} {acc b:ah} {e:Nat},cP S a last f n acc=some (b,e)->a<=n->(∀i,i<e->T[i]? =S[i]?)->cP T a last f n acc=some (b,e)
 |0,n,acc,b,e,h,_,_=>by simp[cP]at h
 |f+1,n,acc,b,e,h,ha,hk=>by
  have hlt:=ky h;simp only at hlt;have hn:=hk n oM;have h0:T.getD a []=S.getD a []:=by rw[List.getD_eq_getElem?_getD,List.getD_eq_getElem?_getD,hk a oM]
  unfold cP at h⊢;rw[hn,h0];cases hs:S[n]? with
  |none=>rw[hs]at h;cases h
  |some s=>
   rw[hs]at h;simp only at h⊢;split at h
   ·rename_i hc;rw[if_pos hc];split at h
    ·rename_i hc2;rw[if_pos hc2];exact h
    ·rename_i hc2;rw[if_neg hc2];exact AW h oM hk
   ·cases h
theorem Reads.mono{S:List ah}{a last a' last':Nat}{l:List ah}(h:Reads S a last l a' last'):a<=a':=by rw[h.size];omega
theorem Reads.fy{S T:List ah}{a last a' last':Nat}{l:List ah}(h:Reads S a last l a' last')(hl:T.length=S.length)(hk:∀i,i<a'->T[i]? =S[i]?):Reads T a last l a' last':=by
 induction h with
 |nil=>exact .nil _ _
 |@cons a last n a' last' b l h hs ih=>
  have hlt:=ky h;simp only at hlt;have hm:=hs.mono;have h0:T.getD a []=S.getD a []:=by rw[List.getD_eq_getElem?_getD,List.getD_eq_getElem?_getD,hk a oM]
  refine .cons (n:=n) (by rw[hl];exact AW h (Nat.le_refl _) fun i hi=>hk i oM) ?_;rw[h0];exact ih hk
theorem s8{S:List ah}{s:ah}(h:s∈S):num (s.take 4)<bQ S/\num (s.drop 124)<bQ S:=by
 suffices ∀(S:List ah) (g:Nat),g<=S.foldl (fun g s=>max g (max (num (s.take 4)) (num (s.drop 124)))) g/\(s∈S->num (s.take 4)<=S.foldl (fun g s=>max g (max (num (s.take 4)) (num (s.drop 124)))) g/\num (s.drop 124)<=S.foldl (fun g s=>max g (max (num (s.take 4)) (num (s.drop 124)))) g) by
  have:=(this S 0).2 h;unfold bQ;omega
 intro S;induction S with
 |nil=>intro g;exact⟨Nat.le_refl _,fun h=>by cases h⟩
 |cons x S ih=>
  intro g;obtain⟨i1,i2⟩:=ih (max g (max (num (x.take 4)) (num (x.drop 124))));rw[List.foldl_cons];refine⟨by omega,fun hm=>?_⟩;rcases List.mem_cons.1 hm with rfl|hm
  ·omega
  ·exact i2 hm
theorem Reads.J2{S:List ah}{a last a' last':Nat}{l:List ah}(h:Reads S a last l a' last')(hl:last<bQ S):last'<bQ S:=by
 induction h with
 |nil=>exact hl
 |@cons a last n a' last' b l h hs ih=>
  refine ih ?_;have hlt:=ky h;simp only at hlt;have ha:S.getD a []∈S:=by rw[List.getD_eq_getElem?_getD,List.getElem?_eq_getElem oM];exact List.getElem_mem _
  exact(s8 ha).1
theorem uo:∀(W:List bA) (a:Nat) (S:List ah),(∀k w,W[k]? =some w->w.at_=((a+k:Nat):Int))->a+W.length<=S.length->∀i,(cK S W)[i]? =if a<=i/\i<a+W.length then(W[i - a]?).map (·.data)else S[i]?
 |[],a,S,_,_,i=>by rw[if_neg sI];rfl
 |w::W,a,S,h,hl,i=>by
  have hw:=h 0 w rfl;simp only[List.length_cons]at hl;have e:cK S (w::W)=cK (S.set a w.data) W:=by
   show cK (S.set w.at_.toNat w.data) W=_;rw[hw];rfl
  rw[e,uo W (a+1) (S.set a w.data) (fun k x hx=>by rw[h (k+1) x (by simpa using hx)];omega) (by simp;omega) i];by_cases h1:a+1<=i/\i<a+1+W.length
  ·rw[if_pos h1,if_pos (by simp;omega),show i - a=(i - (a+1))+1 by omega,List.getElem?_cons_succ]
  ·rw[if_neg h1,List.getElem?_set];by_cases h2:a=i
   ·subst h2;rw[if_pos rfl,if_pos oM,if_pos sI];simp
   ·rw[if_neg h2,if_neg (by simp;omega)]
theorem AU{g a k:Nat}{b:ah}(h:k<bn b):(iD g a b)[k]? =some (dX g a (bn b) b k):=by
 unfold iD;rw[List.getElem?_map,List.getElem?_range h];rfl
theorem B0:∀(l:List ah) (g a k:Nat) (w:bA),(bP g a l)[k]? =some w->w.at_=((a+k:Nat):Int)
 |[],g,a,k,w,h=>by simp[bP]at h
 |b::l,g,a,k,w,h=>by
  rw[bP,List.getElem?_append]at h;rw[kA]at h;split at h
  ·rename_i hk;rw[AU hk]at h;injection h with h;subst h;rfl
  ·rename_i hk;rw[B0 l g (a+bn b) _ w h];omega
theorem mS{T:List ah}{g:Nat}(h0:0<g)(hg:g<4294967296):∀(v:List ah) (a last m:Nat),last<=g->m<=aS v->(∀k,k<m->∃w,(bP g a v)[k]? =some w/\T[a+k]? =some w.data)->(m<aS v->∃t,T[a+m]? =some t/\fH t (a+m)=false)->
 ∃q a' last',q<=v.length/\Reads T a last (v.take q) a' last'/\(m=0->q=0\/v=[])/\((m=aS v/\q=v.length/\(v≠[]->last'=g))\/(m<aS v/\cP T a' last' (T.length - a') a' []=none))
 |[],a,last,m,hl,hm,hw,ht=>⟨0,a,last,Nat.le_refl _,.nil _ _,fun _=> .inl rfl,.inl ⟨by simp[aS]at *;omega,rfl,fun h=>absurd rfl h⟩⟩
 |b::v,a,last,m,hl,hm,hw,ht=>by
  have hu:aS (b::v)=bn b+aS v:=by simp[aS]
  have hp:=qX b;rw[hu]at hm ht;have hw1:∀k,k<m->k<bn b->T[a+k]? =some (dX g a (bn b) b k).data:=fun k hk hk2=>by
   obtain⟨w,h1,h2⟩:=hw k hk;rw[bP,List.getElem?_append_left (by rw[kA];exact hk2),AU hk2]at h1;injection h1 with h1;subst h1;exact h2
  by_cases hmb:bn b<=m
  ·have hr:=H2 (S:=T) (a:=a) (last:=last) (b:=b) h0 hg hl fun k hk=>hw1 k oM hk;have hga:gen (T.getD a [])=g:=by have h00:=hw1 0 oM oM;rw[Nat.add_zero]at h00;rw[List.getD_eq_getElem?_getD,h00];exact nN hg
   obtain⟨q,a',last',i1,i2,i3,i4⟩:=mS h0 hg v (a+bn b) g (m - bn b) (Nat.le_refl _) oM (fun k hk=>by
    obtain⟨w,h1,h2⟩:=hw (bn b+k) oM;refine⟨w,?_,by rw[Nat.add_assoc];exact h2⟩;rw[bP,List.getElem?_append_right (by rw[kA];omega),kA,Nat.add_sub_cancel_left]at h1;exact h1) (fun h=>by
    obtain⟨t,h1,h2⟩:=ht oM;rw[show a+bn b+(m - bn b)=a+m by omega];exact⟨t,h1,h2⟩)
   refine⟨q+1,a',last',by simp;omega,.cons hr (by rw[hga];exact i2),fun h=>by omega,?_⟩;rcases i4 with⟨j1,j2,j3⟩|⟨j1,j2⟩
   ·refine .inl ⟨by omega,by simp[j2],fun _=>?_⟩;by_cases hv:v=[]
    ·subst hv;simp at j2;subst j2;cases i2;rfl
    ·exact j3 hv
   ·exact .inr ⟨by omega,j2⟩
  ·obtain⟨t,h1,h2⟩:=ht oM;exact⟨0,a,last,Nat.zero_le _,.nil _ _,fun _=> .inl rfl,.inr ⟨by omega,H4 h0 hg hl oM (fun k hk=>hw1 k hk oM) h1 h2 _⟩⟩
theorem Is{n o:ah}{g k:Nat}(hn:n.length=128)(ho:o.length=128)(hg:gen n=g)(hlt:num (o.drop 124)<g):fH (n.take 64++o.drop 64) k=false:=by
 cases h:fH (n.take 64++o.drop 64) k with
 |false=>rfl
 |true=>
  have h1:=(zX h)
  have hG:gen (n.take 64++o.drop 64)=g:=by
   unfold gen at *;rw[List.take_append_of_le_length (by simp;omega),List.take_take];exact hg
  have hD:(n.take 64++o.drop 64).drop 124=o.drop 124:=by
   rw[List.drop_append,List.drop_of_length_le (by simp;omega),List.nil_append,List.drop_drop]
   congr 1;simp;omega
  unfold fH at h;simp only[Bool.and_eq_true,beq_iff_eq]at h;have h2:=congrArg (List.drop 124) h.2;rw[A4 oM,hD,hG]at h2;rw[h2,vH]at hlt;have:=Nat.mod_le g (256 ^ 4);have hgl:g<256 ^ 4:=by rw[<-hg];have:=oe (n.take 4);rw[show(n.take 4).length=4 by simp;omega]at this;exact this
  rw[Nat.mod_eq_of_lt hgl]at hlt;omega
structure N6(S:List ah):Prop where
 a:∀x∈S,x.length=128
 b:S.length<=4096
theorem Io{rs S:List ah}{y:Nat}{L:Int}{st:Bool}(hS:N6 S)(hr:bU S=rs.take y)(hy:y<=rs.length)(hu:aS rs<=S.length)(hG:bQ S<4294967296):
 bU (cK S (bP (bQ S) (aS (rs.take y)) (rs.drop y)))=rs/\
 ∀m:Nat,m<aS (rs.drop y)->∃q,y<=q/\q<=rs.length/\(m=0->q=y)/\bU (lD ⟨S,bP (bQ S) (aS (rs.take y)) (rs.drop y),m,st⟩)=rs.take q:=by
 obtain⟨a',last',r1,r2⟩:=D9 S;have hsp:=rl rs y;rw[hr]at r1;have hsz:=r1.size;rw[Nat.zero_add]at hsz;subst hsz;have h0:0<bQ S:=by unfold bQ;omega
 have hl0:=r1.J2 h0;generalize hA:aS (rs.take y)=A at *;generalize hg:bQ S=g at *;generalize hv:rs.drop y=v at *;have hvr:rs.take y++v=rs:=by rw[<-hv,List.take_append_drop]
 have hwl:=nT g v A;have hat:=B0 v g A;have hpg:=uo (bP g A v) A S hat oM;constructor
 ·generalize hT:cK S (bP g A v)=T at *;have hTl:T.length=S.length:=by rw[<-hT,gZ]
  obtain⟨q,a2,l2,i1,i2,i3,i4⟩:=mS (T:=T) h0 hG v A last' (aS v) oM (Nat.le_refl _) (fun k hk=>by
   refine⟨(bP g A v)[k]'oM,List.getElem?_eq_getElem _,?_⟩;rw[hpg,if_pos oM,Nat.add_sub_cancel_left,List.getElem?_eq_getElem oM];rfl) (fun h=>by omega)
  rcases i4 with⟨_,rfl,j⟩|⟨j,_⟩
  rotate_left
  ·omega
  rw[List.take_length]at i2;have hk:=(r1.fy hTl fun i hi=>by rw[hpg,if_neg oM]).app i2;rw[hvr]at hk;refine vR hk ?_;have hsz:=i2.size;by_cases hve:v=[]
  ·subst hve;have hTS:T=S:=by rw[<-hT];simp[bP,cK]
   rw[hTS];cases i2;exact r2
  ·have hl2:=j hve;by_cases hend:a2<S.length
   ·have ha2:T[a2]? =some (S[a2]'hend):=by rw[hpg,if_neg oM,List.getElem?_eq_getElem hend]
    obtain⟨f,hf⟩:∃f,T.length - a2=f+1:=⟨T.length - a2 - 1,by omega⟩
    have hgm:=s8 (List.getElem_mem hend);rw[hg]at hgm;rw[hf,ox ha2,if_neg];simp only[Bool.and_eq_true,decide_eq_true_eq,hl2];rintro⟨_,h⟩;have:gen (S[a2]'hend)<g:=hgm.1;omega
   ·rw[show T.length - a2=0 by omega];rfl
 ·intro m hm;have hml:m<(bP g A v).length:=oM;obtain⟨w,hw⟩:∃w,(bP g A v)[m]? =some w:=⟨_,List.getElem?_eq_getElem hml⟩
  have hwa:=hat m w hw;have hwm:=qd (List.mem_of_getElem? hw);have hpm:=uo ((bP g A v).take m) A S (fun k x hx=>hat k x (by
   rw[List.getElem?_take]at hx;split at hx
   ·exact hx
   ·cases hx)) (by simp;omega)
  have hml2:((bP g A v).take m).length=m:=by simp;omega
  rw[hml2]at hpm;generalize hT:lD ⟨S,bP g A v,m,st⟩=T;have hAm:A+m<S.length:=oM;have ho:(cK S ((bP g A v).take m))[A+m]? =some (S[A+m]'hAm):=by rw[hpm,if_neg oM,List.getElem?_eq_getElem hAm]
  have hT2:T=(cK S ((bP g A v).take m)).set (A+m) (w.data.take 64++(S[A+m]'hAm).drop 64):=by
   rw[<-hT];unfold lD;simp only[Int.toNat_natCast,List.getD_eq_getElem?_getD,hw,Option.getD_some,hwa,ho]
  have hTl:T.length=S.length:=by rw[hT2];simp[gZ]
  have hTi:∀i,T[i]? =if i=A+m then some (w.data.take 64++(S[A+m]'hAm).drop 64)else if A<=i/\i<A+m then((bP g A v)[i - A]?).map (·.data)else S[i]?:=fun i=>by
   rw[hT2,List.getElem?_set];by_cases hi:i=A+m
   ·rw[if_pos hi.symm,if_pos (by rw[gZ];omega),if_pos hi]
   ·rw[if_neg (fun h=>hi h.symm),if_neg hi,hpm];by_cases h2:A<=i/\i<A+m
    ·rw[if_pos h2,if_pos h2,List.getElem?_take,if_pos oM]
    ·rw[if_neg h2,if_neg h2]
  have hgw:gen w.data=g:=by
   suffices ∀(l:List ah) (a:Nat),w∈bP g a l->gen w.data=g from this v A (List.mem_of_getElem? hw)
   intro l;induction l with
   |nil=>intro a h;simp[bP]at h
   |cons b l ih=>
    intro a h;simp only[bP,List.mem_append]at h;rcases h with h|h
    ·simp only[iD,List.mem_map,List.mem_range]at h;obtain⟨k,hk,rfl⟩:=h;exact nN hG
    ·exact ih _ h
  have hbad:fH (w.data.take 64++(S[A+m]'hAm).drop 64) (A+m)=false:=by
   have hgm:=s8 (List.getElem_mem hAm);rw[hg]at hgm;exact Is hwm.2.2 (hS.a _ (List.getElem_mem hAm)) hgw hgm.2
  obtain⟨q,a2,l2,i1,i2,i3,i4⟩:=mS (T:=T) h0 hG v A last' m oM oM (fun k hk=>by
   refine⟨(bP g A v)[k]'oM,List.getElem?_eq_getElem _,?_⟩;rw[hTi,if_neg oM,if_pos oM,Nat.add_sub_cancel_left,List.getElem?_eq_getElem oM];rfl) (fun _=>⟨_,by rw[hTi,if_pos rfl],hbad⟩)
  rcases i4 with⟨j,_⟩|⟨_,j⟩
  ·omega
  have hk:=(r1.fy hTl fun i hi=>by rw[hTi,if_neg oM,if_neg oM]).app i2;have hvl:v.length=rs.length - y:=by rw[<-hv,List.length_drop]
  have hq:rs.take y++v.take q=rs.take (y+q):=by rw[<-hv,List.take_add]
  rw[hq]at hk;refine⟨y+q,by omega,by omega,fun h=>?_,vR hk j⟩;rcases i3 h with h|h
  ·omega
  ·subst h;simp at i1;omega
end Go.V.Jn
namespace Go.V.Jn
open Go.Proofs Go.RowKit Go.V.Lx Go.V.Gr Go.V.Ty Go.V.St
mutual
def aQ.d:aQ->D
 | .i n=> .agg [I 1,I n,.str [],.sl 4 []]
 | .t s=> .agg [I 2,I 0,.str s,.sl 4 []]
 | .l xs=> .agg [I 3,I 0,.str [],.sl 4 (dL xs)]
def dL:List aQ->List D
 |[]=>[]
 |x::xs=>x.d::dL xs
end
theorem E0:∀xs:List aQ,dL xs=xs.map aQ.d
 |[]=>rfl
 |x::xs=>by rw[dL,E0 xs];rfl
theorem jD(xs:List aQ):(aQ.l xs).d= .agg [I 3,I 0,.str [],.sl 4 (xs.map aQ.d)]:=by rw[aQ.d,E0]
theorem nR{P:aQ->Prop}(hi:∀n,P (.i n))(ht:∀s,P (.t s))(hl:∀xs,(∀x∈xs,P x)->P (.l xs)):∀v,P v
 | .i n=>hi n
 | .t s=>ht s
 | .l xs=>hl xs fun x hx=>nR hi ht hl x
termination_by v=>SizeOf.sizeOf v
decreasing_by
 have:=List.sizeOf_lt_of_mem hx;simp;omega
theorem xi(v:aQ):v.d.pure=true:=by
 induction v using nR with
 |hi n=>rfl
 |ht s=>rfl
 |hl xs ih=>
  rw[jD];have:D.aF (xs.map aQ.d)=true:=by rw[cA,List.all_eq_true];exact ih
  simp[D.pure,D.aF,this]
theorem jE(xs:List aQ):D.aF (xs.map aQ.d)=true:=by rw[cA,List.all_eq_true];exact fun v _=>xi v
theorem IA(v:aQ):v.d.cells.length=4/\v.d.one=false:=by
 cases v with
 |i n=>exact⟨rfl,rfl⟩
 |t s=>exact⟨rfl,rfl⟩
 |l xs=>rw[jD];exact⟨rfl,rfl⟩
mutual
def okW:aQ->Prop
 | .i n=> -9223372036854775808<=n/\n<=9223372036854775807
 | .t s=>True
 | .l xs=>mP xs
def mP:List aQ->Prop
 |[]=>True
 |x::xs=>okW x/\mP xs
end
theorem qE:∀xs:List aQ,mP xs<->∀x∈xs,okW x
 |[]=>by simp[mP]
 |x::xs=>by simp[mP,qE xs]
theorem vJ(xs:List aQ):okW (.l xs)<->∀x∈xs,okW x:=by rw[okW,qE]
abbrev pA(v:aQ):Prop:=okW v/\(bH v).length<=1099511627776
theorem G5:∀v:aQ,1<=(bH v).length
 | .i n=>by simp[bH]
 | .t s=>by simp[bH]
 | .l xs=>by simp[bH]
theorem nY:∀xs:List aQ,xs.length<=(cI xs).length
 |[]=>by simp[cI]
 |x::xs=>by have:=nY xs;have:=G5 x;simp[cI];omega
theorem lL{x:aQ}:∀ {xs:List aQ},x∈xs->(bH x).length<=(cI xs).length
 |y::xs,h=>by
  simp only[cI,List.length_append];rcases List.mem_cons.1 h with rfl|h
  ·omega
  ·have:=lL h;omega
theorem E3{xs:List aQ}{j:Nat}{x:aQ}(h:xs[j]? =some x):cI (xs.take (j+1))=cI (xs.take j)++bH x:=by rw[List.take_add_one,h,qs];simp[cI]
theorem E4(xs:List aQ)(j:Nat):(cI (xs.take j)).length<=(cI xs).length:=by
 have:=congrArg (fun l=>(cI l).length) (List.take_append_drop j xs);simp only[qs,List.length_append]at this;omega
theorem Dm{xs:List aQ}(h:pA (.l xs)):xs.length<=1099511627776/\(cI xs).length<=1099511627776/\∀x∈xs,pA x:=by
 obtain⟨h1,h2⟩:=h;rw[vJ]at h1;simp only[bH,List.length_cons,List.length_append]at h2;have:=nY xs;exact⟨by omega,by omega,fun x hx=>⟨h1 x hx,by have:=lL hx;omega⟩⟩
def bS(w:Word):aQ:=.l [.t w.t,.i w.f,.i w.u,.i w.s,.l (w.alts.map .t)]
def cw(h:aD):aQ:=.l [.i h.at_,.i h.src,.i h.seq,.i h.sent,.i h.kind,.i h.opat,.i h.cut,.l (h.words.map bS)]
def bV(h:aD):ah:=bH (cw h)
theorem xz:∀l:List ah,eC (l.map aQ.t)=0
 |[]=>rfl
 |x::l=>by simp[eC,eM,xz l]
theorem G3(w:Word):eM (bS w)=2:=by simp[bS,eM,eC,xz]
theorem xA:∀l:List Word,eC (l.map bS)<=2
 |[]=>by simp[eC]
 |x::l=>by have:=xA l;simp[eC,G3];omega
theorem xy(h:aD):eM (cw h)<=4:=by
 have:=xA h.words;simp[cw,eM,eC];omega
end Go.V.Jn
