/- Lemmas on plain data and programs: part B27. -/
import Derived.Test.YtkgloohlmogakaaGreatDoorB24
set_option linter.all false
set_option maxHeartbeats 8000000
namespace Go.V.Jn
open Go.V.Lx Go.V.Gr
def sX{g k:Nat}{kind:UInt8}{p:ah}(hg:g<4294967296):gen (ei g k kind p)=g:=by
 unfold gen ei;rw[List.take_left' (fC 4 g),tQ];exact Nat.mod_eq_of_lt hg
def Ip{g k:Nat}{kind:UInt8}{p:ah}(hp:p.length<=112):(ei g k kind p).drop 124=be 4 g:=by
 unfold ei;rw[<-List.append_assoc,<-List.append_assoc];exact List.drop_left' (by simp[fC,v8 hp])
def Df{g k:Nat}{kind:UInt8}{p:ah}:(ei g k kind p).drop 10=kind::UInt8.ofNat p.length::(p++(List.replicate (112 - p.length) 0++be 4 g)):=by
 unfold ei;generalize xB (body k kind p)=c;unfold body;have e:be 4 g++(be 4 c++(be 2 k++kind::UInt8.ofNat p.length::(p++List.replicate (112 - p.length) 0)++be 4 g))=(be 4 g++be 4 c++be 2 k)++(kind::UInt8.ofNat p.length::(p++(List.replicate (112 - p.length) 0++be 4 g))):=by simp[List.append_assoc]
 rw[e,List.drop_left' (by simp[fC])]
def Kq{g k:Nat}{kind:UInt8}{p:ah}(j:Nat):(ei g k kind p)[10+j]? =(kind::UInt8.ofNat p.length::(p++(List.replicate (112 - p.length) 0++be 4 g)))[j]?:=by rw[<-Df (g:=g) (k:=k),List.getElem?_drop]
def Kr{g k:Nat}{kind:UInt8}{p:ah}:(ei g k kind p).getD 10 0=kind:=by rw[List.getD_eq_getElem?_getD,Kq 0];rfl
def Kp{g k:Nat}{kind:UInt8}{p:ah}(hp:p.length<=112):bT (ei g k kind p)=p.length:=by
 unfold bT;rw[List.getD_eq_getElem?_getD,Kq 1];simp;omega
def Fu{g k:Nat}{kind:UInt8}{p:ah}(hp:p.length<=112):piece (ei g k kind p)=p:=by
 unfold piece;rw[Kp hp,show(12:Nat)=10+2 from rfl,<-List.drop_drop,Df];simp
def QV{g k:Nat}{kind:UInt8}{p:ah}(h0:0<g)(hg:g<4294967296)(hp:p.length<=112)(hk:kind.toNat<=3)(h1:2<=kind.toNat\/p.length=112)(h2:kind.toNat % 2=1\/p.length≠0):gD (ei g k kind p) k=true:=by
 unfold gD su sg;rw[sX hg,Kr,Kp hp,Fu hp];have h3:kind.toNat % 2=1\/¬p=[]:=h2.imp id fun h e=>h (by simp[e]);simp[*]
def Hn(k n:Nat)(h:0<n):(lz k n).toNat % 2=1<->k=0:=by
 unfold lz;split
 ·split<;>simp[*]
 ·split<;>simp[*]
def E3(k n:Nat)(h:k<n):2<=(lz k n).toNat<->k+1=n:=by
 unfold lz;split
 ·split
  ·simp;omega
  ·simp;omega
 ·split
  ·simp;omega
  ·simp;omega
def Tw(k n:Nat):(lz k n).toNat<=3:=by
 unfold lz;split
 ·split<;>simp
 ·split<;>simp
def zj{b:ah}{k:Nat}(h:k<bM b):((b.drop (112 * k)).take 112).length<=112/\(¬k+1=bM b->((b.drop (112 * k)).take 112).length=112)/\(k≠0->((b.drop (112 * k)).take 112).length≠0)/\(k+1=bM b->b.take (112 * k)++(b.drop (112 * k)).take 112=b):=by
 unfold bM at *;refine⟨by simp;omega,fun h1=>by simp;omega,fun h1=>by simp;omega,fun h1=>?_⟩;rw[<-List.take_add,List.take_of_length_le oM]
def LK{g a k:Nat}{b:ah}(h0:0<g)(hg:g<4294967296)(h:k<bM b):gD (fQ g a (bM b) b k).data (a+k)=true:=by
 obtain⟨h1,h2,h3,h4⟩:=zj h;refine QV h0 hg h1 (Tw _ _) ?_ ?_
 ·by_cases hl:k+1=bM b
  ·exact .inl ((E3 k _ h).2 hl)
  ·exact .inr (h2 hl)
 ·by_cases hz:k=0
  ·exact .inl ((Hn k _ oM).2 hz)
  ·exact .inr (h3 hz)
def wU{S:List ah}{g a k f last:Nat}{b acc:ah}(h0:0<g)(hg:g<4294967296)(hl:last<=g)(h:k<bM b)(hx:S[a+k]? =some (fQ g a (bM b) b k).data)(ha:S[a]? =some (fQ g a (bM b) b 0).data):
 cY S a last (f+1) (a+k) acc=if k+1=bM b then some (acc++(b.drop (112 * k)).take 112,a+k+1)else cY S a last f (a+k+1) (acc++(b.drop (112 * k)).take 112):=by
 obtain⟨h1,h2,h3,h4⟩:=zj h;rw[qH hx,LK h0 hg h];have e1:gen (fQ g a (bM b) b k).data=g:=sX hg;have e2:gen (S.getD a [])=g:=by rw[List.getD_eq_getElem?_getD,ha];exact sX hg
 have e3:sg (fQ g a (bM b) b k).data=(lz k (bM b)).toNat:=by show((ei _ _ _ _).getD 10 0).toNat=_;rw[Kr]
 have e4:piece (fQ g a (bM b) b k).data=(b.drop (112 * k)).take 112:=Fu h1;rw[e1,e2,e3,e4];have c1:(decide ((lz k (bM b)).toNat % 2=1)==decide (a+k=a))=true:=by
  have:=Hn k (bM b) oM;by_cases hz:k=0
  ·rw[decide_eq_true (this.2 hz),decide_eq_true oM];rfl
  ·rw[decide_eq_false (fun h=>hz (this.1 h)),decide_eq_false oM];rfl
 have hk:=E3 k _ h;rw[c1];by_cases hz:k+1=bM b
 ·simp[hl,hz,hk.2 hz]
 ·simp[hl,hz,fun h=>hz (hk.1 h)];intro h;exact absurd (hk.1 h) hz
def QK{S:List ah}{g a last:Nat}{b:ah}(h0:0<g)(hg:g<4294967296)(hl:last<=g)(hw:∀k,k<bM b->S[a+k]? =some (fQ g a (bM b) b k).data):
 cY S a last (S.length - a) a []=some (b,a+bM b):=by
 have hp:=xi b;have ha:=hw 0 oM;suffices ∀r k f,k+(r+1)=bM b->r<f->cY S a last f (a+k) (b.take (112 * k))=some (b,a+bM b) by
  have hlen:=(gS.1 (hw (bM b - 1) oM)).1;simpa using this (bM b - 1) 0 (S.length - a) oM oM
 intro r;induction r with
 |zero=>
  intro k f hk hf;obtain⟨f,rfl⟩:∃f',f=f'+1:=⟨f - 1,by omega⟩
  rw[wU h0 hg hl oM (hw k oM) ha,if_pos oM,(zj (show k<bM b by omega)).2.2.2 oM,show a+k+1=a+bM b by omega]
 |succ r ih=>
  intro k f hk hf;obtain⟨f,rfl⟩:∃f',f=f'+1:=⟨f - 1,by omega⟩
  rw[wU h0 hg hl oM (hw k oM) ha,if_neg oM,<-List.take_add,show 112 * k+112=112 * (k+1) by omega];exact ih (k+1) f oM oM
def QL{S:List ah}{g a last m:Nat}{b t:ah}(h0:0<g)(hg:g<4294967296)(hl:last<=g)(hm:m<bM b)(hw:∀k,k<m->S[a+k]? =some (fQ g a (bM b) b k).data)(ht:S[a+m]? =some t)(hb:gD t (a+m)=false)(f:Nat):
 cY S a last f a []=none:=by
 suffices ∀r k f acc,k+r=m->cY S a last f (a+k) acc=none from this m 0 f [] oM
 intro r;induction r with
 |zero=>
  intro k f acc hk;cases f with
  |zero=>rfl
  |succ f=>rw[show k=m by omega,qH ht,hb];simp
 |succ r ih=>
  intro k f acc hk;cases f with
  |zero=>rfl
  |succ f=>
   rw[wU h0 hg hl oM (hw k oM) (hw 0 oM),if_neg oM];exact ih (k+1) f _ oM
def GM{s:ah}{k:Nat}(h:gD s k=true):s.length=128/\(piece s).length=bT s/\bT s<=112/\(2<=sg s\/bT s=112)/\(sg s % 2=1\/bT s≠0):=by
 unfold gD su at h;simp only[bA,Bool.or_eq_true,decide_eq_true_eq,beq_iff_eq]at h;have hp:(piece s).length<=112:=by unfold piece;simp;omega
 have hs:s.length=128:=by rw[h.2];exact xj hp
 refine⟨hs,?_,by omega,by omega,by omega⟩;unfold piece;simp;omega
theorem Ih{S:List ah}{a last:Nat}:∀ {f n:Nat} {acc b:ah} {e:Nat},cY S a last f n acc=some (b,e)->a<=n->acc.length=112 * (n - a)->e=a+bM b
 |0,n,acc,b,e,h,_,_=>by simp[cY]at h
 |f+1,n,acc,b,e,h,ha,hl=>by
  unfold cY at h;cases hs:S[n]? with
  |none=>rw[hs]at h;cases h
  |some s=>
   rw[hs]at h;simp only at h;split at h
   ·rename_i hc;simp only[bA,decide_eq_true_eq,beq_iff_eq]at hc;obtain⟨g1,g2,g3,g4,g5⟩:=GM hc.1.1.1;have JQ:=hc.1.1.2;split at h
    ·rename_i hk;simp only[sJ,Prod.mk.injEq]at h;obtain⟨rfl,rfl⟩:=h;unfold bM;rw[List.length_append,g2,hl];by_cases hn:n=a
     ·subst hn;omega
     ·rw[decide_eq_false hn]at JQ;have:¬sg s % 2=1:=by simpa using JQ
      omega
    ·rename_i hk;refine Ih h oM ?_;rw[List.length_append,g2,hl];omega
   ·cases h
inductive Reads(S:List ah):Nat->Nat->List ah->Nat->Nat->Prop where
 |nil (a last:Nat):Reads S a last [] a last
 |cons {a last n a' dT:Nat} {b:ah} {l:List ah} (h:cY S a last (S.length - a) a []=some (b,n)) (hs:Reads S n (gen (S.getD a [])) l a' dT):Reads S a last (b::l) a' dT
theorem Reads.size{S:List ah}{a last a' dT:Nat}{l:List ah}(h:Reads S a last l a' dT):a'=a+aW l:=by
 induction h with
 |nil=>simp[aW]
 |cons h hs ih=>
  have:=Ih h (Nat.le_refl _) sI;simp only[aW,mC,List.sum_cons]at *;omega
theorem Reads.app{S:List ah}{a last a1 l1 a2 l2:Nat}{l m:List ah}(h:Reads S a last l a1 l1)(h2:Reads S a1 l1 m a2 l2):Reads S a last (l++m) a2 l2:=by
 induction h with
 |nil=>exact h2
 |cons h hs ih=>exact .cons h (ih h2)
theorem QI{S:List ah}{a last a' dT:Nat}{l:List ah}(h:Reads S a last l a' dT):∀ {f:Nat},S.length<=a+f->cY S a' dT (S.length - a') a' []=none->(lM S f a last).map (·.1)=l:=by
 induction h with
 |nil a last=>
  intro f hf hn;cases f with
  |zero=>rfl
  |succ f=>rw[kO,hn];rfl
 |cons h hs ih=>
  intro f hf hn;have:=nv h;simp only at this;cases f with
  |zero=>omega
  |succ f=>rw[kO,h];simp only[mC];rw[ih oM hn]
def Da{S:List ah}{a' dT:Nat}{l:List ah}(h:Reads S 0 0 l a' dT)(hn:cY S a' dT (S.length - a') a' []=none):cF S=l:=QI h sI hn
theorem AU(S:List ah):∀(f a last:Nat),S.length<=a+f->∃a' dT,Reads S a last ((lM S f a last).map (·.1)) a' dT/\cY S a' dT (S.length - a') a' []=none
 |0,a,last,h=>⟨a,last,.nil _ _,by rw[show S.length - a=0 by omega];rfl⟩
 |f+1,a,last,h=>by
  rw[kO];cases hr:cY S a last (S.length - a) a []with
  |none=>exact⟨a,last,.nil _ _,hr⟩
  |some p=>
   obtain⟨b,n⟩:=p;have:=nv hr;simp only at this;obtain⟨a',dT,h1,h2⟩:=AU S f n (gen (S.getD a [])) oM;exact⟨a',dT,.cons hr h1,h2⟩
def LY(S:List ah):∃a' dT,Reads S 0 0 (cF S) a' dT/\cY S a' dT (S.length - a') a' []=none:=AU S S.length 0 0 sI
theorem Ig{S T:List ah}{a last:Nat}:∀ {f n:Nat} {acc b:ah} {e:Nat},cY S a last f n acc=some (b,e)->a<=n->(∀i,i<e->T[i]? =S[i]?)->cY T a last f n acc=some (b,e)
 |0,n,acc,b,e,h,_,_=>by simp[cY]at h
 |f+1,n,acc,b,e,h,ha,hk=>by
  have ar:=nv h;simp only at ar;have hn:=hk n oM;have h0:T.getD a []=S.getD a []:=by rw[List.getD_eq_getElem?_getD,List.getD_eq_getElem?_getD,hk a oM]
  unfold cY at h⊢;rw[hn,h0];cases hs:S[n]? with
  |none=>rw[hs]at h;cases h
  |some s=>
   rw[hs]at h;simp only at h⊢;split at h
   ·rename_i hc;rw[if_pos hc];split at h
    ·rename_i lj;rw[if_pos lj];exact h
    ·rename_i lj;rw[if_neg lj];exact Ig h oM hk
   ·cases h
theorem Reads.mono{S:List ah}{a last a' dT:Nat}{l:List ah}(h:Reads S a last l a' dT):a<=a':=by rw[h.size];omega
theorem Reads.jb{S T:List ah}{a last a' dT:Nat}{l:List ah}(h:Reads S a last l a' dT)(hl:T.length=S.length)(hk:∀i,i<a'->T[i]? =S[i]?):Reads T a last l a' dT:=by
 induction h with
 |nil=>exact .nil _ _
 |@cons a last n a' dT b l h hs ih=>
  have ar:=nv h;simp only at ar;have hm:=hs.mono;have h0:T.getD a []=S.getD a []:=by rw[List.getD_eq_getElem?_getD,List.getD_eq_getElem?_getD,hk a oM]
  refine .cons (n:=n) (by rw[hl];exact Ig h (Nat.le_refl _) fun i hi=>hk i oM) ?_;rw[h0];exact ih hk
def zU{S:List ah}{s:ah}(h:s∈S):num (s.take 4)<cP S/\num (s.drop 124)<cP S:=by
 suffices ∀(S:List ah) (g:Nat),g<=S.foldl (fun g s=>max g (max (num (s.take 4)) (num (s.drop 124)))) g/\(s∈S->num (s.take 4)<=S.foldl (fun g s=>max g (max (num (s.take 4)) (num (s.drop 124)))) g/\num (s.drop 124)<=S.foldl (fun g s=>max g (max (num (s.take 4)) (num (s.drop 124)))) g) by
  have:=(this S 0).2 h;unfold cP;omega
 intro S;induction S with
 |nil=>intro g;exact⟨Nat.le_refl _,fun h=>by cases h⟩
 |cons x S ih=>
  intro g;obtain⟨i1,i2⟩:=ih (max g (max (num (x.take 4)) (num (x.drop 124))));rw[List.foldl_cons];refine⟨by omega,fun hm=>?_⟩;rcases List.mem_cons.1 hm with rfl|hm
  ·omega
  ·exact i2 hm
theorem Reads.Tz{S:List ah}{a last a' dT:Nat}{l:List ah}(h:Reads S a last l a' dT)(hl:last<cP S):dT<cP S:=by
 induction h with
 |nil=>exact hl
 |@cons a last n a' dT b l h hs ih=>
  refine ih ?_;have ar:=nv h;simp only at ar;have ha:S.getD a []∈S:=by rw[List.getD_eq_getElem?_getD,gE oM];exact List.getElem_mem _
  exact(zU ha).1
theorem Bt:∀(W:List bX) (a:Nat) (S:List ah),(∀k w,W[k]? =some w->w.at_=((a+k:Nat):Int))->a+W.length<=S.length->∀i,(ey S W)[i]? =if a<=i/\i<a+W.length then(W[i - a]?).map (·.data)else S[i]?
 |[],a,S,_,_,i=>by rw[if_neg sI];rfl
 |w::W,a,S,h,hl,i=>by
  have hw:=h 0 w rfl;simp only[List.length_cons]at hl;have e:ey S (w::W)=ey (S.set a w.data) W:=by
   show ey (S.set w.at_.toNat w.data) W=_;rw[hw];rfl
  rw[e,Bt W (a+1) (S.set a w.data) (fun k x hx=>by rw[h (k+1) x (by simpa using hx)];omega) (by simp;omega) i];by_cases h1:a+1<=i/\i<a+1+W.length
  ·rw[if_pos h1,if_pos (by simp;omega),show i - a=(i - (a+1))+1 by omega,List.getElem?_cons_succ]
  ·rw[if_neg h1,List.getElem?_set];by_cases h2:a=i
   ·subst h2;rw[if_pos rfl,if_pos oM,if_pos sI];simp
   ·rw[if_neg h2,if_neg (by simp;omega)]
def Ic{g a k:Nat}{b:ah}(h:k<bM b):(lY g a b)[k]? =some (fQ g a (bM b) b k):=by
 unfold lY;rw[gM,List.getElem?_range h];rfl
theorem Jm:∀(l:List ah) (g a k:Nat) (w:bX),(cO g a l)[k]? =some w->w.at_=((a+k:Nat):Int)
 |[],g,a,k,w,h=>by simp[cO]at h
 |b::l,g,a,k,w,h=>by
  rw[cO,List.getElem?_append]at h;rw[o6]at h;split at h
  ·rename_i hk;rw[Ic hk]at h;injection h with h;subst h;rfl
  ·rename_i hk;rw[Jm l g (a+bM b) _ w h];omega
theorem rX{T:List ah}{g:Nat}(h0:0<g)(hg:g<4294967296):∀(v:List ah) (a last m:Nat),last<=g->m<=aW v->(∀k,k<m->∃w,(cO g a v)[k]? =some w/\T[a+k]? =some w.data)->(m<aW v->∃t,T[a+m]? =some t/\gD t (a+m)=false)->
 ∃q a' dT,q<=v.length/\Reads T a last (v.take q) a' dT/\(m=0->q=0\/v=[])/\((m=aW v/\q=v.length/\(v≠[]->dT=g))\/(m<aW v/\cY T a' dT (T.length - a') a' []=none))
 |[],a,last,m,hl,hm,hw,ht=>⟨0,a,last,Nat.le_refl _,.nil _ _,fun _=> .inl rfl,.inl ⟨by simp[aW]at *;omega,rfl,fun h=>absurd rfl h⟩⟩
 |b::v,a,last,m,hl,hm,hw,ht=>by
  have hu:aW (b::v)=bM b+aW v:=by simp[aW]
  have hp:=xi b;rw[hu]at hm ht;have uB:∀k,k<m->k<bM b->T[a+k]? =some (fQ g a (bM b) b k).data:=fun k hk bV=>by
   obtain⟨w,h1,h2⟩:=hw k hk;rw[cO,List.getElem?_append_left (by rw[o6];exact bV),Ic bV]at h1;injection h1 with h1;subst h1;exact h2
  by_cases hmb:bM b<=m
  ·have hr:=QK (S:=T) (a:=a) (last:=last) (b:=b) h0 hg hl fun k hk=>uB k oM hk;have hga:gen (T.getD a [])=g:=by have h00:=uB 0 oM oM;rw[Nat.add_zero]at h00;rw[List.getD_eq_getElem?_getD,h00];exact sX hg
   obtain⟨q,a',dT,i1,i2,i3,i4⟩:=rX h0 hg v (a+bM b) g (m - bM b) (Nat.le_refl _) oM (fun k hk=>by
    obtain⟨w,h1,h2⟩:=hw (bM b+k) oM;refine⟨w,?_,by rw[Nat.add_assoc];exact h2⟩;rw[cO,List.getElem?_append_right (by rw[o6];omega),o6,Nat.add_sub_cancel_left]at h1;exact h1) (fun h=>by
    obtain⟨t,h1,h2⟩:=ht oM;rw[show a+bM b+(m - bM b)=a+m by omega];exact⟨t,h1,h2⟩)
   refine⟨q+1,a',dT,by simp;omega,.cons hr (by rw[hga];exact i2),fun h=>by omega,?_⟩;rcases i4 with⟨j1,j2,j3⟩|⟨j1,j2⟩
   ·refine .inl ⟨by omega,by simp[j2],fun _=>?_⟩;by_cases hv:v=[]
    ·subst hv;simp at j2;subst j2;cases i2;rfl
    ·exact j3 hv
   ·exact .inr ⟨by omega,j2⟩
  ·obtain⟨t,h1,h2⟩:=ht oM;exact⟨0,a,last,Nat.zero_le _,.nil _ _,fun _=> .inl rfl,.inr ⟨by omega,QL h0 hg hl oM (fun k hk=>uB k hk oM) h1 h2 _⟩⟩
theorem Q6{n o:ah}{g k:Nat}(hn:n.length=128)(ho:o.length=128)(hg:gen n=g)(ar:num (o.drop 124)<g):gD (n.take 64++o.drop 64) k=false:=by
 cases h:gD (n.take 64++o.drop 64) k with
 |false=>rfl
 |true=>
  have h1:=(GM h)
  have hG:gen (n.take 64++o.drop 64)=g:=by
   unfold gen at *;rw[List.take_append_of_le_length (by simp;omega),List.take_take];exact hg
  have hD:(n.take 64++o.drop 64).drop 124=o.drop 124:=by
   rw[List.drop_append,List.drop_of_length_le (by simp;omega),List.nil_append,List.drop_drop]
   congr 1;simp;omega
  unfold gD at h;simp only[bA,beq_iff_eq]at h;have h2:=congrArg (List.drop 124) h.2;rw[Ip oM,hD,hG]at h2;rw[h2,tQ]at ar;have:=Nat.mod_le g (256 ^ 4);have Ay:g<256 ^ 4:=by rw[<-hg];have:=mh (n.take 4);rw[show(n.take 4).length=4 by simp;omega]at this;exact this
  rw[Nat.mod_eq_of_lt Ay]at ar;omega
structure YQ(S:List ah):Prop where
 a:∀x∈S,x.length=128
 b:S.length<=4096
def Q2{rs S:List ah}{y:Nat}{L:Int}{st:Bool}(hS:YQ S)(hr:cF S=rs.take y)(hy:y<=rs.length)(hu:aW rs<=S.length)(hG:cP S<4294967296):
 cF (ey S (cO (cP S) (aW (rs.take y)) (rs.drop y)))=rs/\
 ∀m:Nat,m<aW (rs.drop y)->∃q,y<=q/\q<=rs.length/\(m=0->q=y)/\cF (qb ⟨S,cO (cP S) (aW (rs.take y)) (rs.drop y),m,st⟩)=rs.take q:=by
 obtain⟨a',dT,r1,r2⟩:=LY S;have yK:=xu rs y;rw[hr]at r1;have bP:=r1.size;rw[Nat.zero_add]at bP;subst bP;have h0:0<cP S:=by unfold cP;omega
 have AA:=r1.Tz h0;generalize hA:aW (rs.take y)=A at *;generalize hg:cP S=g at *;generalize hv:rs.drop y=v at *;have hvr:rs.take y++v=rs:=by rw[<-hv,List.take_append_drop]
 have sf:=s8 g v A;have fN:=Jm v g A;have Wf:=Bt (cO g A v) A S fN oM;constructor
 ·generalize hT:ey S (cO g A v)=T at *;have VB:T.length=S.length:=by rw[<-hT,kZ]
  obtain⟨q,a2,l2,i1,i2,i3,i4⟩:=rX (T:=T) h0 hG v A dT (aW v) oM (Nat.le_refl _) (fun k hk=>by
   refine⟨(cO g A v)[k]'oM,gE _,?_⟩;rw[Wf,if_pos oM,Nat.add_sub_cancel_left,gE oM];rfl) (fun h=>by omega)
  rcases i4 with⟨_,rfl,j⟩|⟨j,_⟩
  rotate_left
  ·omega
  rw[tL]at i2;have hk:=(r1.jb VB fun i hi=>by rw[Wf,if_neg oM]).app i2;rw[hvr]at hk;refine Da hk ?_;have bP:=i2.size;by_cases hve:v=[]
  ·subst hve;have hTS:T=S:=by rw[<-hT];simp[cO,ey]
   rw[hTS];cases i2;exact r2
  ·have pk:=j hve;by_cases tw:a2<S.length
   ·have VD:T[a2]? =some (S[a2]'tw):=by rw[Wf,if_neg oM,gE tw]
    obtain⟨f,hf⟩:∃f,T.length - a2=f+1:=⟨T.length - a2 - 1,by omega⟩
    have NC:=zU (List.getElem_mem tw);rw[hg]at NC;rw[hf,qH VD,if_neg];simp only[bA,decide_eq_true_eq,pk];rintro⟨_,h⟩;have:gen (S[a2]'tw)<g:=NC.1;omega
   ·rw[show T.length - a2=0 by omega];rfl
 ·intro m hm;have yG:m<(cO g A v).length:=oM;obtain⟨w,hw⟩:∃w,(cO g A v)[m]? =some w:=⟨_,gE yG⟩
  have Wu:=fN m w hw;have yL:=vW (mG hw);have vA:=Bt ((cO g A v).take m) A S (fun k x hx=>fN k x (by
   rw[List.getElem?_take]at hx;split at hx
   ·exact hx
   ·cases hx)) (by simp;omega)
  have aei:((cO g A v).take m).length=m:=by simp;omega
  rw[aei]at vA;generalize hT:qb ⟨S,cO g A v,m,st⟩=T;have GR:A+m<S.length:=oM;have ho:(ey S ((cO g A v).take m))[A+m]? =some (S[A+m]'GR):=by rw[vA,if_neg oM,gE GR]
  have hT2:T=(ey S ((cO g A v).take m)).set (A+m) (w.data.take 64++(S[A+m]'GR).drop 64):=by
   rw[<-hT];unfold qb;simp only[Int.toNat_natCast,List.getD_eq_getElem?_getD,hw,Option.getD_some,Wu,ho]
  have VB:T.length=S.length:=by rw[hT2];simp[kZ]
  have VA:∀i,T[i]? =if i=A+m then some (w.data.take 64++(S[A+m]'GR).drop 64)else if A<=i/\i<A+m then((cO g A v)[i - A]?).map (·.data)else S[i]?:=fun i=>by
   rw[hT2,List.getElem?_set];by_cases hi:i=A+m
   ·rw[if_pos hi.symm,if_pos (by rw[kZ];omega),if_pos hi]
   ·rw[if_neg (fun h=>hi h.symm),if_neg hi,vA];by_cases h2:A<=i/\i<A+m
    ·rw[if_pos h2,if_pos h2,List.getElem?_take,if_pos oM]
    ·rw[if_neg h2,if_neg h2]
  have hgw:gen w.data=g:=by
   suffices ∀(l:List ah) (a:Nat),w∈cO g a l->gen w.data=g from this v A (mG hw)
   intro l;induction l with
   |nil=>intro a h;simp[cO]at h
   |cons b l ih=>
    intro a h;simp only[cO,List.mem_append]at h;rcases h with h|h
    ·simp only[lY,List.mem_map,List.mem_range]at h;obtain⟨k,hk,rfl⟩:=h;exact sX hG
    ·exact ih _ h
  have wA:gD (w.data.take 64++(S[A+m]'GR).drop 64) (A+m)=false:=by
   have NC:=zU (List.getElem_mem GR);rw[hg]at NC;exact Q6 yL.2.2 (hS.a _ (List.getElem_mem GR)) hgw NC.2
  obtain⟨q,a2,l2,i1,i2,i3,i4⟩:=rX (T:=T) h0 hG v A dT m oM oM (fun k hk=>by
   refine⟨(cO g A v)[k]'oM,gE _,?_⟩;rw[VA,if_neg oM,if_pos oM,Nat.add_sub_cancel_left,gE oM];rfl) (fun _=>⟨_,by rw[VA,if_pos rfl],wA⟩)
  rcases i4 with⟨j,_⟩|⟨_,j⟩
  ·omega
  have hk:=(r1.jb VB fun i hi=>by rw[VA,if_neg oM,if_neg oM]).app i2;have CM:v.length=rs.length - y:=by rw[<-hv,List.length_drop]
  have hq:rs.take y++v.take q=rs.take (y+q):=by rw[<-hv,List.take_add]
  rw[hq]at hk;refine⟨y+q,by omega,by omega,fun h=>?_,Da hk j⟩;rcases i3 h with h|h
  ·omega
  ·subst h;simp at i1;omega
end Go.V.Jn
