/- Plain laws: B19. -/
import Derived.Test.YtkgloohlmogakaaGreatDoorB18
import Derived.Test.YtkgloohlmogakaaGreatDoorB17
import Derived.Test.YtkgloohlmogakaaGreatDoorB15
import Derived.Test.YtkgloohlmogakaaGreatDoorB14
set_option linter.all false
set_option maxHeartbeats 8000000
set_option maxRecDepth 100000
namespace Go.V.St
open Go.Proofs Go.Proofs.Tryz Go.RowKit Go.V.Lx Go.V.Gr Go.V.Ty
attribute [simp] aO
instance(n a b:Int):Ct 257 [I n,I a,I b] True (.bool (aO n a b)):=by
 refine bf f257 [] [.tmp 6] fun pre=>?_;repeat' first|exact zQ|with_reducible apply zJ<;>intro _|refine zK ?_
 all_goals first|with_reducible exact .refl _|(refine ab ?_;have aQ:=aQ.out zz;simp[*];done)|((try refine ab ?_);exact zz)
instance(l:List Int):Ct 332 [ints l] (Lm l) (.bool (l.all fun n=>aO n 0 63)):=by
 refine bf f332 [] [.tmp 2] fun pre=>?_;generalize hA:List.all l _=A;repeat' first|exact zQ|with_reducible apply zJ<;>intro _|refine zK ?_
 refine gR l hA 3 [(2,21)] [] pre sG ?_ ?_
 ·intro j x τ β hx hj hw h3 aQ;repeat' first|exact zQ|with_reducible apply zJ<;>intro _|refine zK ?_
  all_goals first|with_reducible exact .refl _|(refine ab ?_;have aQ:=aQ.out zz;simp[*];done)|((try refine ab ?_);exact zz)
 ·intro τ β hn h3 ha;repeat' first|exact zQ|with_reducible apply zJ<;>intro _|refine zK ?_
  all_goals first|with_reducible exact .refl _|(refine ab ?_;have aQ:=aQ.out zz;simp[*];done)|((try refine ab ?_);exact zz)
structure P2 where
 a:Int
 b:Int
@[reducible] def P2.d(x:P2):D:=.agg [I x.a,I x.b]
section
variable {f:Nat} {caps:List D}
instance{p:ah->Bool}{q:ah->Prop}[h:∀x,Ct f (D.str x::caps) (q x) (.bool (p x))](l:List ah):Ct 321 [.sl 1 (l.map D.str),.fn (.func f) caps] (D.aF caps=true/\Lm l/\∀x∈l,q x) (I (fk p l)):=by
 refine bf f321 [] [.tmp 4] fun pre=>?_;obtain⟨hp,hl,hq⟩:=pre;generalize hA:List.findIdx? p l=A;unfold fk;rw[hA];repeat' first|exact zQ|with_reducible apply zJ<;>intro _|refine zK ?_
 refine vL l hA 8 [(4,5),(8,18)] [] hl sG ?_ ?_
 ·intro j x τ β hx hj hw h8 aQ;have hq:=hq x (mG hx);repeat' first|exact zQ|with_reducible apply zJ<;>intro _|refine zK ?_
  rw[aQ.out (by assumption)];exact .refl _
 ·intro τ β hn h8 ha;subst ha;repeat' first|exact zQ|with_reducible apply zJ<;>intro _|refine zK ?_
instance{p:ah->Bool}{q:ah->Prop}[h:∀x,Ct f (D.str x::caps) (q x) (.bool (p x))](l:List ah):Ct 277 [.sl 1 (l.map D.str),.fn (.func f) caps] (D.aF caps=true/\Lm l/\∀x∈l,q x) (.bool (l.any p)):=by
 refine bf f277 [] [.tmp 4] fun pre=>?_;obtain⟨hp,hl,hq⟩:=pre;rw[<-jK];repeat' first|exact zQ|with_reducible apply zJ<;>intro _|refine zK ?_
instance{p:Int->Bool}{q:Int->Prop}[h:∀x,Ct f (I x::caps) (q x) (.bool (p x))](l:List Int):Ct 286 [.sl 1 (l.map I),.fn (.func f) caps] (D.aF caps=true/\Lm l/\∀x∈l,q x) (I (fk p l)):=by
 refine bf f286 [] [.tmp 4] fun pre=>?_;obtain⟨hp,hl,hq⟩:=pre;generalize hA:List.findIdx? p l=A;unfold fk;rw[hA];repeat' first|exact zQ|with_reducible apply zJ<;>intro _|refine zK ?_
 refine vL l hA 8 [(4,5),(8,18)] [] hl sG ?_ ?_
 ·intro j x τ β hx hj hw h8 aQ;have hq:=hq x (mG hx);repeat' first|exact zQ|with_reducible apply zJ<;>intro _|refine zK ?_
  rw[aQ.out (by assumption)];exact .refl _
 ·intro τ β hn h8 ha;subst ha;repeat' first|exact zQ|with_reducible apply zJ<;>intro _|refine zK ?_
instance{p:Int->Bool}{q:Int->Prop}[h:∀x,Ct f (I x::caps) (q x) (.bool (p x))](l:List Int):Ct 236 [.sl 1 (l.map I),.fn (.func f) caps] (D.aF caps=true/\Lm l/\∀x∈l,q x) (.bool (l.any p)):=by
 refine bf f236 [] [.tmp 4] fun pre=>?_;obtain⟨hp,hl,hq⟩:=pre;rw[<-jK];repeat' first|exact zQ|with_reducible apply zJ<;>intro _|refine zK ?_
instance{p:cM->Bool}{q:cM->Prop}[h:∀x,Ct f (cM.d x::caps) (q x) (.bool (p x))](l:List cM):Ct 194 [.sl 14 (l.map cM.d),.fn (.func f) caps] (D.aF caps=true/\Lm l/\∀x∈l,q x) (I (fk p l)):=by
 refine bf f194 [] [.tmp 4] fun pre=>?_;obtain⟨hp,hl,hq⟩:=pre;generalize hA:List.findIdx? p l=A;unfold fk;rw[hA];repeat' first|exact zQ|with_reducible apply zJ<;>intro _|refine zK ?_
 refine vL l hA 8 [(4,5),(8,18)] [] hl sG ?_ ?_
 ·intro j x τ β hx hj hw h8 aQ;have hq:=hq x (mG hx);repeat' first|exact zQ|with_reducible apply zJ<;>intro _|refine zK ?_
  rw[aQ.out (by assumption)];exact .refl _
 ·intro τ β hn h8 ha;subst ha;repeat' first|exact zQ|with_reducible apply zJ<;>intro _|refine zK ?_
end
end Go.V.St
namespace Go.V.St
open Go.Proofs Go.Proofs.Tryz Go.RowKit Go.V.Lx Go.V.Gr Go.V.Ty
def nf(s:ah):Int×Int:=if na s then(0,0)else((eC s).1,(eC s).2)
def ia(s:ah)(r:Int):Nat->Int
 |0=>r
 |j+1=>ia s r j * 64+bI s (j+1) - 128
def Bn(s:ah)(j:Nat):Prop:=∀i,i<j->128<=bI s (i+1)/\bI s (i+1)<192
theorem DU{s:ah}{r:Int}(h0:0<=r)(h1:r<128):∀j,Bn s j->0<=ia s r j/\ia s r j<128 * 64 ^ j
 |0,_=>⟨h0,by simpa[ia]using h1⟩
 |j+1,h=>by
  obtain⟨h2,h3⟩:=DU h0 h1 j fun i hi=>h i oM;obtain⟨h4,h5⟩:=h j oM;have:(64:Int) ^ (j+1)=64 * 64 ^ j:=by rw[Int.pow_succ];omega
  simp only[ia];omega
def iR(s:ah)(i:Nat):bI s i<256:=by unfold bI;exact UInt8.toNat_lt _
instance(b:Int):Ct 355 [I b] (0<=b/\b<256) (.aI [I (iY b).1,I (iY b).2]):=⟨fun h=>Xv b h.1 h.2⟩
instance(n:Int):Ct 356 [I n] True (.bool (iy n)):=⟨fun _=>KF n⟩
@[reducible] def aed(l:ah):D:=.sl 1 (l.map fun b=>D.int .u8 (b.toNat:Int))
@[go_sem] theorem K8:∀l:ah,ji (l.map fun b=>D.int .u8 (b.toNat:Int))=some l
 |[]=>rfl
 |b::l=>by rw[mC,I_,K8 l];simp
instance(n:Int):Ct 357 [I n] (0<=n/\n<=1114111) (aed (jj n.toNat)):=⟨fun h=>by
 have:=Tp n.toNat oM;rwa[Int.toNat_of_nonneg h.1]at this⟩
def JJ{s:ah}{i:Nat}(h:i<s.length):∃b,s[i]? =some b/\(b.toNat:Int)=bI s i:=⟨s[i],gE h,by simp[bI,gE h]⟩
def rm{b:Int}(h:(iY b).1≠0):(b<128/\iY b=(1,b))\/(192<=b/\b<224/\iY b=(2,b - 192))\/(224<=b/\b<240/\iY b=(3,b - 224))\/(240<=b/\b<248/\iY b=(4,b - 240)):=by
 unfold iY at h⊢;by_cases h1:b<128
 ·exact .inl ⟨h1,by rw[if_pos h1]⟩
 by_cases h2:192<=b/\b<224
 ·exact .inr (.inl ⟨h2.1,h2.2,by rw[if_neg h1,if_pos h2]⟩)
 by_cases h3:224<=b/\b<240
 ·exact .inr (.inr (.inl ⟨h3.1,h3.2,by rw[if_neg h1,if_neg h2,if_pos h3]⟩))
 by_cases h4:240<=b/\b<248
 ·exact .inr (.inr (.inr ⟨h4.1,h4.2,by rw[if_neg h1,if_neg h2,if_neg h3,if_pos h4]⟩))
 ·rw[if_neg h1,if_neg h2,if_neg h3,if_neg h4]at h;exact absurd rfl h
def Ux{s:ah}{n:Nat}(h:n<=s.length):s.take n=(List.range n).map fun i=>UInt8.ofNat (bI s i):=by
 apply List.ext_getElem
 ·simp;omega
 ·intro i h1 h2;simp only[List.getElem_take,List.getElem_map,List.getElem_range];simp only[List.length_take]at h1;simp[bI,gE (show i<s.length by omega)]
def Gy{s:ah}{n:Nat}{r:Int}(hn:n<=s.length)(hc:Bn s (n - 1))(hb:(iY (bI s 0))=((n:Int),r))(hz:n≠0):
 (jj (ia s r (n - 1)).toNat=s.take n)<->(if n=1 then 0 else if n=2 then 128 else if n=3 then 2048 else 65536:Int)<=ia s r (n - 1):=by
 rw[Ux hn];have ar:=iR s 0;have ob:∀ {a b:Nat},a=b->UInt8.ofNat a=UInt8.ofNat b:=fun h=>by rw[h]
 rcases rm (b:=(bI s 0:Int)) (by rw[hb];simpa using hz)with⟨h1,h2⟩|⟨h1,ly,h2⟩|⟨h1,ly,h2⟩|⟨h1,ly,h2⟩<;>rw[hb]at h2<;>injection h2 with h2 h3
 ·obtain rfl:n=1:=oM;subst h3;simp[ia,jj,show bI s 0<128 by omega,List.range_succ]
 ·obtain rfl:n=2:=oM;have c0:=hc 0 oM;simp only[ia,Nat.zero_add]at c0⊢;obtain⟨m,hm⟩:∃m:Nat,r * 64+(bI s 1:Int) - 128=m:=⟨(r * 64+(bI s 1:Int) - 128).toNat,by omega⟩
  simp only[hm,Int.toNat_natCast,List.range_succ,List.range_zero,List.nil_append,List.cons_append,mC,List.map_nil];unfold jj;by_cases h5:m<128
  ·rw[if_pos h5];simp;omega
  ·rw[if_neg h5,if_pos oM];exact⟨fun _=>by simp;omega,fun _=>by rw[ob (show 192+m / 64=bI s 0 by omega),ob (show 128+m % 64=bI s 1 by omega)]⟩
 ·obtain rfl:n=3:=oM;have c0:=hc 0 oM;have c1:=hc 1 oM;simp only[ia,Nat.zero_add,Nat.reduceAdd]at c0 c1⊢;obtain⟨m,hm⟩:∃m:Nat,(r * 64+(bI s 1:Int) - 128) * 64+(bI s 2:Int) - 128=m:=⟨((r * 64+(bI s 1:Int) - 128) * 64+(bI s 2:Int) - 128).toNat,by omega⟩
  simp only[hm,Int.toNat_natCast,List.range_succ,List.range_zero,List.nil_append,List.cons_append,mC,List.map_nil];unfold jj;by_cases h5:m<128
  ·rw[if_pos h5];simp;omega
  by_cases h6:m<2048
  ·rw[if_neg h5,if_pos h6];simp;omega
  ·rw[if_neg h5,if_neg h6,if_pos oM];exact⟨fun _=>by simp;omega,fun _=>by rw[ob (show 224+m / 4096=bI s 0 by omega),ob (show 128+m / 64 % 64=bI s 1 by omega),ob (show 128+m % 64=bI s 2 by omega)]⟩
 ·obtain rfl:n=4:=oM;have c0:=hc 0 oM;have c1:=hc 1 oM;have c2:=hc 2 oM;simp only[ia,Nat.zero_add,Nat.reduceAdd]at c0 c1 c2⊢;obtain⟨m,hm⟩:∃m:Nat,((r * 64+(bI s 1:Int) - 128) * 64+(bI s 2:Int) - 128) * 64+(bI s 3:Int) - 128=m:=⟨(((r * 64+(bI s 1:Int) - 128) * 64+(bI s 2:Int) - 128) * 64+(bI s 3:Int) - 128).toNat,by omega⟩
  simp only[hm,Int.toNat_natCast,List.range_succ,List.range_zero,List.nil_append,List.cons_append,mC,List.map_nil];unfold jj;by_cases h5:m<128
  ·rw[if_pos h5];simp;omega
  by_cases h6:m<2048
  ·rw[if_neg h5,if_pos h6];simp;omega
  by_cases h7:m<65536
  ·rw[if_neg h5,if_neg h6,if_pos h7];simp;omega
  ·rw[if_neg h5,if_neg h6,if_neg h7];exact⟨fun _=>by simp;omega,fun _=>by rw[ob (show 240+m / 262144=bI s 0 by omega),ob (show 128+m / 4096 % 64=bI s 1 by omega),ob (show 128+m / 64 % 64=bI s 2 by omega),ob (show 128+m % 64=bI s 3 by omega)]⟩
def Po(s:ah)(r:Int):ia s r (1 - 1)=r:=rfl
def UZ(s:ah)(r:Int):ia s r (2 - 1)=r * 64+bI s 1 - 128:=rfl
def U0(s:ah)(r:Int):ia s r (3 - 1)=(r * 64+bI s 1 - 128) * 64+bI s 2 - 128:=rfl
def U1(s:ah)(r:Int):ia s r (4 - 1)=((r * 64+bI s 1 - 128) * 64+bI s 2 - 128) * 64+bI s 3 - 128:=rfl
def CH(s:ah)(n:Nat)(r:Int):Prop:=n≠0/\n<=s.length/\Bn s (n - 1)/\iy (ia s r (n - 1))=true/\jj (ia s r (n - 1)).toNat=s.take n
def ER{s:ah}{a n:Nat}(h:s≠[])(hd:Lib.decodeN s.length (bI s 0) (bI s 1) (bI s 2) (bI s 3)=(a,n)):nf s=if a=65533/\n<2 then(0,0)else((a:Int),(n:Int)):=by
 have:eC s=(a,n):=by unfold eC;rw[if_neg (by simpa using h),hd]
 unfold nf na;rw[this];by_cases h1:a=65533<;>by_cases h2:n<2<;>simp[h1,h2]
def xo(n:Int):iy n=true<->0<=n/\n<=1114111/\(n<55296\/57343<n):=by unfold iy;simp[and_assoc]
def Nz{s:ah}{n:Nat}{r:Int}(hb:iY (bI s 0)=((n:Int),r))(hg:CH s n r):nf s=(ia s r (n - 1),(n:Int)):=by
 obtain⟨g1,g2,g3,g4,g5⟩:=hg;have hs:s≠[]:=fun h=>by subst h;simp at g2;omega
 rw[Gy g2 g3 hb g1]at g5;rw[xo]at g4;have h1:=iR s 1;have h2:=iR s 2;have h3:=iR s 3;have key:Lib.decodeN s.length (bI s 0) (bI s 1) (bI s 2) (bI s 3)=((ia s r (n - 1)).toNat,n):=by
  rcases rm (b:=(bI s 0:Int)) (by rw[hb];simpa using g1)with⟨e1,e2⟩|⟨e1,yB,e2⟩|⟨e1,yB,e2⟩|⟨e1,yB,e2⟩<;>rw[hb]at e2<;>injection e2 with e2 e3
  ·obtain rfl:n=1:=oM;simp only[ia,Lib.decodeN];rw[if_pos oM,e3];rfl
  ·obtain rfl:n=2:=oM;have c0:=g3 0 oM;simp only[ia,Nat.zero_add]at c0 g4 g5⊢;unfold Lib.decodeN;repeat' split
   all_goals first|(exfalso;omega)|(apply Prod.ext<;>simp only<;>omega)
  ·obtain rfl:n=3:=oM;have c0:=g3 0 oM;have c1:=g3 1 oM;simp only[ia,Nat.zero_add,Nat.reduceAdd]at c0 c1 g4 g5⊢;unfold Lib.decodeN;repeat' split
   all_goals first|(exfalso;omega)|(apply Prod.ext<;>simp only<;>omega)
  ·obtain rfl:n=4:=oM;have c0:=g3 0 oM;have c1:=g3 1 oM;have c2:=g3 2 oM;simp only[ia,Nat.zero_add,Nat.reduceAdd]at c0 c1 c2 g4 g5⊢;unfold Lib.decodeN;repeat' split
   all_goals first|(exfalso;omega)|(apply Prod.ext<;>simp only<;>omega)
 rw[ER hs key,if_neg,Int.toNat_of_nonneg oM];rintro⟨k1,k2⟩;obtain rfl:n=1:=oM;rw[Po]at k1 g5;rcases rm (b:=(bI s 0:Int)) (by rw[hb];simp)with⟨e1,e2⟩|⟨e1,yB,e2⟩|⟨e1,yB,e2⟩|⟨e1,yB,e2⟩<;>rw[hb]at e2<;>injection e2 with e2 e3<;>omega
def Qa{s:ah}(hs:s≠[]){n:Nat}{r:Int}(hb:iY (bI s 0)=((n:Int),r))(hg:¬CH s n r):nf s=(0,0):=by
 suffices key:Lib.decodeN s.length (bI s 0) (bI s 1) (bI s 2) (bI s 3)=(65533,1) by rw[ER hs key];rfl
 have hl:0<s.length:=List.length_pos_iff.2 hs;have h0:=iR s 0;have h1:=iR s 1;have h2:=iR s 2;have h3:=iR s 3;have hg:∀(g1:n≠0) (g2:n<=s.length) (g3:Bn s (n - 1)),iy (ia s r (n - 1))=true->(if n=1 then 0 else if n=2 then 128 else if n=3 then 2048 else 65536:Int)<=ia s r (n - 1)->False:=fun g1 g2 g3 g4 g5=>hg ⟨g1,g2,g3,g4,(Gy g2 g3 hb g1).2 g5⟩;simp only[xo]at hg;unfold iY at hb;unfold Lib.decodeN;repeat' split
 all_goals first|rfl|exfalso
 ·rw[if_pos oM]at hb;injection hb with e1 e2;obtain rfl:n=1:=oM;exact hg oM oM (fun i hi=>by omega) (by rw[Po];omega) (by rw[Po,if_pos rfl];omega)
 ·rw[if_neg oM,if_pos oM]at hb;injection hb with e1 e2;obtain rfl:n=2:=oM;exact hg oM oM (fun i hi=>by
   obtain rfl:i=0:=oM;simp only[Nat.zero_add];omega) (by rw[UZ];omega) (by rw[UZ,if_neg oM,if_pos rfl];omega)
 ·rw[if_neg oM,if_neg oM,if_pos oM]at hb;injection hb with e1 e2;obtain rfl:n=3:=oM;exact hg oM oM (fun i hi=>by
   obtain rfl|rfl:i=0\/i=1:=oM;all_goals simp only[Nat.zero_add,Nat.reduceAdd];omega) (by rw[U0];omega) (by rw[U0,if_neg oM,if_neg oM,if_pos rfl];omega)
 ·rw[if_neg oM,if_neg oM,if_neg oM,if_pos oM]at hb;injection hb with e1 e2;obtain rfl:n=4:=oM;exact hg oM oM (fun i hi=>by
   obtain rfl|rfl|rfl:i=0\/i=1\/i=2:=oM;all_goals simp only[Nat.zero_add,Nat.reduceAdd];omega) (by rw[U1];omega) (by rw[U1,if_neg oM,if_neg oM,if_neg oM];omega)
def Oq(b:Nat):∃(n:Nat) (r:Int),n<=4/\0<=r/\r<128/\iY b=((n:Int),r):=by
 by_cases h:(iY b).1=0
 ·refine⟨0,0,by omega,by omega,by omega,?_⟩;unfold iY at h⊢;repeat' split
  all_goals simp_all
 ·rcases rm h with⟨e1,e2⟩|⟨e1,yB,e2⟩|⟨e1,yB,e2⟩|⟨e1,yB,e2⟩
  ·exact⟨1,_,by omega,by omega,by omega,e2⟩
  ·exact⟨2,_,by omega,by omega,by omega,e2⟩
  ·exact⟨3,_,by omega,by omega,by omega,e2⟩
  ·exact⟨4,_,by omega,by omega,by omega,e2⟩
instance aho(s:ah):Ct 345 [.str s] (s≠[]) (.aI [I (nf s).1,I (nf s).2]):=by
 refine bf f345 [] [.tmp 2,.tmp 3] fun pre=>?_;have hl:0<s.length:=List.length_pos_iff.2 pre;obtain⟨b,hb,eo⟩:=JJ hl;have ar:=iR s 0;obtain⟨n,r,hn,oz,oA,hL⟩:=Oq (bI s 0);have no:=fun h=>Qa pre hL h;have yes:=Nz hL;have e1:(iY (bI s 0)).1=n:=by rw[hL]
 have e2:(iY (bI s 0)).2=r:=by rw[hL]
 generalize nf s=F at *;clear hL;have Db:¬CH s n r->bN (.aI [I 0,I 0]) (.aI [I F.1,I F.2]):=fun h=>by rw[no h];exact .refl _
 repeat' first|exact zQ|with_reducible apply zJ<;>intro _|refine zK ?_
 ·exact Db fun g=>g.1 oM
 ·exact Db fun g=>by have:=g.2.1;omega
 refine iS [(2,3),(5,7),(23,42)] [] (n - 1) (fun j τ _=>τ 6=I ((j+1:Nat):Int)/\τ 5=I (ia s r j)/\Bn s j) ⟨by simp[go_sem],by simp[go_sem,ia],fun i hi=>by omega⟩ ?_ ?_
 ·intro j τ β hj ⟨h6,h5,hc⟩;obtain⟨c,ow,ke⟩:=JJ (s:=s) (i:=j+1) oM;obtain⟨a0,a1⟩:=DU oz oA j hc;have p64:(64:Int) ^ j<=4096:=by
   obtain rfl|rfl|rfl:j=0\/j=1\/j=2:=oM;all_goals simp
  have hc3:=iR s (j+1);have ar:((j+1:Nat):Int)<(n:Int):=oM;have hs:Bn s (j+1)<->128<=bI s (j+1)/\bI s (j+1)<192:=⟨fun h=>h j oM,fun h i hi=>by
   by_cases pD:i=j
   ·subst pD;exact h
   ·exact hc i oM⟩
  have out:¬Bn s (j+1)->¬CH s n r:=fun h g=>h fun i hi=>g.2.2.1 i oM;repeat' first|exact zQ|with_reducible apply zJ<;>intro _|refine zK ?_
  ·exact Db (out (by rw[hs];omega))
  ·exact Db (out (by rw[hs];omega))
  ·exact⟨congrArg I oM,rfl,by omega,by omega⟩
 ·intro τ β ⟨h6,h5,hc⟩;have ar:¬((n - 1+1:Nat):Int)<(n:Int):=oM;obtain⟨a0,a1⟩:=DU oz oA (n - 1) hc;have hP:=(xo (ia s r (n - 1))).1;repeat' first|exact zQ|with_reducible apply zJ<;>intro _|refine zK ?_
  ·rw[yes ⟨by omega,by omega,hc,by assumption,by assumption⟩];exact .refl _
  ·exact Db fun g=>absurd g.2.2.2.2 (by assumption)
  ·exact Db fun g=>by simp_all[CH]
def fW(s:ah):List Int×Int:=if 4096<(s.length:Int)then([],2)else match nM s with
 |some l=>(l,0)
 |none=>([],90)
def Jh{t:ah}(h:na t=false):nf t=(((eC t).1:Int),((eC t).2:Int)):=by unfold nf;rw[h];rfl
def Tl{t:ah}(ht:t≠[]):(nf t).2=0<->na t=true:=by
 unfold nf;cases h:na t
 ·have:=l_ ht;simp;omega
 ·simp
instance ahL(s:ah):Ct 324 [.str s] True (.aI [ints (fW s).1,I (fW s).2]):=by
 refine bf f324 [(1000010,[])] [.tmp 2,.tmp 3] fun pre=>?_;repeat' first|exact zQ|with_reducible apply zJ<;>intro _|refine zK ?_
 ·rw[fW,if_pos (by assumption)];exact lk (.nil _) (.refl _)
 have no:nM s=none->fW s=([],90):=fun h=>by rw[fW,if_neg (by assumption),h]
 have yes:∀l,nM s=some l->fW s=(l,0):=fun l h=>by rw[fW,if_neg (by assumption),h]
 generalize fW s=R at *;refine rF (s,([]:List Int)) (fun g=>g.1.length) [(0,0),(2,6),(11,27)] (h_ [10,24]) (fun g τ β=>τ 0= .str g.1/\g.2.length+g.1.length<=4096/\(nM s=(nM g.1).map fun l=>g.2++l)/\aS β [10,24] 3 1 (τ 4) (g.2.map I)) ?_ ?_
 ·exact⟨by simp[go_sem],by simp;omega,by simp,.inr ⟨10,1,by simp,rfl,rfl⟩⟩
 rintro⟨t,acc⟩ τ β ⟨h0,hl,hr,hv⟩;simp only at h0 hl hr hv;by_cases ht:t=[]
 ·subst ht;repeat' first|exact zQ|with_reducible apply zJ<;>intro _|refine zK ?_
  refine Mr (hv.mix _) ?_;rw[yes acc (by rw[hr];simp[nM,uj])]
 have:(0:Int)<(t.length:Int):=by have:=List.length_pos_iff.2 ht;omega
 have hd:=A_ ht;have hb:=Tl ht;repeat' first|exact zQ|with_reducible apply zJ<;>intro _|refine zK ?_
 ·rw[no (by rw[hr,hd,if_pos (by assumption)];rfl)];exact lk (.nil _) (.refl _)
 have hb:na t=false:=by simp_all
 have hf:=Jh hb;have h2:=D3 ht hb;have h3:=l_ ht;refine app [10,24] (hv.mix _) fun x' β' aX=>?_;repeat' first|exact zQ|with_reducible apply zJ<;>intro _|refine zK ?_
 exact⟨(t.drop (eC t).2,acc++[((eC t).1:Int)]),by simp;omega,rfl,by simp;omega,by cases nM (t.drop (eC t).2)<;>simp,by simpa[hf]using aX.mix _⟩
def xq:Nat->ah->List Int×Bool
 |0,_=>([],false)
 |n+1,s=>if s=[]then([],false)else if na s then([],true)else(((eC s).1:Int)::(xq n (s.drop (eC s).2)).1,(xq n (s.drop (eC s).2)).2)
def gJ(s:ah):List Int×Bool:=xq s.length s
theorem FB:∀ {n m:Nat} {s:ah},s.length<=n->n<=m->xq m s=xq n s
 |0,0,_,_,_=>rfl
 |0,m+1,s,h,_=>by obtain rfl:s=[]:=List.length_eq_zero_iff.1 oM;rfl
 |n+1,m+1,s,h,hm=>by
  by_cases hs:s=[]
  ·subst hs;rfl
  have hp:=l_ hs;have hl:0<s.length:=List.length_pos_iff.2 hs;simp only[xq];rw[FB (n:=n) (m:=m) (by rw[List.length_drop];omega) oM]
def zC{s:ah}(h:s≠[]):gJ s=if na s then([],true)else(((eC s).1:Int)::(gJ (s.drop (eC s).2)).1,(gJ (s.drop (eC s).2)).2):=by
 have hp:=l_ h;have hl:0<s.length:=List.length_pos_iff.2 h;unfold gJ;rw[<-FB (m:=s.length - 1) (Nat.le_refl (s.drop (eC s).2).length) (by rw[List.length_drop];omega)];obtain⟨k,hk⟩:∃k,s.length=k+1:=⟨s.length - 1,by omega⟩
 rw[hk,Nat.add_sub_cancel,xq,if_neg h]
theorem xp:∀(n:Nat) (s:ah),s.length<=n->nM s=if(gJ s).2 then none else some (gJ s).1
 |n,s,hn=>by
  by_cases hs:s=[]
  ·subst hs;rfl
  have hp:=l_ hs;have hl:0<s.length:=List.length_pos_iff.2 hs;obtain⟨m,rfl⟩:∃m,n=m+1:=⟨n - 1,by omega⟩
  rw[A_ hs,zC hs];cases na s with
  |true=>rfl
  |false=>
   simp only[Bool.false_eq_true,if_false];rw[xp m _ (by rw[List.length_drop];omega)];cases(gJ (s.drop (eC s).2)).2<;>rfl
instance(s:ah):Ct 350 [.str s] True (.aI [.int .i32 (eC s).1,I (eC s).2]):=⟨fun _=>PT s⟩
abbrev uA:D:=.dI 398 (.agg [])
def Mb(s:ah):Option D:=if(gJ s).2 then some uA else none
def PS(s:ah):(eC s).1<=1114111:=by
 unfold eC;split
 ·simp
 ·have h0:=iR s 0;have h1:=iR s 1;have h2:=iR s 2;have h3:=iR s 3;unfold Lib.decodeN;repeat' split
  all_goals (simp only;omega)
def OM(s:ah)(e0:Nat):zY prog 349 ⟨e0,1,1,9,[.str s]⟩ ((gJ s).1.map fun n=>[I n]) (Mb s) 31:=by
 refine CE mixed (fn:=f349) (tab:=[]) ?_ rfl rfl ak;refine CF _ 29 rfl rfl rfl ak ?_;intro gs l e bx hk hz hb;repeat' first|exact zQ|with_reducible apply zJ<;>intro _|refine zK ?_
 refine yt (s,([]:List Int)) (fun g=>g.1.length) [(3,28)] (fun g τ β=>(β gs).sz=g.2.length/\(β gs).k=0/\β (gs+1)=⟨e,1,1,9,[.str g.1]⟩/\(gJ s).1=g.2++(gJ g.1).1/\(gJ s).2=(gJ g.1).2) ⟨hz,hk,hb,rfl,rfl⟩ ?_;rintro⟨t,acc⟩ τ β ⟨hz,hk,hb,hr,hp⟩;simp only at hz hk hb hr hp;have hP:Mb s=if(gJ t).2 then some uA else none:=by unfold Mb;rw[hp]
 by_cases ht:t=[]
 ·subst ht;repeat' first|exact zQ|with_reducible apply zJ<;>intro _|refine zK ?_
  simp[gJ,xq]
 have:(0:Int)<(t.length:Int):=by have:=List.length_pos_iff.2 ht;omega
 have hc:=zC ht;have h3:=l_ ht;cases wV:na t with
 |true=>
  rw[wV]at hc;simp only[na,bA,decide_eq_true_eq]at wV;have b1:((eC t).1:Int)=65533:=oM;have b2:((eC t).2:Int)<2:=oM;clear wV;rw[if_pos rfl]at hc;repeat' first|exact zQ|with_reducible apply zJ<;>intro _|refine zK ?_
 |false=>
  have h2:=D3 ht wV;have hx3:=PS t;have n1:¬gs=gs+1:=oM;have n2:¬gs+1=gs:=oM;rw[wV]at hc;simp only[Bool.false_eq_true,if_false]at hc;have key:¬(((eC t).1:Int)=65533/\((eC t).2:Int)<2):=by
   rintro⟨g1,g2⟩;rw[na,decide_eq_true oM,decide_eq_true oM]at wV;cases wV
  generalize hx:(eC t).1=x at *;generalize hm:(eC t).2=m at *;clear hP;repeat' first|exact zQ|with_reducible apply zJ<;>intro _|refine zK ?_
  ·exact absurd ⟨by assumption,by assumption⟩ key
  all_goals
   refine tp rfl sG (by simp[go_sem,aj,hz,hr,hc,gp];try omega) fun bx1=>⟨?_,?_⟩
   ·repeat' first|exact zQ|with_reducible apply zJ<;>intro _|refine zK ?_
    exact⟨(t.drop m,acc++[(x:Int)]),by simp;omega,by simp,rfl,by simp[*],rfl⟩
   ·repeat' first|exact zQ|with_reducible apply zJ<;>intro _|refine zK ?_
    exact .inr oM
theorem BL:∀(n:Nat) (s:ah),s.length<=n->(gJ s).1.length<=s.length
 |n,s,hn=>by
  by_cases hs:s=[]
  ·subst hs;simp[gJ,xq]
  have hp:=l_ hs;have hl:0<s.length:=List.length_pos_iff.2 hs;obtain⟨m,rfl⟩:∃m,n=m+1:=⟨n - 1,by omega⟩
  rw[zC hs];cases hb:na s with
  |true=>simp
  |false=>
   have:=D3 hs hb;have:=BL m (s.drop (eC s).2) (by rw[List.length_drop];omega);rw[List.length_drop]at this;simp only[Bool.false_eq_true,if_false,List.length_cons];omega
def Q5(s:ah)(bx:ae):bj prog 341 8 [.str s] bx (fun d bx'=>d= .fn (.func 349) [.loc 9 ((bx 9).ep+1) 0 0]/\bx'=aj bx 9 ⟨(bx 9).ep+1,1,1,9,[.str s]⟩) (fun _ _=>False):=by
 refine aK (fn:=f341) (tab:=[]) (base:=8) mixed ?_ rfl ak rfl;refine aL _ [.tmp 2] 4 rfl rfl rfl ak ?_;repeat' first|exact zQ|with_reducible apply zJ<;>intro _|refine zK ?_
def Pr(s:ah)(e:Nat)(bx:ae)(hb:bx 9=⟨e,1,1,9,[.str s]⟩)(hs:s.length<=4096):bj prog 348 16 [.aq,.fn (.func 349) [.loc 9 e 0 0]] bx
 (fun d bx'=>(gJ s).2=false/\aS bx' [27] 3 1 d ((gJ s).1.map I)/\∀q,q<9->bx' q=bx q) (fun d bx'=>(gJ s).2=true/\d=uA/\∀q,q<9->bx' q=bx q):=by
 refine aK (fn:=f348) (tab:=[]) (base:=16) mixed ?_ rfl ak rfl;refine aL _ [.tmp 4] 13 rfl rfl rfl ak ?_;have hlen:=BL _ s (Nat.le_refl _);repeat' first|exact zQ|with_reducible apply zJ<;>intro _|refine zK ?_
 refine EF 349 9 e ⟨e,1,1,9,[.str s]⟩ _ _ 31 (fun n bx'=>∃x,bx' 18=⟨(bx 18).ep+1,1,1,134,[x]⟩/\aS bx' [27] 3 1 x (((gJ s).1.take n).map I)/\∀q,q<9->bx' q=bx q) sG oM (by simp[go_sem,hb]) (OM s e) ?_ ?_ ?_
 ·repeat' first|exact zQ|with_reducible apply zJ<;>intro _|refine zK ?_
  exact⟨_,rfl,.nil _ _ _ _,fun q hq=>by rw[if_pos oM,if_neg oM,if_neg oM]⟩
 ·intro n it bx1 hi ⟨x,G4,hv,hq⟩;rw[gM,mS]at hi;obtain⟨y,hy,rfl⟩:=hi;have hn:n<(gJ s).1.length:=(gS.1 hy).1;rw[ky oM]at G4;replace hv:=hv.Az (fun t ht=>by simp at ht;omega);replace hq:∀q,q<9->bx1 q=bx q:=fun q h=>by rw[<-hq q h,ky oM]
  have hf:=hv.facts;repeat' first|exact zQ|with_reducible apply zJ<;>intro _|refine zK ?_
  refine app [27] hv (fun x' β aX=>?_) (by simp;omega);have hf:=aX.facts;repeat' first|exact zQ|with_reducible apply zJ<;>intro _|refine zK ?_
  refine⟨fun s h1 h2=>by rw[if_neg oM,if_pos oM,if_neg oM],x',rfl,?_,fun q h=>by rw[if_pos oM,if_neg oM,if_neg oM];exact hq q h⟩;rw[List.take_add_one,hy,Option.toList_some,List.map_append];exact aX.of fun t ht=>by simp at ht;subst ht;simp[bU,aj,bc,dA]
 ·intro bx1 ⟨x,G4,hv,hq⟩;rw[ky oM]at G4;replace hv:=hv.Az (fun t ht=>by simp at ht;omega);replace hq:∀q,q<9->bx1 q=bx q:=fun q h=>by rw[<-hq q h,ky oM]
  rw[List.length_map,tL]at hv;have hf:=hv.facts;unfold Mb;cases hp:(gJ s).2 with
  |true=>
   simp only[if_true,Eg];repeat' first|exact zQ|with_reducible apply zJ<;>intro _|refine zK ?_
   exact hq
  |false=>
   simp only[Bool.false_eq_true,if_false,Eg];repeat' first|exact zQ|with_reducible apply zJ<;>intro _|refine zK ?_
   exact hq
def Nl(s:ah)(e:Nat)(bx:ae)(hb:bx 9=⟨e,1,1,9,[.str s]⟩)(hs:s.length<=4096):bj prog 340 11 [.fn (.func 349) [.loc 9 e 0 0]] bx
 (fun d bx'=>(gJ s).2=false/\aS bx' [27] 3 1 d ((gJ s).1.map I)/\∀q,q<9->bx' q=bx q) (fun d bx'=>(gJ s).2=true/\d=uA/\∀q,q<9->bx' q=bx q):=by
 refine aK (fn:=f340) (tab:=[]) (base:=11) mixed ?_ rfl ak rfl;refine aL _ [.tmp 2] 5 rfl rfl rfl ak ?_;repeat' first|exact zQ|with_reducible apply zJ<;>intro _|refine zK ?_
 refine tG (Pr s e bx hb hs) rfl (fun d bx1 hq=>?_) (fun d bx1 hq=>?_)
 ·obtain⟨h1,h2,h3⟩:=hq;repeat' first|exact zQ|with_reducible apply zJ<;>intro _|refine zK ?_
  exact h3
 ·obtain⟨h1,h2,h3⟩:=hq;repeat' first|exact zQ|with_reducible apply zJ<;>intro _|refine zK ?_
  exact h3
variable {e2 e3:Nat} {x2 x3:D}
def rp(bx:ae)(h2:bx 2=⟨e2,1,1,134,[x2]⟩)(h3:bx 3=⟨e3,1,1,53,[x3]⟩):yI prog (cJ prog) [] f339 11 [.loc 2 e2 0 0,.loc 3 e3 0 0] bx .ret fun m' bx'=>m'= .ret/\bx'=bx:=by
 refine lV (t:=5) _ _ 16 rfl rfl rfl ak ak (aj (aj (bF 0 [.loc 2 e2 0 0,.loc 3 e3 0 0]) 5 (.raw .nilIface)) 2 (.raw .nilIface)) ?_ ?_
 ·repeat' first|exact zQ|with_reducible apply zJ<;>intro _|refine zK ?_
 ·repeat' first|exact zQ|with_reducible apply zJ<;>intro _|refine zK ?_
def Jt(bx:ae)(o2:x2.one=true)(o2:x3.one=true)(c2:∀c,fl x2 0 [c]=some c)(c3:∀c,fl x3 0 [c]=some c)(h2:bx 2=⟨e2,1,1,134,[x2]⟩)(h3:bx 3=⟨e3,1,1,53,[x3]⟩):
 yI prog (cJ prog) [] f339 11 [.loc 2 e2 0 0,.loc 3 e3 0 0] bx (.cX uA) fun m' bx'=>m'= .ret/\bx' 2=⟨e2,1,1,134,[.aq]⟩/\bx' 3=⟨e3,1,1,53,[I 90]⟩:=by
 refine lV (t:=5) _ _ 16 rfl rfl rfl ak ak (aj (aj (bF 0 [.loc 2 e2 0 0,.loc 3 e3 0 0]) 5 uA) 2 uA) ?_ ?_
 ·repeat' first|exact zQ|with_reducible apply zJ<;>intro _|refine zK ?_
 ·repeat' first|exact zQ|with_reducible apply zJ<;>intro _|refine zK ?_
def Rt(s:ah):ET prog (cJ prog) [] f319 0 [.str s] (fun _=> .none) (fun d bx'=>∃r,bD bx' d=some r/\bN r (.aI [ints (fW s).1,I (fW s).2])) (fun _ _=>False):=by
 refine rG _ [.cell 2 134,.cell 3 53] 11 rfl rfl rfl ak ak ?_;repeat' first|exact zQ|with_reducible apply zJ<;>intro _|refine zK ?_
 ·refine jz _ (wU (rp _ rfl rfl)) fun m' bK hq=>?_;obtain⟨rfl,rfl⟩:=hq;repeat' first|exact zQ|with_reducible apply zJ<;>intro _|refine zK ?_
  refine⟨_,rfl,?_⟩;rw[fW,if_pos (by assumption)];exact lk (.nil _) (.refl _)
 refine aC (Q5 s _) rfl fun d bx1 hq=>?_;obtain⟨rfl,rfl⟩:=hq;have hr:fW s=if(gJ s).2 then([],90)else((gJ s).1,0):=by
  rw[fW,if_neg (by assumption),xp _ s (Nat.le_refl _)];cases(gJ s).2<;>rfl
 repeat' first|exact zQ|with_reducible apply zJ<;>intro _|refine zK ?_
 refine tG (Nl s _ _ rfl oM) rfl (fun d bx1 hq=>?_) (fun d bx1 hq=>?_)
 ·obtain⟨h1,h2,h3⟩:=hq;have b2:=h3 2 oM;have b3:=h3 3 oM;simp only[aj,Bx.none,reduceIte,Nat.reduceEqDiff]at b2 b3;have hf:=h2.facts;repeat' first|exact zQ|with_reducible apply zJ<;>intro _|refine zK ?_
  refine jz _ (wU (rp _ rfl rfl)) fun m' bK hq=>?_;obtain⟨rfl,rfl⟩:=hq;repeat' first|exact zQ|with_reducible apply zJ<;>intro _|refine zK ?_
  obtain⟨r,g1,g2⟩:=(h2.of (bx':=aj (aj bx1 2 ⟨1,1,1,134,[d]⟩) 3 ⟨1,1,1,53,[I 0]⟩) (fun t ht=>by simp at ht;subst ht;simp[aj])).out (by simp[go_sem,dB]);exact⟨_,by rw[g1];rfl,lk g2 (.refl _)⟩
 ·obtain⟨h1,rfl,h3⟩:=hq;have b2:=h3 2 oM;have b3:=h3 3 oM;simp only[aj,Bx.none,reduceIte,Nat.reduceEqDiff]at b2 b3;repeat' first|exact zQ|with_reducible apply zJ<;>intro _|refine zK ?_
  refine jz _ (wU (Jt _ rfl rfl (fun c=>by simp[go_sem]) (fun c=>by simp[go_sem]) b2 b3)) fun m' bK hq=>?_;obtain⟨rfl,g2,g3⟩:=hq;repeat' first|exact zQ|with_reducible apply zJ<;>intro _|refine zK ?_
  exact⟨_,rfl,lk (.nil _) (.refl _)⟩
instance(s:ah):Ct 319 [.str s] True (.aI [ints (fW s).1,I (fW s).2]):=⟨fun _=>(GV (Rt s)).to (fun _ _ h=>h) fun d' bx' h=>h⟩
def xL(s:ah):Bool:=decide ((1:Int)<=s.length)&&decide ((s.length:Int)<=64)&&decide ((fW s).2=0)&& !(fW s).1.any gD
instance(n:Int):Ct 342 [I n] True (.bool (gD n)):=⟨fun _=>La n⟩
instance(n:Int):Ct 325 [I n] True (.bool (gD n)):=⟨fun _=>Up n⟩
instance(l:List D):Ct 343 [.sl 2 l] True (.fn (.func 351) [.cG (.sl 2 l) 0]):=by
 refine bf f343 [] [.tmp 2] fun pre=>?_;repeat' first|exact zQ|with_reducible apply zJ<;>intro _|refine zK ?_
abbrev Cr(k:Int)(f:D):D:=.agg [I k,f]
abbrev Gk(l:List P2):D:=.fn (.func 351) [.cG (.sl 2 (l.map P2.d)) 0]
abbrev PD:D:=.sl 2 [Cr 1 (.fn (.func 342) []),Cr 2 (Gk [⟨48,57⟩]),Cr 3 (Gk [⟨65,90⟩,⟨97,122⟩,⟨192,214⟩,⟨216,246⟩,⟨248,591⟩,⟨880,1279⟩]),Cr 4 (Gk [⟨1424,1983⟩])]
instance:Ct 320 [] True PD:=by
 refine bf f320 [] [.tmp 0] fun pre=>?_;repeat' first|exact zQ|with_reducible apply zJ<;>intro _|refine zK ?_
 exact .refl _
def vd(s:ah):(fW s).1.length<=4096:=by
 unfold fW;split
 ·simp
 ·rw[xp _ s (Nat.le_refl _)];have:=BL _ s (Nat.le_refl _);cases(gJ s).2
  ·simp only[Bool.false_eq_true,if_false];omega
  ·simp
instance(s:ah):Ct 276 [.str s] True (.bool (xL s)):=by
 refine bf f276 [] [.tmp 2] fun pre=>?_;have hl:=vd s;unfold xL;generalize hA:List.any _ _=A;repeat' first|exact zQ|with_reducible apply zJ<;>intro _|refine zK ?_
 all_goals first|with_reducible exact .refl _|(refine ab ?_;have aQ:=aQ.out zz;simp[*];done)|((try refine ab ?_);exact zz)
instance(s:ah):Ct 294 [.str s] True (.bool (xL s)):=by
 refine bf f294 [] [.tmp 2] fun pre=>?_;have hl:=vd s;unfold xL;generalize hA:List.any _ _=A;repeat' first|exact zQ|with_reducible apply zJ<;>intro _|refine zK ?_
 rotate_right
 refine Na _ hA 5 [(2,2),(5,5),(21,31)] [] oM sG (fun j x τ β hx hj hw hi aQ=>?_) fun τ β hn hi ha=>?_;all_goals (try repeat' first|exact zQ|with_reducible apply zJ<;>intro _|refine zK ?_)
 all_goals first|with_reducible exact .refl _|(refine ab ?_;have aQ:=aQ.out zz;simp[*];done)|((try refine ab ?_);exact zz)
end Go.V.St
namespace Go.V.St
open Go.Proofs Go.Proofs.Tryz Go.RowKit Go.V.Lx Go.V.Gr Go.V.Ty
def Vf{α:Type}(p:α->Bool)(l:List α):(l.any fun x=> !p x)= !l.all p:=by simp[List.any_eq_not_all_not]
@[simp] def vj(n:Int):Bool:=decide (0<=n)&&decide (n<1099511627776)
@[simp] def LQ(n:Int):Bool:=decide (0<=n)&&decide (n<32)
def tw(l:List ah):Bool:=decide ((1:Int)<=l.length)&&decide ((l.length:Int)<=4)&&l.all xL
def vg(x:Term):Bool:=aO x.no 0 1048576&&vj x.at_&&vj x.known&&LQ x.cy&&tw x.src&&if x.gone then decide ((x.DL.length:Int)=0)&&decide (x.cat=[])else tw x.DL&&iI x.cat
def vh(last:Int)(x:Term):Option Int:=if vg x&&decide (last<x.no)then some x.no else none
def nO(l:List Term):Int:=if 1024<(l.length:Int)then 2 else if(l.foldlM vh (-1)).isSome then 0 else 270
instance(n:Int):Ct 229 [I n] True (.bool (vj n)):=by
 refine bf f229 [] [.tmp 2] fun pre=>?_;repeat' first|exact zQ|with_reducible apply zJ<;>intro _|refine zK ?_
 all_goals first|with_reducible exact .refl _|(refine ab ?_;have aQ:=aQ.out zz;simp[*];done)|((try refine ab ?_);exact zz)
instance(n:Int):Ct 230 [I n] True (.bool (LQ n)):=by
 refine bf f230 [] [.tmp 2] fun pre=>?_;repeat' first|exact zQ|with_reducible apply zJ<;>intro _|refine zK ?_
 all_goals first|with_reducible exact .refl _|(refine ab ?_;have aQ:=aQ.out zz;simp[*];done)|((try refine ab ?_);exact zz)
instance(n:Int):Ct 244 [I n] True (.bool (vj n)):=by
 refine bf f244 [] [.tmp 2] fun pre=>?_;repeat' first|exact zQ|with_reducible apply zJ<;>intro _|refine zK ?_
 all_goals first|with_reducible exact .refl _|(refine ab ?_;have aQ:=aQ.out zz;simp[*];done)|((try refine ab ?_);exact zz)
instance(n:Int):Ct 245 [I n] True (.bool (LQ n)):=by
 refine bf f245 [] [.tmp 2] fun pre=>?_;repeat' first|exact zQ|with_reducible apply zJ<;>intro _|refine zK ?_
 all_goals first|with_reducible exact .refl _|(refine ab ?_;have aQ:=aQ.out zz;simp[*];done)|((try refine ab ?_);exact zz)
instance(s:ah):Ct 275 [.str s] True (.bool (!xL s)):=by
 refine bf f275 [] [.tmp 2] fun pre=>?_;repeat' first|exact zQ|with_reducible apply zJ<;>intro _|refine zK ?_
instance(l:List ah):Ct 231 [.sl 1 (l.map D.str)] True (.bool (tw l)):=by
 refine bf f231 [] [.tmp 2] fun pre=>?_;have hA:=Vf xL l;unfold tw;generalize List.all l _=A at *;repeat' first|exact zQ|with_reducible apply zJ<;>intro _|refine zK ?_
 all_goals first|with_reducible exact .refl _|(refine ab ?_;have aQ:=aQ.out zz;simp[*];done)|((try refine ab ?_);exact zz)
instance(l:List ah):Ct 246 [.sl 1 (l.map D.str)] (Lm l) (.bool (tw l)):=by
 refine bf f246 [] [.tmp 2] fun pre=>?_;unfold tw;generalize hA:List.all _ _=A;repeat' first|exact zQ|with_reducible apply zJ<;>intro _|refine zK ?_
 refine gR l hA 3 [(2,15)] [] pre sG (fun j x τ β hx hj hw hi aQ=>?_) fun τ β hn hi ha=>?_;all_goals (try repeat' first|exact zQ|with_reducible apply zJ<;>intro _|refine zK ?_)
 all_goals first|with_reducible exact .refl _|(refine ab ?_;have aQ:=aQ.out zz;simp[*];done)|((try refine ab ?_);exact zz)
instance(s:ah):Ct 232 [.str s] (Lm s) (.bool (iI s)):=⟨Ox s⟩
instance(s:ah):Ct 247 [.str s] (Lm s) (.bool (iI s)):=⟨KA s⟩
instance(x:Term):Ct 178 [x.d] (Lm x.cat) (.bool (vg x)):=by
 refine bf f178 [] [.tmp 2] fun pre=>?_;unfold vg;repeat' first|exact zQ|with_reducible apply zJ<;>intro _|refine zK ?_
 all_goals first|with_reducible exact .refl _|(refine ab ?_;have aQ:=aQ.out zz;simp[*];done)|((try refine ab ?_);exact zz)
instance(x:Term):Ct 200 [x.d] (Lm x.cat/\Lm x.src/\Lm x.DL) (.bool (vg x)):=by
 refine bf f200 [] [.tmp 2] fun pre=>?_;unfold vg;obtain⟨h1,h2,h3⟩:=pre;repeat' first|exact zQ|with_reducible apply zJ<;>intro _|refine zK ?_
 all_goals first|with_reducible exact .refl _|(refine ab ?_;have aQ:=aQ.out zz;simp[*];done)|((try refine ab ?_);exact zz)
abbrev Dd(x:Term):Prop:=Lm x.cat/\Lm x.src/\Lm x.DL
instance(l:List Term):Ct 126 [.sl 8 (l.map Term.d)] (∀x∈l,Dd x) (I (nO l)):=by
 refine bf f126 [] [.tmp 2] fun pre=>?_;unfold nO;generalize hA:List.foldlM vh (-1) l=A;repeat' first|exact zQ|with_reducible apply zJ<;>intro _|refine zK ?_
 refine py l vh (-1) hA 11 [(2,3),(5,5),(11,26)] [(5,5)] (fun j s τ _=>τ 3=I s) oM sG sG (fun j x s τ β hx hj hw hi h3 aQ=>?_) fun s τ β hn hi h3 ha=>?_
 ·obtain⟨y5,eO,hx3⟩:=pre x (mG hx);unfold vh at aQ⊢;clear pre;repeat' first|exact zQ|with_reducible apply zJ<;>intro _|refine zK ?_
  all_goals first|with_reducible exact .refl _|(refine ab ?_;have aQ:=aQ.out zz;simp[*];done)|((try refine ab ?_);exact zz)
 ·repeat' first|exact zQ|with_reducible apply zJ<;>intro _|refine zK ?_
  all_goals first|with_reducible exact .refl _|(refine ab ?_;have aQ:=aQ.out zz;simp[*];done)|((try refine ab ?_);exact zz)
def Ek{α:Type}(l:List α)(f:α->Int)(s0:Int)(j:Nat)(s:Int):Prop:=(j=0/\s=s0)\/∃k y,j=k+1/\l[k]? =some y/\s=f y
instance(l:List Term):Ct 141 [.sl 8 (l.map Term.d)] (∀x∈l,Dd x) (I (nO l)):=by
 refine bf f141 [] [.tmp 2] fun pre=>?_;unfold nO;generalize hA:List.foldlM vh (-1) l=A;repeat' first|exact zQ|with_reducible apply zJ<;>intro _|refine zK ?_
 refine py l vh (-1) hA 3 [(2,3),(7,36)] [] (fun j s τ _=>Ek l Term.no (-1) j s) oM sG (.inl ⟨rfl,rfl⟩) (fun j x s τ β hx hj hw hi h3 aQ=>?_) fun s τ β hn hi h3 ha=>?_
 ·obtain⟨y5,eO,hx3⟩:=pre x (mG hx);have tU:vg x=true-> -1<x.no:=fun h=>by simp[vg]at h;omega
  have nx:Ek l Term.no (-1) (j+1) x.no:=.inr ⟨j,x,rfl,hx,rfl⟩;unfold vh at aQ⊢;clear pre;rcases h3 with⟨rfl,rfl⟩|⟨k,y,rfl,hy,rfl⟩
  ·repeat' first|exact zQ|with_reducible apply zJ<;>intro _|refine zK ?_
   ·exact⟨by simp,_,rfl,nx⟩
   all_goals first|with_reducible exact .refl _|(refine ab ?_;have aQ:=aQ.out zz;simp[*];done)|((try refine ab ?_);exact zz)
  ·have hk:IntKind.i64.wrap (((k+1:Nat):Int) - 1)=(k:Int):=by rw[gp _ oM oM];omega
   have hp:(0:Int)<((k+1:Nat):Int):=oM;repeat' first|exact zQ|with_reducible apply zJ<;>intro _|refine zK ?_
   rotate_left
   ·exact⟨_,zz,nx⟩
   all_goals first|with_reducible exact .refl _|(refine ab ?_;have aQ:=aQ.out zz;simp[*];done)|((try refine ab ?_);exact zz)
 ·repeat' first|exact zQ|with_reducible apply zJ<;>intro _|refine zK ?_
  all_goals first|with_reducible exact .refl _|(refine ab ?_;have aQ:=aQ.out zz;simp[*];done)|((try refine ab ?_);exact zz)
def MA(x:Sign):Bool:=decide ((fW x.t).2=0)&& !decide (((fW x.t).1.length:Int)<1)&& !decide ((4:Int)<(fW x.t).1.length)&& !decide ((x.c.length:Int)<1)&& !decide ((4:Int)<x.c.length)&&x.c.all fun n=>aO n 0 63
def xG(seen:List ah)(x:Sign):Option (List ah):=if MA x&& !seen.contains x.t then some (seen++[x.t])else none
def nN(l:List Sign):Int:=if 64<(l.length:Int)then 2 else if(l.foldlM xG []).isSome&& !decide ((l.length:Int)=0)then 0 else 120
def SSet(ks:List ah)(es:List D):Prop:=∃l:List (ah×Int),es=l.map (fun e=> .aI [.str e.1,.bool true,.int .i64 e.2])/\ks=l.map (·.1)
theorem zN(k:ah):∀(l:List (ah×Int)) (i:Nat),(l.map (·.1)).contains k=true/\(∃j,ff .str (.str k) (l.map fun e=> .aI [.str e.1,.bool true,.int .i64 e.2]) i=some (some (j,.bool true)))\/(l.map (·.1)).contains k=false/\ff .str (.str k) (l.map fun e=> .aI [.str e.1,.bool true,.int .i64 e.2]) i=some none
 |[],i=> .inr ⟨rfl,rfl⟩
 |e::l,i=>by
  by_cases h:k=e.1
  ·exact .inl ⟨by simp[h],i,by simp[ff,mY,h]⟩
  ·have hb:(k==e.1)=false:=by simpa using h
   rcases zN k l (i+1)with⟨h1,j,h2⟩|⟨h1,h2⟩
   ·exact .inl ⟨by simpa[h]using h1,j,by simp only[mC,ff,mY,hb];exact h2⟩
   ·exact .inr ⟨by simpa[h]using h1,by simp only[mC,ff,mY,hb];exact h2⟩
theorem SSet.look{ks:List ah}{es:List D}(h:SSet ks es)(k:ah):sk (some (.bool false)) false (ff .str (.str k) es 0)=some (.bool (ks.contains k)):=by
 obtain⟨l,rfl,rfl⟩:=h;rcases zN k l 0 with⟨h1,j,h2⟩|⟨h1,h2⟩<;>rw[h1,h2]<;>rfl
theorem SSet.aj{ks:List ah}{es:List D}(h:SSet ks es){k:ah}(hk:ks.contains k=false)(c:Int):∃es',oI .str (.str k) (.bool true) c es=some (.int .i64 (c+1)::es')/\SSet (ks++[k]) es':=by
 obtain⟨l,rfl,rfl⟩:=h;rcases zN k l 0 with⟨h1,j,h2⟩|⟨h1,h2⟩
 ·rw[h1]at hk;cases hk
 ·exact⟨_,by unfold oI;rw[h2],l++[(k,c)],by simp,by simp⟩
instance(l:List Int):Ct 382 [ints l,.fn (.func 383) []] (Lm l) (.bool (l.all fun n=>aO n 0 63)):=⟨VA l⟩
instance(l:List Sign):Ct 381 [.sl 2 (l.map Sign.d)] True (I (nN l)):=by
 refine bf f381 [] [.tmp 2] fun pre=>?_;unfold nN;generalize hA:List.foldlM xG [] l=A;repeat' first|exact zQ|with_reducible apply zJ<;>intro _|refine zK ?_
 refine py l xG [] hA 14 [(2,2),(5,7),(14,63)] [(5,5),(11,11)] (fun j s τ β=>∃c es,β 11=⟨1,3,0,355,.int .i64 c::es⟩/\SSet s es) oM sG ⟨0,[],rfl,[],rfl,rfl⟩ (fun j x s τ β hx hj hw hi h3 aQ=>?_) fun s τ β hn hi h3 ha=>?_
 ·obtain⟨c,es,sq,hs⟩:=h3;have hlk:=hs.look x.t;have hl:=vd x.t;unfold xG MA at aQ⊢;have hu:=fun h=>hs.aj (k:=x.t) h c;generalize hB:List.all x.c _=B at *;generalize s.contains x.t=C at *;repeat' first|exact zQ|with_reducible apply zJ<;>intro _|refine zK ?_
  all_goals first|(have aQ:=aQ.out zz;refine ab ?_;simp[aQ];done)|skip
  obtain⟨es',Ke,lM⟩:=hu (by assumption);repeat' first|exact zQ|with_reducible apply zJ<;>intro _|refine zK ?_
  exact⟨s++[x.t],zz,_,es',rfl,lM⟩
 ·repeat' first|exact zQ|with_reducible apply zJ<;>intro _|refine zK ?_
  all_goals first|with_reducible exact .refl _|(refine ab ?_;have aQ:=aQ.out zz;simp[*];done)|((try refine ab ?_);exact zz)
instance(l:List Sign):Ct 306 [.sl 2 (l.map Sign.d)] True (.bool (decide (nN l=0))):=by
 refine bf f306 [] [.tmp 2] fun pre=>?_;unfold nN;generalize hA:List.foldlM xG [] l=A;repeat' first|exact zQ|with_reducible apply zJ<;>intro _|refine zK ?_
 rotate_left
 refine py l xG [] hA 3 [(2,6),(15,84)] [] (fun j s τ β=>s=(l.take j).map Sign.t) oM sG rfl (fun j x s τ β hx hj hw hi h3 aQ=>?_) fun s τ β hn hi h3 ha=>?_
 ·subst h3;have hl:=vd x.t;unfold xG MA at aQ⊢;generalize hB:List.all x.c _=B at *;generalize hC:List.contains _ x.t=C at *;rw[List.contains_eq_any_beq,List.any_map]at hC;have ht:((l.take j).length:Int)=j:=by simp;omega
  repeat' first|exact zQ|with_reducible apply zJ<;>intro _|refine zK ?_
  all_goals first|(have aQ:=aQ.out zz;refine ab ?_;simp[aQ];done)|skip
  refine Na (l.take j) hC 6 [(2,2),(6,6),(69,84)] [] oM sG (fun k y τ β hy hk hw hi D8=>?_) fun τ β hn hi aQ=>?_
  ·have oB:l[k]? =some y:=by rw[List.getElem?_take_of_lt oM]at hy;exact hy
   rw[ht]at hk;have D8:Hid (y.t=x.t->C=true):=fun h=>D8.out (by simp[h]);have aeV:Hid (C=true->A=none):=fun h=>aQ.out (by simp[h]);clear aQ hy hC;repeat' first|exact zQ|with_reducible apply zJ<;>intro _|refine zK ?_
   ·exact ab (by simp[aeV.out (D8.out (by assumption))])
   ·simp;exact fun h=>absurd h.symm (by assumption)
  ·have nx:(l.take (j+1)).map Sign.t=(l.take j).map Sign.t++[x.t]:=by rw[List.take_add_one,hx];simp
   rw[ht]at hn hi;clear hC;repeat' first|exact zQ|with_reducible apply zJ<;>intro _|refine zK ?_
   exact⟨_,rfl,rfl⟩
 ·repeat' first|exact zQ|with_reducible apply zJ<;>intro _|refine zK ?_
  rw[decide_eq_false (show ¬(l.length:Int)=0 by omega)];exact .refl _
 ·exact ab (congrArg D.bool (by rw[if_neg oM,decide_eq_true (show(l.length:Int)=0 by omega),nT,Bool.and_false];rfl))
instance(s:fF):Ct 243 [s.d] True (I (kA s)):=⟨fun _=>OT s⟩
instance(s:fF):Ct 258 [s.d] True (I (kA s)):=⟨fun _=>Mi s⟩
instance(s:fX):Ct 259 [s.d] True (I (j6 s)):=⟨fun _=>Mg s⟩
instance(a b c d e f:Bool):Ct 242 [.sl 1 [.bool a,.bool b,.bool c,.bool d,.bool e,.bool f]] True (.bool (a&&b&&c&&d&&e&&f)):=⟨fun _=>by
 have:=Yt [a,b,c,d,e,f] sI;simpa[Bool.and_assoc]using this⟩
instance(n a b:Int):Ct 241 [I n,I a,I b] True (.bool (aO n a b)):=⟨fun _=>Yv n a b⟩
def D1(v:cM):Bool:=aO v.cells 1 80&&decide (v.room=0)&&decide (nN v.iJ=0)&&decide (v.jw.gs.length=0)&&decide (v.jw.ks.length=0)&&decide (v.jw.o=0)
def g_(v:cM):Bool:=aO v.no 0 99999&&aO v.cy 0 31&&aO v.lines 1 8&&aO v.speed 0 1000&&decide (kA v.jW=0)&&if v.cells=0 then BV v else D1 v
abbrev OB(v:cM):Prop:=Lm v.jw.gs/\Lm v.jw.ks
instance(v:cM):Ct 385 [v.d] True (.bool (BV v)):=⟨fun _=>Rq v⟩
instance(v:cM):Ct 378 [v.d] (OB v) (.bool (D1 v)):=by
 refine bf f378 [] [.tmp 2] fun pre=>?_;obtain⟨h1,h2⟩:=pre;unfold D1;repeat' first|exact zQ|with_reducible apply zJ<;>intro _|refine zK ?_
 all_goals first|with_reducible exact .refl _|(refine ab (congrArg D.bool ?_);rw[Bool.eq_iff_iff];simp[*,-List.length_eq_zero_iff];try omega)
@[go_sem] def aj6:sW prog 336 "hansard/viewers.right"=some 385:=ak
@[go_sem] def aj5:sW prog 335 "hansard/viewers.right"=some 378:=ak
def afV(v:cM)(h:OB v)(bx:ae):bj prog 193 5 [v.d] bx (fun _ bx'=>g_ v=true/\∀q,q<5->bx' q=bx q) (fun d bx'=>g_ v=false/\d= .dI 53 (I 450)/\∀q,q<5->bx' q=bx q):=by
 refine aK (fn:=f193) (tab:=[(5,[(21,18),(21,14),(17,14),(21,10),(17,10),(13,10),(21,7),(17,7),(13,7),(9,7)])]) (base:=5) mixed ?_ rfl ak rfl;refine aL _ [.tmp 2] 41 rfl rfl rfl ak ?_;have e:∀r,(if v.cells=0 then BV v else D1 v)=r->g_ v=(aO v.no 0 99999&&aO v.cy 0 31&&aO v.lines 1 8&&aO v.speed 0 1000&&decide (kA v.jW=0)&&r):=fun r h=>by rw[<-h];rfl
 generalize g_ v=B at *;refine sw ?_;refine cdd (fun hc=>?_) fun hc=>?_
 ·have e:=e (BV v) (by rw[if_pos hc]);replace hc:Hid _:=hc;repeat' first|exact zQ|with_reducible apply zJ<;>intro _|refine zK ?_
  all_goals exact fun q h=>if_neg oM
 ·have e:=e (D1 v) (by rw[if_neg hc]);repeat' first|exact zQ|with_reducible apply zJ<;>intro _|refine zK ?_
  all_goals exact fun q h=>if_neg oM
def JD{e:Nat}{x:D}(bx:ae)(h2:bx 2=⟨e,1,1,53,[x]⟩):yI prog (cJ prog) [] f192 5 [.loc 2 e 0 0] bx .ret fun m' bx'=>m'= .ret/\bx'=bx:=by
 refine lV (t:=5) _ _ 19 rfl rfl rfl ak ak (aj (aj (bF 0 [.loc 2 e 0 0]) 5 (.raw .nilIface)) 2 (.raw .nilIface)) ?_ ?_
 ·repeat' first|exact zQ|with_reducible apply zJ<;>intro _|refine zK ?_
 ·repeat' first|exact zQ|with_reducible apply zJ<;>intro _|refine zK ?_
def JC{e:Nat}{x:D}(n:Int)(bx:ae)(c:∀c,fl x 0 [c]=some c)(h2:bx 2=⟨e,1,1,53,[x]⟩):yI prog (cJ prog) [] f192 5 [.loc 2 e 0 0] bx (.cX (.dI 53 (I n))) fun m' bx'=>m'= .ret/\bx'=aj bx 2 ⟨e,1,1,53,[I n]⟩:=by
 refine lV (t:=5) _ _ 19 rfl rfl rfl ak ak (aj (aj (bF 0 [.loc 2 e 0 0]) 5 (.dI 53 (I n))) 2 (.dI 53 (I n))) ?_ ?_
 ·repeat' first|exact zQ|with_reducible apply zJ<;>intro _|refine zK ?_
 ·repeat' first|exact zQ|with_reducible apply zJ<;>intro _|refine zK ?_
def RE(v:cM)(h:OB v):ET prog (cJ prog) [] f130 0 [v.d] (fun _=> .none) (fun d bx'=>∃r,bD bx' d=some r/\bN r (I (if g_ v then 0 else 450))) (fun _ _=>False):=by
 refine rG _ [.cell 2 53] 5 rfl rfl rfl ak ak ?_;repeat' first|exact zQ|with_reducible apply zJ<;>intro _|refine zK ?_
 refine tG (afV v h _) rfl (fun d bx1 hq=>?_) (fun d bx1 hq=>?_)
 ·obtain⟨h1,h3⟩:=hq;have b2:=h3 2 oM;simp only[aj,Bx.none,reduceIte,Nat.reduceEqDiff]at b2;repeat' first|exact zQ|with_reducible apply zJ<;>intro _|refine zK ?_
  refine jz _ (wU (JD _ rfl)) fun m' bK hq=>?_;obtain⟨rfl,rfl⟩:=hq;repeat' first|exact zQ|with_reducible apply zJ<;>intro _|refine zK ?_
  exact⟨_,rfl,.refl _⟩
 ·obtain⟨h1,rfl,h3⟩:=hq;have b2:=h3 2 oM;simp only[aj,Bx.none,reduceIte,Nat.reduceEqDiff]at b2;repeat' first|exact zQ|with_reducible apply zJ<;>intro _|refine zK ?_
  refine jz _ (wU (JC 450 _ (fun c=>by simp[go_sem]) b2)) fun m' bK hq=>?_;obtain⟨rfl,rfl⟩:=hq;repeat' first|exact zQ|with_reducible apply zJ<;>intro _|refine zK ?_
  exact⟨_,rfl,.refl _⟩
instance(v:cM):Ct 130 [v.d] (OB v) (I (if g_ v then 0 else 450)):=⟨fun h=>(GV (RE v h)).to (fun _ _ h=>h) fun d' bx' h=>h⟩
instance(l:List Sign):Ct 260 [.sl 2 (l.map Sign.d)] True (I (nN l)):=by
 refine bf f260 [] [.tmp 2] fun pre=>?_;have h1:Hid (64<(l.length:Int)->nN l=2):=fun h=>by unfold nN;rw[if_pos h]
 have h2:Hid (¬64<(l.length:Int)->nN l=0\/nN l=120):=fun h=>by unfold nN;rw[if_neg h];split<;>simp
 repeat' first|exact zQ|with_reducible apply zJ<;>intro _|refine zK ?_
 ·rw[h1.out (by assumption)];exact .refl _
 ·rcases h2.out (by assumption)with h|h
  ·contradiction
  ·rw[h];exact .refl _
instance(v:cM):Ct 205 [v.d] True (.bool (g_ v)):=by
 refine bf f205 [] [.tmp 2] fun pre=>?_;repeat' first|exact zQ|with_reducible apply zJ<;>intro _|refine zK ?_
 all_goals (refine ab (congrArg D.bool ?_);simp[g_,BV,D1, *,-aO,-List.length_eq_zero_iff];try omega)
instance(v:cM):Ct 145 [v.d] True (I (if g_ v then 0 else 450)):=by
 refine bf f145 [] [.tmp 2] fun pre=>?_;repeat' first|exact zQ|with_reducible apply zJ<;>intro _|refine zK ?_
 all_goals simp[*,ab]
end Go.V.St
namespace Go.V
open Go.Proofs Go.Proofs.Tryz Go.RowKit
class Cq(f:Nat)(ds:List D)(pre:outParam Prop)(ok:outParam Bool)(d pd:outParam D):Prop where
 h:pre->∀bx,bj prog f 0 ds bx (fun d' bx'=>ok=true/\d'=d/\bx'=bx) (fun d' bx'=>ok=false/\d'=pd/\bx'=bx)
variable {tab:List (Nat×List (Nat×Nat))} {base bk:Nat} {yl:Option (List (List D)×Nat×Nat)} {pn df:Bool} {P:Program} {bx:ae} {f:Nat} {ds:List D} {K2:Cl->D->ae->Prop} {pre:Prop} {d pd:D} {ok:Bool}
def kd[h:Cq f ds pre ok d pd](h1:pre)(hk:ok=true->K2 .wa d bx)(hp:ok=false->K2 (.cX pd) .undef bx):fD ⟨cJ prog,tab,base,bk,0,yl,pn,df⟩ f ds bx K2:=by
 refine tG (cI:=fun d' bx'=>ok=true/\d'=d/\bx'=bx) (Pan:=fun d' bx'=>ok=false/\d'=pd/\bx'=bx) (h.h h1 bx) rfl ?_ ?_
 ·rintro d' bx' ⟨h2,rfl,rfl⟩;exact hk h2
 ·rintro d' bx' ⟨h2,rfl,rfl⟩;exact hp h2
theorem VK{f:Nat}(fn:Func){ds:List D}{d pd:D}{ok:Bool}{c:Code}{n:Nat}{pre:Prop}(tab:List (Nat×List (Nat×Nat)))(rv:List ResultVar)
 (h:pre->∀bx,cD prog ⟨cJ prog,tab,0,0+n,0,none,true,false⟩ c (BS prog rv (fun d' bx'=>ok=true/\d'=d/\bx'=bx) (fun d' bx'=>ok=false/\d'=pd/\bx'=bx)) (bF 0 ds) bx)
 (hc:fn.body=some c:=by exact rfl) (hr:fn.results=rv.toArray:=by exact rfl) (hn:fn.ntmps=n:=by exact rfl) (bC:codeOk tab n c=true:=by kernel_rfl)
 (hf:prog.funcs[f]? =some fn:=by exact rfl) (eT:(fn.name== "runtime.NumGoroutine")=false:=by exact rfl) (hlen:decide (ds.length<=fn.ntmps)=true:=by kernel_rfl):Cq f ds pre ok d pd:=
 ⟨fun h1 bx=>aK Lx.mixed (aL c rv n hc hr hn bC (h h1 bx)) hf eT hlen⟩
theorem R7{f:Nat}(fn:Func){ds:List D}{d:D}{c:Code}{n:Nat}{pre:Prop}(tab:List (Nat×List (Nat×Nat)))(rv:List ResultVar)
 (h:pre->cD prog ⟨cJ prog,tab,0,0+n,0,none,true,false⟩ c (BS prog rv (fun d' bx'=>aM (bD bx' d') fun r=>bN r d) (fun _ _=>False)) (bF 0 ds) (fun _=> .none))
 (hc:fn.body=some c:=by exact rfl) (hr:fn.results=rv.toArray:=by exact rfl) (hn:fn.ntmps=n:=by exact rfl) (bC:codeOk tab n c=true:=by kernel_rfl)
 (hf:prog.funcs[f]? =some fn:=by exact rfl) (eT:(fn.name== "runtime.NumGoroutine")=false:=by exact rfl) (hlen:decide (ds.length<=fn.ntmps)=true:=by kernel_rfl):Ct f ds pre d:=
 ⟨fun h1=>(aK (base:=0) Lx.mixed (aL c rv n hc hr hn bC (h h1)) hf eT hlen).to (fun _ _ h=>h) fun d' bx' h=>by
  cases ho:bD bx' d' with
  |none=>rw[ho]at h;exact h.elim
  |some r=>rw[ho]at h;exact⟨r,rfl,h⟩⟩
def fresh{P:Program}{C:Calc}{c:Code}{Q:DX->Env->ae->Prop}{σ:Env}{bx:ae}(K:Env->ae->Prop)(h:K σ bx)(hk:∀σ bx,K σ bx->cD P C c Q σ bx):cD P C c Q σ bx:=hk σ bx h
end Go.V
namespace Go.V.St
open Go.Proofs Go.Proofs.Tryz Go.RowKit Go.V.Lx Go.V.Gr Go.V.Ty
abbrev nd(n:Int):D:=.dI 53 (I n)
instance(b:Bool)(n:Int):Cq 122 [.bool b,I n] True b (.aI []) (nd n):=by
 refine VK f122 (n:=8) [] [] fun pre bx=>?_;repeat' first|exact zQ|with_reducible apply zJ<;>intro _|refine zK ?_
instance(n a b:Int):Cq 123 [I n,I a,I b] True (aO n a b) (.aI []) (nd 540):=by
 refine VK f123 (n:=15) [] [] fun pre bx=>?_;repeat' first|exact zQ|with_reducible apply zJ<;>intro _|((with_reducible refine kd ?_ (fun _=>?_) fun _=>?_);exact pr)|refine zK ?_|fail
 all_goals first|with_reducible exact .refl _|(refine ab ?_;have aQ:=aQ.out zz;simp[*];done)|((try refine ab ?_);exact zz)
instance(l:List Int):Cq 124 [.sl 1 (l.map I)] (Lm l) (l.all fun n=>decide (n=0)) (.aI []) (nd 540):=by
 refine VK f124 (n:=14) [] [] fun pre bx=>?_;generalize hA:List.all l _=A;repeat' first|exact zQ|with_reducible apply zJ<;>intro _|((with_reducible refine kd ?_ (fun _=>?_) fun _=>?_);exact pr)|refine zK ?_|fail
 refine gR l hA 6 [(3,3),(6,13)] [] pre sG (fun j x τ β hx hj hw hi aQ=>?_) fun τ β hn hi ha=>?_
 ·repeat' first|exact zQ|with_reducible apply zJ<;>intro _|((with_reducible refine kd ?_ (fun _=>?_) fun _=>?_);exact pr)|refine zK ?_|fail
  exact aQ.out (by assumption)
 ·repeat' first|exact zQ|with_reducible apply zJ<;>intro _|((with_reducible refine kd ?_ (fun _=>?_) fun _=>?_);exact pr)|refine zK ?_|fail
instance(v:cM)(n:Int):Ct 195 [v.d,.cG (I n) 0] True (.bool (decide (v.no=n))):=by
 refine bf f195 [] [.tmp 3] fun pre=>?_;repeat' first|exact zQ|with_reducible apply zJ<;>intro _|refine zK ?_
def CC(n:Int)(l:List cM):Int:=fk (fun v:cM=>decide (v.no=n)) l
instance(s:bg)(n:Int):Ct 131 [s.d,I n] (Lm s.cx) (I (CC n s.cx)):=by
 refine bf f131 [] [.tmp 4] fun pre=>?_;repeat' first|exact zQ|with_reducible apply zJ<;>intro _|refine zK ?_
 refine Vy (ds':=[.sl 14 (s.cx.map cM.d),.fn (.func 195) [.cG (I n) 0]]) (by simp[go_sem,BG,D.cells,D.aF,D.pure,D.one,lD,aj,cY,lv,I,Bx.none]) ?_;repeat' first|exact zQ|with_reducible apply zJ<;>intro _|refine zK ?_
 all_goals exact .refl _
instance(s:bg)(n:Int):Ct 147 [s.d,I n] (Lm s.cx) (I (CC n s.cx)):=by
 refine bf f147 [] [.tmp 4] fun pre=>?_;generalize hA:List.findIdx? (fun v:cM=>decide (v.no=n)) s.cx=A;unfold CC fk;rw[hA];repeat' first|exact zQ|with_reducible apply zJ<;>intro _|refine zK ?_
 refine vL s.cx hA 5 [(4,21)] [] pre sG (fun j x τ β hx hj hw hi aQ=>?_) fun τ β hn hi ha=>?_
 ·repeat' first|exact zQ|with_reducible apply zJ<;>intro _|refine zK ?_
  ·rw[aQ.out (by simpa using ‹x.no=n›)];exact .refl _
 ·subst ha;repeat' first|exact zQ|with_reducible apply zJ<;>intro _|refine zK ?_
instance(n a b:Int):Ct 140 [I n,I a,I b] True (.bool (aO n a b)):=by
 refine bf f140 [] [.tmp 6] fun pre=>?_;repeat' first|exact zQ|with_reducible apply zJ<;>intro _|refine zK ?_
 all_goals first|with_reducible exact .refl _|(refine ab ?_;have aQ:=aQ.out zz;simp[*];done)|((try refine ab ?_);exact zz)
instance(n:Int):Ct 148 [I n] True (.bool (vj n)):=by
 refine bf f148 [] [.tmp 2] fun pre=>?_;repeat' first|exact zQ|with_reducible apply zJ<;>intro _|refine zK ?_
 all_goals first|with_reducible exact .refl _|(refine ab ?_;have aQ:=aQ.out zz;simp[*];done)|((try refine ab ?_);exact zz)
def uq(so la ch qu lt ga mo:Int):Bool:=aO so 1 16&&aO la 1 32&&aO ch 1 1073741824&&aO qu 1 1073741824&&aO ga 1 1073741824&&aO lt 0 1073741824&&aO mo 1 16
instance(a b c d e f g:Int):Ct 75 [.agg [I a,I b,I c,I d,I e,I f,I g]] True (.bool (uq a b c d e f g)):=by
 refine bf f75 [] [.tmp 2] fun pre=>?_;unfold uq;repeat' first|exact zQ|with_reducible apply zJ<;>intro _|refine zK ?_
 all_goals (refine ab (congrArg D.bool ?_);simp[*,-aO];done)
def CG(h:bn):Bool:=aO h.seq 0 1048576&&vj h.jX&&decide ((h.words.length:Int)<=64)
instance(h:bn):Ct 149 [.agg [I h.seq,I h.jX,I h.kind,I h.lQ,I h.cut,.sl 5 (h.words.map Word.d)]] True (.bool (CG h)):=by
 refine bf f149 [] [.tmp 2] fun pre=>?_;unfold CG;repeat' first|exact zQ|with_reducible apply zJ<;>intro _|refine zK ?_
 all_goals first|with_reducible exact .refl _|(refine ab ?_;have aQ:=aQ.out zz;simp[*];done)|((try refine ab ?_);exact zz)
abbrev XM(g:aW):Prop:=mP g/\∀x∈g.rules,x.parts.length<=65536
attribute [local go_sem] aW.d
instance(g:aW):Ct 144 [.agg [.str g.name,strs g.au,.str g.start,I g.no,.sl 5 (g.entries.map Entry.d),.sl 5 (g.rules.map aH.d)]] (XM g) (I (jL g)):=⟨fun h=>Pz Q8 g h.1 h.2⟩
instance(l:List cu):Ct 142 [.sl 10 (l.map cu.d)] True (I (jO l)):=⟨fun _=>OX l⟩
instance(bs:List aP)(ts:List bS):Ct 143 [.sl 5 (bs.map aP.d),.sl 7 (ts.map bS.d)] True (I (dU bs ts)):=⟨fun _=>Mh bs ts⟩
instance(l:List cj):Ct 146 [.sl 4 (l.map cj.d)] True (I (eu l)):=⟨fun _=>Mj l⟩
structure fB(s:bg):Prop where
 gr:∀g∈s.eK,XM g
 te:∀x∈s.eh,Dd x
 vi:∀v∈s.cx,OB v
 ki:∀v∈s.eZ,i64 v.kind
 lg:Lm s.eK
 lt:Lm s.eh
 lv:Lm s.cx
 li:Lm s.eZ
 lh:Lm s.heard
def Ga(p:(aW×aP)×Nat):Bool:=(decide (p.2=0)||decide (jL p.1.1=0))&&decide (p.1.2.cy=(p.2:Int))
def C7(s:bg):Bool:=(s.eK.zip s.eF).zipIdx.all Ga
def fH(s:bg):Bool:=decide ((s.eK.length:Int)=s.eG)&&decide ((s.eF.length:Int)=s.eG)&&decide (nO s.eh=0)&&decide (jO s.nZ=0)&&decide (dU s.eF s.lj=0)&&C7 s&&s.eh.all fun t=>decide (t.cy<s.eG)
def KW{s:bg}{j:Nat}{x:(aW×aP)×Nat}(h:(s.eK.zip s.eF).zipIdx[j]? =some x):s.eK[j]? =some x.1.1/\s.eF[j]? =some x.1.2/\x.2=j:=by
 rw[List.getElem?_zipIdx,mS]at h;obtain⟨p,h,rfl⟩:=h;rw[List.getElem?_zip_eq_some]at h;exact⟨h.1,h.2,by simp⟩
instance(s:bg):Ct 76 [s.d] (fB s) (.bool (fH s)):=by
 refine bf f76 [] [.tmp 2] fun pre=>?_;obtain⟨gr,te,vi,ki,lg,lt,lv,li,lh⟩:=pre;unfold fH C7;generalize hA:List.all (List.zipIdx _) _=A;generalize hB:List.all s.eh _=B;clear vi ki li lh lv;have lb:Lm (s.eK.zip s.eF).zipIdx:=by simp[List.length_zipIdx,List.length_zip];omega
 repeat' first|exact zQ|with_reducible apply zJ<;>intro _|refine zK ?_
 have hn:((s.eK.zip s.eF).zipIdx.length:Int)=s.eG:=by simp[List.length_zipIdx,List.length_zip];omega
 refine gR _ hA 4 [(2,2),(4,4),(41,66)] [] lb sG (fun j x τ β hx hj hw hi aQ=>?_) fun τ β vU hi ha=>?_
 ·obtain⟨h1,h2,h3⟩:=KW hx;rw[hn]at hj;have hg:=gr _ (mG h1);unfold Ga at aQ⊢;obtain⟨⟨g,b⟩,k⟩:=x;simp only at h1 h2 h3 hg aQ⊢;subst h3;clear hx gr hn lb hA hB te;rcases k with _|k
  ·have hj:(0:Int)<s.eG:=oM;repeat' first|exact zQ|with_reducible apply zJ<;>intro _|refine zK ?_
   all_goals first|with_reducible exact .refl _|(refine ab ?_;have aQ:=aQ.out zz;simp[*];done)|((try refine ab ?_);exact zz)
  ·have hp:(0:Int)<((k+1:Nat):Int):=oM;repeat' first|exact zQ|with_reducible apply zJ<;>intro _|refine zK ?_
   all_goals first|with_reducible exact .refl _|(refine ab ?_;have aQ:=aQ.out zz;simp[*];done)|((try refine ab ?_);exact zz)
 ·rw[hn]at vU hi;repeat' first|exact zQ|with_reducible apply zJ<;>intro _|refine zK ?_
  refine gR s.eh hB 5 [(2,2),(5,5),(67,81)] [] lt sG (fun j x τ β hx hj hw hi aQ=>?_) fun τ β vU hi ha=>?_
  ·repeat' first|exact zQ|with_reducible apply zJ<;>intro _|refine zK ?_
   all_goals first|with_reducible exact .refl _|(refine ab ?_;have aQ:=aQ.out zz;simp[*];done)|((try refine ab ?_);exact zz)
  ·repeat' first|exact zQ|with_reducible apply zJ<;>intro _|refine zK ?_
def q_(n:Int)(last:Int)(v:cM):Option Int:=if g_ v&&decide (v.cy<n)&&decide (last<v.no)then some v.no else none
def I2(s:bg)(v:cj):Bool:=decide (v.cy<s.eG)&&decide (0<=CC v.iQ s.cx)
noncomputable def gd(s:bg):Bool:=(s.cx.foldlM (q_ s.eG) (-1)).isSome&&decide (eu s.eZ=0)&&s.eZ.all (I2 s)
instance(s:bg):Ct 77 [s.d] (fB s) (.bool (gd s)):=by
 refine bf f77 [] [.tmp 2] fun pre=>?_;obtain⟨gr,te,vi,ki,lg,lt,lv,li,lh⟩:=pre;unfold gd;generalize hA:List.foldlM (q_ _) _ _=A;generalize hB:List.all s.eZ _=B;clear ki lg lt lh gr te;repeat' first|exact zQ|with_reducible apply zJ<;>intro _|refine zK ?_
 refine py _ _ _ hA 3 [(2,4),(6,44)] [(4,4)] (fun j s' τ _=>Ek s.cx cM.no (-1) j s') lv sG (.inl ⟨rfl,rfl⟩) (fun j x s' τ β hx hj hw hi h3 aQ=>?_) fun s' τ β hn hi h3 ha=>?_
 ·have nx:Ek s.cx cM.no (-1) (j+1) x.no:=.inr ⟨j,x,rfl,hx,rfl⟩;have tU:g_ x=true-> -1<x.no:=fun h=>by simp[g_]at h;omega
  unfold q_ at aQ⊢;have hv:=vi x (mG hx);clear vi hA hB;cases hvb:g_ x<;>rw[hvb]at aQ tU
  ·rcases h3 with⟨rfl,rfl⟩|⟨k,y,rfl,hy,rfl⟩
   ·have hj:(0:Int)<s.cx.length:=oM;repeat' first|exact zQ|with_reducible apply zJ<;>intro _|refine zK ?_
    all_goals first|with_reducible exact .refl _|(refine ab ?_;have aQ:=aQ.out zz;simp[*];done)|((try refine ab ?_);exact zz)
   ·repeat' first|exact zQ|with_reducible apply zJ<;>intro _|refine zK ?_
    all_goals first|with_reducible exact .refl _|(refine ab ?_;have aQ:=aQ.out zz;simp[*];done)|((try refine ab ?_);exact zz)
  replace tU:=tU rfl;rcases h3 with⟨rfl,rfl⟩|⟨k,y,rfl,hy,rfl⟩
  ·have hj:(0:Int)<s.cx.length:=oM;repeat' first|exact zQ|with_reducible apply zJ<;>intro _|refine zK ?_
   rotate_left
   ·exact⟨by simp,x.no,zz,nx⟩
   all_goals first|with_reducible exact .refl _|(refine ab ?_;have aQ:=aQ.out zz;simp[*];done)|((try refine ab ?_);exact zz)
  ·have hk:IntKind.i64.wrap (((k+1:Nat):Int) - 1)=(k:Int):=by rw[gp _ oM oM];omega
   have hp:(0:Int)<((k+1:Nat):Int):=oM;repeat' first|exact zQ|with_reducible apply zJ<;>intro _|refine zK ?_
   rotate_left 2
   ·exact⟨x.no,zz,nx⟩
   all_goals first|with_reducible exact .refl _|(refine ab ?_;have aQ:=aQ.out zz;simp[*];done)|((try refine ab ?_);exact zz)
 ·repeat' first|exact zQ|with_reducible apply zJ<;>intro _|refine zK ?_
  refine gR s.eZ hB 5 [(2,2),(5,5),(49,76)] [] li sG (fun j x τ β hx hj hw hi aQ=>?_) fun τ β vU hi ha=>?_
  ·unfold I2 at aQ⊢;repeat' first|exact zQ|with_reducible apply zJ<;>intro _|refine zK ?_
   all_goals first|with_reducible exact .refl _|(refine ab ?_;have aQ:=aQ.out zz;simp[*];done)|((try refine ab ?_);exact zz)
  ·repeat' first|exact zQ|with_reducible apply zJ<;>intro _|refine zK ?_
   all_goals first|with_reducible exact .refl _|(refine ab ?_;have aQ:=aQ.out zz;simp[*];done)|((try refine ab ?_);exact zz)
end Go.V.St
namespace Go.V.St
open Go.Proofs Go.Proofs.Tryz Go.RowKit Go.V.Lx Go.V.Gr Go.V.Ty
def rI(src at_:Int)(h:bn):Option Int:=if vj h.at_&&decide (at_<=h.at_)&&decide (0<=h.src)&&decide (h.src<src)&&CG h then some h.at_ else none
def kJ(s:bg):Bool:=(s.heard.foldlM (rI s.sources) 0).isSome
noncomputable def uu(s:bg):Bool:=uq s.sources s.eG s.chunk s.quiet s.late s.qA s.most&&fH s&&gd s&&kJ s
noncomputable def cd(s:bg):Int:=if(4096:Int)<s.heard.length\/(4096:Int)<s.cx.length then 2 else if uu s then 0 else 540
instance(s:bg):Ct 78 [s.d] (Lm s.heard) (.bool (kJ s)):=by
 refine bf f78 [] [.tmp 2] fun pre=>?_;unfold kJ;generalize hA:List.foldlM (rI _) _ _=A;repeat' first|exact zQ|with_reducible apply zJ<;>intro _|refine zK ?_
 refine py _ _ _ hA 3 [(2,55)] [(4,4)] (fun j s' τ _=>Ek s.heard bn.at_ 0 j s') pre sG (.inl ⟨rfl,rfl⟩) (fun j x s' τ β hx hj hw hi h3 aQ=>?_) fun s' τ β hn hi h3 ha=>?_
 ·have nx:Ek s.heard bn.at_ 0 (j+1) x.at_:=.inr ⟨j,x,rfl,hx,rfl⟩;unfold rI at aQ⊢;clear hA;cases hv:CG x<;>rw[hv]at aQ
  ·have aQ:Hid (True->A=none):=fun _=>aQ.out sI;rcases h3 with⟨rfl,rfl⟩|⟨k,y,rfl,hy,rfl⟩
   ·have hj:(0:Int)<s.heard.length:=oM;repeat' first|exact zQ|with_reducible apply zJ<;>intro _|refine zK ?_
    all_goals first|with_reducible exact .refl _|(refine ab ?_;have aQ:=aQ.out zz;simp[*];done)|((try refine ab ?_);exact zz)
   ·have hk:IntKind.i64.wrap (((k+1:Nat):Int) - 1)=(k:Int):=by rw[gp _ oM oM];omega
    have hp:(0:Int)<((k+1:Nat):Int):=oM;repeat' first|exact zQ|with_reducible apply zJ<;>intro _|refine zK ?_
    all_goals first|with_reducible exact .refl _|(refine ab ?_;have aQ:=aQ.out zz;simp[*];done)|((try refine ab ?_);exact zz)
  rcases h3 with⟨rfl,rfl⟩|⟨k,y,rfl,hy,rfl⟩
  ·have hj:(0:Int)<s.heard.length:=oM;repeat' first|exact zQ|with_reducible apply zJ<;>intro _|refine zK ?_
   all_goals first|exact⟨by simp,x.at_,zz,nx⟩|exact⟨x.at_,zz,nx⟩|skip
   all_goals first|with_reducible exact .refl _|(refine ab ?_;have aQ:=aQ.out zz;simp[*];done)|((try refine ab ?_);exact zz)
  ·have hk:IntKind.i64.wrap (((k+1:Nat):Int) - 1)=(k:Int):=by rw[gp _ oM oM];omega
   have hp:(0:Int)<((k+1:Nat):Int):=oM;repeat' first|exact zQ|with_reducible apply zJ<;>intro _|refine zK ?_
   all_goals first|exact⟨by simp,x.at_,zz,nx⟩|exact⟨x.at_,zz,nx⟩|skip
   all_goals first|with_reducible exact .refl _|(refine ab ?_;have aQ:=aQ.out zz;simp[*];done)|((try refine ab ?_);exact zz)
 ·repeat' first|exact zQ|with_reducible apply zJ<;>intro _|refine zK ?_
  all_goals first|with_reducible exact .refl _|(refine ab ?_;have aQ:=aQ.out zz;simp[*];done)|((try refine ab ?_);exact zz)
instance(s:bg):Ct 37 [s.d] (fB s) (I (cd s)):=by
 refine bf f37 [] [.tmp 2] fun pre=>?_;have lh:=pre.lh;repeat' first|exact zQ|with_reducible apply zJ<;>intro _|refine zK ?_
 all_goals (refine ab (congrArg I ?_);unfold cd uu;first|(rw[if_pos oM];done)|(rw[if_neg oM];simp[*];done))
end Go.V.St
