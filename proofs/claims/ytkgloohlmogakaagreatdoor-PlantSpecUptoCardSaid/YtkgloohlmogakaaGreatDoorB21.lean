/- Lemmas on plain data and programs: part B21. -/
import Derived.Test.YtkgloohlmogakaaGreatDoorB20
import Derived.Test.YtkgloohlmogakaaGreatDoorB19
import Derived.Test.YtkgloohlmogakaaGreatDoorB14
set_option linter.all false
set_option maxHeartbeats 8000000
set_option maxRecDepth 100000
namespace Go.V.St
open Go.Proofs Go.Proofs.Tryz Go.RowKit Go.V.Lx Go.V.Gr Go.V.Ty
attribute [simp] aN
instance(n a b:Int):Ct 257 [I n,I a,I b] True (.bool (aN n a b)):=by
 refine bf f257 [] [.tmp 6] fun pre=>?_;repeat' first|exact zQ|with_reducible apply zJ<;>intro _|refine zK ?_
 all_goals first|with_reducible exact .refl _|(refine ab ?_;have aP:=aP.out zz;simp[*];done)|((try refine ab ?_);exact zz)
instance(l:List Int):Ct 332 [ints l] (Lm l) (.bool (l.all fun n=>aN n 0 63)):=by
 refine bf f332 [] [.tmp 2] fun pre=>?_;generalize hA:List.all l _=A;repeat' first|exact zQ|with_reducible apply zJ<;>intro _|refine zK ?_
 refine gR l hA 3 [(2,21)] [] pre sG ?_ ?_
 ·intro j x τ β hx hj hw h3 aP;repeat' first|exact zQ|with_reducible apply zJ<;>intro _|refine zK ?_
  all_goals first|with_reducible exact .refl _|(refine ab ?_;have aP:=aP.out zz;simp[*];done)|((try refine ab ?_);exact zz)
 ·intro τ β hn h3 ha;repeat' first|exact zQ|with_reducible apply zJ<;>intro _|refine zK ?_
  all_goals first|with_reducible exact .refl _|(refine ab ?_;have aP:=aP.out zz;simp[*];done)|((try refine ab ?_);exact zz)
structure P2 where
 a:Int
 b:Int
@[reducible] def P2.d(x:P2):D:=.agg [I x.a,I x.b]
section
variable {f:Nat} {caps:List D}
instance{p:ah->Bool}{q:ah->Prop}[h:∀x,Ct f (D.str x::caps) (q x) (.bool (p x))](l:List ah):Ct 321 [.sl 1 (l.map D.str),.fn (.func f) caps] (D.aF caps=true/\Lm l/\∀x∈l,q x) (I (fh p l)):=by
 refine bf f321 [] [.tmp 4] fun pre=>?_;obtain⟨hp,hl,hq⟩:=pre;generalize hA:List.findIdx? p l=A;unfold fh;rw[hA];repeat' first|exact zQ|with_reducible apply zJ<;>intro _|refine zK ?_
 refine vk l hA 8 [(4,5),(8,18)] [] hl sG ?_ ?_
 ·intro j x τ β hx hj hw h8 aP;have hq:=hq x (mG hx);repeat' first|exact zQ|with_reducible apply zJ<;>intro _|refine zK ?_
  rw[aP.out (by assumption)];exact .refl _
 ·intro τ β hn h8 ha;subst ha;repeat' first|exact zQ|with_reducible apply zJ<;>intro _|refine zK ?_
instance{p:ah->Bool}{q:ah->Prop}[h:∀x,Ct f (D.str x::caps) (q x) (.bool (p x))](l:List ah):Ct 277 [.sl 1 (l.map D.str),.fn (.func f) caps] (D.aF caps=true/\Lm l/\∀x∈l,q x) (.bool (l.any p)):=by
 refine bf f277 [] [.tmp 4] fun pre=>?_;obtain⟨hp,hl,hq⟩:=pre;rw[<-jJ];repeat' first|exact zQ|with_reducible apply zJ<;>intro _|refine zK ?_
instance{p:Int->Bool}{q:Int->Prop}[h:∀x,Ct f (I x::caps) (q x) (.bool (p x))](l:List Int):Ct 286 [.sl 1 (l.map I),.fn (.func f) caps] (D.aF caps=true/\Lm l/\∀x∈l,q x) (I (fh p l)):=by
 refine bf f286 [] [.tmp 4] fun pre=>?_;obtain⟨hp,hl,hq⟩:=pre;generalize hA:List.findIdx? p l=A;unfold fh;rw[hA];repeat' first|exact zQ|with_reducible apply zJ<;>intro _|refine zK ?_
 refine vk l hA 8 [(4,5),(8,18)] [] hl sG ?_ ?_
 ·intro j x τ β hx hj hw h8 aP;have hq:=hq x (mG hx);repeat' first|exact zQ|with_reducible apply zJ<;>intro _|refine zK ?_
  rw[aP.out (by assumption)];exact .refl _
 ·intro τ β hn h8 ha;subst ha;repeat' first|exact zQ|with_reducible apply zJ<;>intro _|refine zK ?_
instance{p:Int->Bool}{q:Int->Prop}[h:∀x,Ct f (I x::caps) (q x) (.bool (p x))](l:List Int):Ct 236 [.sl 1 (l.map I),.fn (.func f) caps] (D.aF caps=true/\Lm l/\∀x∈l,q x) (.bool (l.any p)):=by
 refine bf f236 [] [.tmp 4] fun pre=>?_;obtain⟨hp,hl,hq⟩:=pre;rw[<-jJ];repeat' first|exact zQ|with_reducible apply zJ<;>intro _|refine zK ?_
instance{p:cy->Bool}{q:cy->Prop}[h:∀x,Ct f (cy.d x::caps) (q x) (.bool (p x))](l:List cy):Ct 194 [.sl 14 (l.map cy.d),.fn (.func f) caps] (D.aF caps=true/\Lm l/\∀x∈l,q x) (I (fh p l)):=by
 refine bf f194 [] [.tmp 4] fun pre=>?_;obtain⟨hp,hl,hq⟩:=pre;generalize hA:List.findIdx? p l=A;unfold fh;rw[hA];repeat' first|exact zQ|with_reducible apply zJ<;>intro _|refine zK ?_
 refine vk l hA 8 [(4,5),(8,18)] [] hl sG ?_ ?_
 ·intro j x τ β hx hj hw h8 aP;have hq:=hq x (mG hx);repeat' first|exact zQ|with_reducible apply zJ<;>intro _|refine zK ?_
  rw[aP.out (by assumption)];exact .refl _
 ·intro τ β hn h8 ha;subst ha;repeat' first|exact zQ|with_reducible apply zJ<;>intro _|refine zK ?_
end
end Go.V.St
namespace Go.V.St
open Go.Proofs Go.Proofs.Tryz Go.RowKit Go.V.Lx Go.V.Gr Go.V.Ty
def m_(s:ah):Int×Int:=if mX s then(0,0)else((eB s).1,(eB s).2)
def gY(s:ah)(r:Int):Nat->Int
 |0=>r
 |j+1=>gY s r j * 64+bG s (j+1) - 128
def A8(s:ah)(j:Nat):Prop:=∀i,i<j->128<=bG s (i+1)/\bG s (i+1)<192
theorem DF{s:ah}{r:Int}(h0:0<=r)(h1:r<128):∀j,A8 s j->0<=gY s r j/\gY s r j<128 * 64 ^ j
 |0,_=>⟨h0,by simpa[gY]using h1⟩
 |j+1,h=>by
  obtain⟨h2,h3⟩:=DF h0 h1 j fun i hi=>h i oM;obtain⟨h4,h5⟩:=h j oM;have:(64:Int) ^ (j+1)=64 * 64 ^ j:=by rw[Int.pow_succ];omega
  simp only[gY];omega
def iQ(s:ah)(i:Nat):bG s i<256:=by unfold bG;exact UInt8.toNat_lt _
instance(b:Int):Ct 355 [I b] (0<=b/\b<256) (.aL [I (iV b).1,I (iV b).2]):=⟨fun h=>WZ b h.1 h.2⟩
instance(n:Int):Ct 356 [I n] True (.bool (ij n)):=⟨fun _=>Kh n⟩
@[reducible] def adE(l:ah):D:=.sl 1 (l.map fun b=>D.int .u8 (b.toNat:Int))
@[go_sem] theorem KE:∀l:ah,jd (l.map fun b=>D.int .u8 (b.toNat:Int))=some l
 |[]=>rfl
 |b::l=>by rw[mC,IM,KE l];simp
instance(n:Int):Ct 357 [I n] (0<=n/\n<=1114111) (adE (je n.toNat)):=⟨fun h=>by
 have:=SU n.toNat oM;rwa[Int.toNat_of_nonneg h.1]at this⟩
def Jo{s:ah}{i:Nat}(h:i<s.length):∃b,s[i]? =some b/\(b.toNat:Int)=bG s i:=⟨s[i],gE h,by simp[bG,gE h]⟩
def qT{b:Int}(h:(iV b).1≠0):(b<128/\iV b=(1,b))\/(192<=b/\b<224/\iV b=(2,b - 192))\/(224<=b/\b<240/\iV b=(3,b - 224))\/(240<=b/\b<248/\iV b=(4,b - 240)):=by
 unfold iV at h⊢;by_cases h1:b<128
 ·exact .inl ⟨h1,by rw[if_pos h1]⟩
 by_cases h2:192<=b/\b<224
 ·exact .inr (.inl ⟨h2.1,h2.2,by rw[if_neg h1,if_pos h2]⟩)
 by_cases h3:224<=b/\b<240
 ·exact .inr (.inr (.inl ⟨h3.1,h3.2,by rw[if_neg h1,if_neg h2,if_pos h3]⟩))
 by_cases h4:240<=b/\b<248
 ·exact .inr (.inr (.inr ⟨h4.1,h4.2,by rw[if_neg h1,if_neg h2,if_neg h3,if_pos h4]⟩))
 ·rw[if_neg h1,if_neg h2,if_neg h3,if_neg h4]at h;exact absurd rfl h
def T5{s:ah}{n:Nat}(h:n<=s.length):s.take n=(List.range n).map fun i=>UInt8.ofNat (bG s i):=by
 apply List.ext_getElem
 ·simp;omega
 ·intro i h1 h2;simp only[List.getElem_take,List.getElem_map,List.getElem_range];simp only[List.length_take]at h1;simp[bG,gE (show i<s.length by omega)]
def Gg{s:ah}{n:Nat}{r:Int}(hn:n<=s.length)(hc:A8 s (n - 1))(hb:(iV (bG s 0))=((n:Int),r))(hz:n≠0):
 (je (gY s r (n - 1)).toNat=s.take n)<->(if n=1 then 0 else if n=2 then 128 else if n=3 then 2048 else 65536:Int)<=gY s r (n - 1):=by
 rw[T5 hn];have ar:=iQ s 0;have ob:∀ {a b:Nat},a=b->UInt8.ofNat a=UInt8.ofNat b:=fun h=>by rw[h]
 rcases qT (b:=(bG s 0:Int)) (by rw[hb];simpa using hz)with⟨h1,h2⟩|⟨h1,lf,h2⟩|⟨h1,lf,h2⟩|⟨h1,lf,h2⟩<;>rw[hb]at h2<;>injection h2 with h2 h3
 ·obtain rfl:n=1:=oM;subst h3;simp[gY,je,show bG s 0<128 by omega,List.range_succ]
 ·obtain rfl:n=2:=oM;have c0:=hc 0 oM;simp only[gY,Nat.zero_add]at c0⊢;obtain⟨m,hm⟩:∃m:Nat,r * 64+(bG s 1:Int) - 128=m:=⟨(r * 64+(bG s 1:Int) - 128).toNat,by omega⟩
  simp only[hm,Int.toNat_natCast,List.range_succ,List.range_zero,List.nil_append,List.cons_append,mC,List.map_nil];unfold je;by_cases h5:m<128
  ·rw[if_pos h5];simp;omega
  ·rw[if_neg h5,if_pos oM];exact⟨fun _=>by simp;omega,fun _=>by rw[ob (show 192+m / 64=bG s 0 by omega),ob (show 128+m % 64=bG s 1 by omega)]⟩
 ·obtain rfl:n=3:=oM;have c0:=hc 0 oM;have c1:=hc 1 oM;simp only[gY,Nat.zero_add,Nat.reduceAdd]at c0 c1⊢;obtain⟨m,hm⟩:∃m:Nat,(r * 64+(bG s 1:Int) - 128) * 64+(bG s 2:Int) - 128=m:=⟨((r * 64+(bG s 1:Int) - 128) * 64+(bG s 2:Int) - 128).toNat,by omega⟩
  simp only[hm,Int.toNat_natCast,List.range_succ,List.range_zero,List.nil_append,List.cons_append,mC,List.map_nil];unfold je;by_cases h5:m<128
  ·rw[if_pos h5];simp;omega
  by_cases h6:m<2048
  ·rw[if_neg h5,if_pos h6];simp;omega
  ·rw[if_neg h5,if_neg h6,if_pos oM];exact⟨fun _=>by simp;omega,fun _=>by rw[ob (show 224+m / 4096=bG s 0 by omega),ob (show 128+m / 64 % 64=bG s 1 by omega),ob (show 128+m % 64=bG s 2 by omega)]⟩
 ·obtain rfl:n=4:=oM;have c0:=hc 0 oM;have c1:=hc 1 oM;have c2:=hc 2 oM;simp only[gY,Nat.zero_add,Nat.reduceAdd]at c0 c1 c2⊢;obtain⟨m,hm⟩:∃m:Nat,((r * 64+(bG s 1:Int) - 128) * 64+(bG s 2:Int) - 128) * 64+(bG s 3:Int) - 128=m:=⟨(((r * 64+(bG s 1:Int) - 128) * 64+(bG s 2:Int) - 128) * 64+(bG s 3:Int) - 128).toNat,by omega⟩
  simp only[hm,Int.toNat_natCast,List.range_succ,List.range_zero,List.nil_append,List.cons_append,mC,List.map_nil];unfold je;by_cases h5:m<128
  ·rw[if_pos h5];simp;omega
  by_cases h6:m<2048
  ·rw[if_neg h5,if_pos h6];simp;omega
  by_cases h7:m<65536
  ·rw[if_neg h5,if_neg h6,if_pos h7];simp;omega
  ·rw[if_neg h5,if_neg h6,if_neg h7];exact⟨fun _=>by simp;omega,fun _=>by rw[ob (show 240+m / 262144=bG s 0 by omega),ob (show 128+m / 4096 % 64=bG s 1 by omega),ob (show 128+m / 64 % 64=bG s 2 by omega),ob (show 128+m % 64=bG s 3 by omega)]⟩
def OY(s:ah)(r:Int):gY s r (1 - 1)=r:=rfl
def Uw(s:ah)(r:Int):gY s r (2 - 1)=r * 64+bG s 1 - 128:=rfl
def Ux(s:ah)(r:Int):gY s r (3 - 1)=(r * 64+bG s 1 - 128) * 64+bG s 2 - 128:=rfl
def Uy(s:ah)(r:Int):gY s r (4 - 1)=((r * 64+bG s 1 - 128) * 64+bG s 2 - 128) * 64+bG s 3 - 128:=rfl
def Cv(s:ah)(n:Nat)(r:Int):Prop:=n≠0/\n<=s.length/\A8 s (n - 1)/\ij (gY s r (n - 1))=true/\je (gY s r (n - 1)).toNat=s.take n
def EE{s:ah}{a n:Nat}(h:s≠[])(hd:Lib.decodeN s.length (bG s 0) (bG s 1) (bG s 2) (bG s 3)=(a,n)):m_ s=if a=65533/\n<2 then(0,0)else((a:Int),(n:Int)):=by
 have:eB s=(a,n):=by unfold eB;rw[if_neg (by simpa using h),hd]
 unfold m_ mX;rw[this];by_cases h1:a=65533<;>by_cases h2:n<2<;>simp[h1,h2]
def wW(n:Int):ij n=true<->0<=n/\n<=1114111/\(n<55296\/57343<n):=by unfold ij;simp[and_assoc]
def M8{s:ah}{n:Nat}{r:Int}(hb:iV (bG s 0)=((n:Int),r))(hg:Cv s n r):m_ s=(gY s r (n - 1),(n:Int)):=by
 obtain⟨g1,g2,g3,g4,g5⟩:=hg;have hs:s≠[]:=fun h=>by subst h;simp at g2;omega
 rw[Gg g2 g3 hb g1]at g5;rw[wW]at g4;have h1:=iQ s 1;have h2:=iQ s 2;have h3:=iQ s 3;have key:Lib.decodeN s.length (bG s 0) (bG s 1) (bG s 2) (bG s 3)=((gY s r (n - 1)).toNat,n):=by
  rcases qT (b:=(bG s 0:Int)) (by rw[hb];simpa using g1)with⟨e1,e2⟩|⟨e1,Ey,e2⟩|⟨e1,Ey,e2⟩|⟨e1,Ey,e2⟩<;>rw[hb]at e2<;>injection e2 with e2 e3
  ·obtain rfl:n=1:=oM;simp only[gY,Lib.decodeN];rw[if_pos oM,e3];rfl
  ·obtain rfl:n=2:=oM;have c0:=g3 0 oM;simp only[gY,Nat.zero_add]at c0 g4 g5⊢;unfold Lib.decodeN;repeat' split
   all_goals first|(exfalso;omega)|(apply Prod.ext<;>simp only<;>omega)
  ·obtain rfl:n=3:=oM;have c0:=g3 0 oM;have c1:=g3 1 oM;simp only[gY,Nat.zero_add,Nat.reduceAdd]at c0 c1 g4 g5⊢;unfold Lib.decodeN;repeat' split
   all_goals first|(exfalso;omega)|(apply Prod.ext<;>simp only<;>omega)
  ·obtain rfl:n=4:=oM;have c0:=g3 0 oM;have c1:=g3 1 oM;have c2:=g3 2 oM;simp only[gY,Nat.zero_add,Nat.reduceAdd]at c0 c1 c2 g4 g5⊢;unfold Lib.decodeN;repeat' split
   all_goals first|(exfalso;omega)|(apply Prod.ext<;>simp only<;>omega)
 rw[EE hs key,if_neg,Int.toNat_of_nonneg oM];rintro⟨k1,k2⟩;obtain rfl:n=1:=oM;rw[OY]at k1 g5;rcases qT (b:=(bG s 0:Int)) (by rw[hb];simp)with⟨e1,e2⟩|⟨e1,Ey,e2⟩|⟨e1,Ey,e2⟩|⟨e1,Ey,e2⟩<;>rw[hb]at e2<;>injection e2 with e2 e3<;>omega
def PJ{s:ah}(hs:s≠[]){n:Nat}{r:Int}(hb:iV (bG s 0)=((n:Int),r))(hg:¬Cv s n r):m_ s=(0,0):=by
 suffices key:Lib.decodeN s.length (bG s 0) (bG s 1) (bG s 2) (bG s 3)=(65533,1) by rw[EE hs key];rfl
 have hl:0<s.length:=List.length_pos_iff.2 hs;have h0:=iQ s 0;have h1:=iQ s 1;have h2:=iQ s 2;have h3:=iQ s 3;have hg:∀(g1:n≠0) (g2:n<=s.length) (g3:A8 s (n - 1)),ij (gY s r (n - 1))=true->(if n=1 then 0 else if n=2 then 128 else if n=3 then 2048 else 65536:Int)<=gY s r (n - 1)->False:=fun g1 g2 g3 g4 g5=>hg ⟨g1,g2,g3,g4,(Gg g2 g3 hb g1).2 g5⟩;simp only[wW]at hg;unfold iV at hb;unfold Lib.decodeN;repeat' split
 all_goals first|rfl|exfalso
 ·rw[if_pos oM]at hb;injection hb with e1 e2;obtain rfl:n=1:=oM;exact hg oM oM (fun i hi=>by omega) (by rw[OY];omega) (by rw[OY,if_pos rfl];omega)
 ·rw[if_neg oM,if_pos oM]at hb;injection hb with e1 e2;obtain rfl:n=2:=oM;exact hg oM oM (fun i hi=>by
   obtain rfl:i=0:=oM;simp only[Nat.zero_add];omega) (by rw[Uw];omega) (by rw[Uw,if_neg oM,if_pos rfl];omega)
 ·rw[if_neg oM,if_neg oM,if_pos oM]at hb;injection hb with e1 e2;obtain rfl:n=3:=oM;exact hg oM oM (fun i hi=>by
   obtain rfl|rfl:i=0\/i=1:=oM;all_goals simp only[Nat.zero_add,Nat.reduceAdd];omega) (by rw[Ux];omega) (by rw[Ux,if_neg oM,if_neg oM,if_pos rfl];omega)
 ·rw[if_neg oM,if_neg oM,if_neg oM,if_pos oM]at hb;injection hb with e1 e2;obtain rfl:n=4:=oM;exact hg oM oM (fun i hi=>by
   obtain rfl|rfl|rfl:i=0\/i=1\/i=2:=oM;all_goals simp only[Nat.zero_add,Nat.reduceAdd];omega) (by rw[Uy];omega) (by rw[Uy,if_neg oM,if_neg oM,if_neg oM];omega)
def NY(b:Nat):∃(n:Nat) (r:Int),n<=4/\0<=r/\r<128/\iV b=((n:Int),r):=by
 by_cases h:(iV b).1=0
 ·refine⟨0,0,by omega,by omega,by omega,?_⟩;unfold iV at h⊢;repeat' split
  all_goals simp_all
 ·rcases qT h with⟨e1,e2⟩|⟨e1,Ey,e2⟩|⟨e1,Ey,e2⟩|⟨e1,Ey,e2⟩
  ·exact⟨1,_,by omega,by omega,by omega,e2⟩
  ·exact⟨2,_,by omega,by omega,by omega,e2⟩
  ·exact⟨3,_,by omega,by omega,by omega,e2⟩
  ·exact⟨4,_,by omega,by omega,by omega,e2⟩
instance agK(s:ah):Ct 345 [.str s] (s≠[]) (.aL [I (m_ s).1,I (m_ s).2]):=by
 refine bf f345 [] [.tmp 2,.tmp 3] fun pre=>?_;have hl:0<s.length:=List.length_pos_iff.2 pre;obtain⟨b,hb,eg⟩:=Jo hl;have ar:=iQ s 0;obtain⟨n,r,hn,oF,oe,hL⟩:=NY (bG s 0);have no:=fun h=>PJ pre hL h;have yes:=M8 hL;have e1:(iV (bG s 0)).1=n:=by rw[hL]
 have e2:(iV (bG s 0)).2=r:=by rw[hL]
 generalize m_ s=F at *;clear hL;have CY:¬Cv s n r->bN (.aL [I 0,I 0]) (.aL [I F.1,I F.2]):=fun h=>by rw[no h];exact .refl _
 repeat' first|exact zQ|with_reducible apply zJ<;>intro _|refine zK ?_
 ·exact CY fun g=>g.1 oM
 ·exact CY fun g=>by have:=g.2.1;omega
 refine lC [(2,3),(5,7),(23,42)] [] (n - 1) (fun j τ _=>τ 6=I ((j+1:Nat):Int)/\τ 5=I (gY s r j)/\A8 s j) ⟨by simp[go_sem],by simp[go_sem,gY],fun i hi=>by omega⟩ ?_ ?_
 ·intro j τ β hj ⟨h6,h5,hc⟩;obtain⟨c,yv,lj⟩:=Jo (s:=s) (i:=j+1) oM;obtain⟨a0,a1⟩:=DF oF oe j hc;have p64:(64:Int) ^ j<=4096:=by
   obtain rfl|rfl|rfl:j=0\/j=1\/j=2:=oM;all_goals simp
  have hc3:=iQ s (j+1);have ar:((j+1:Nat):Int)<(n:Int):=oM;have hs:A8 s (j+1)<->128<=bG s (j+1)/\bG s (j+1)<192:=⟨fun h=>h j oM,fun h i hi=>by
   by_cases ph:i=j
   ·subst ph;exact h
   ·exact hc i oM⟩
  have out:¬A8 s (j+1)->¬Cv s n r:=fun h g=>h fun i hi=>g.2.2.1 i oM;repeat' first|exact zQ|with_reducible apply zJ<;>intro _|refine zK ?_
  ·exact CY (out (by rw[hs];omega))
  ·exact CY (out (by rw[hs];omega))
  ·exact⟨congrArg I oM,rfl,by omega,by omega⟩
 ·intro τ β ⟨h6,h5,hc⟩;have ar:¬((n - 1+1:Nat):Int)<(n:Int):=oM;obtain⟨a0,a1⟩:=DF oF oe (n - 1) hc;have hP:=(wW (gY s r (n - 1))).1;repeat' first|exact zQ|with_reducible apply zJ<;>intro _|refine zK ?_
  ·rw[yes ⟨by omega,by omega,hc,by assumption,by assumption⟩];exact .refl _
  ·exact CY fun g=>absurd g.2.2.2.2 (by assumption)
  ·exact CY fun g=>by simp_all[Cv]
def fR(s:ah):List Int×Int:=if 4096<(s.length:Int)then([],2)else match nG s with
 |some l=>(l,0)
 |none=>([],90)
def IY{t:ah}(h:mX t=false):m_ t=(((eB t).1:Int),((eB t).2:Int)):=by unfold m_;rw[h];rfl
def SP{t:ah}(ht:t≠[]):(m_ t).2=0<->mX t=true:=by
 unfold m_;cases h:mX t
 ·have:=lV ht;simp;omega
 ·simp
instance ag8(s:ah):Ct 324 [.str s] True (.aL [ints (fR s).1,I (fR s).2]):=by
 refine bf f324 [(1000010,[])] [.tmp 2,.tmp 3] fun pre=>?_;repeat' first|exact zQ|with_reducible apply zJ<;>intro _|refine zK ?_
 ·rw[fR,if_pos (by assumption)];exact kW (.nil _) (.refl _)
 have no:nG s=none->fR s=([],90):=fun h=>by rw[fR,if_neg (by assumption),h]
 have yes:∀l,nG s=some l->fR s=(l,0):=fun l h=>by rw[fR,if_neg (by assumption),h]
 generalize fR s=R at *;refine ri (s,([]:List Int)) (fun g=>g.1.length) [(0,0),(2,6),(11,27)] (mj [10,24]) (fun g τ β=>τ 0= .str g.1/\g.2.length+g.1.length<=4096/\(nG s=(nG g.1).map fun l=>g.2++l)/\aX β [10,24] 3 1 (τ 4) (g.2.map I)) ?_ ?_
 ·exact⟨by simp[go_sem],by simp;omega,by simp,.inr ⟨10,1,by simp,rfl,rfl⟩⟩
 rintro⟨t,acc⟩ τ β ⟨h0,hl,hr,hv⟩;simp only at h0 hl hr hv;by_cases ht:t=[]
 ·subst ht;repeat' first|exact zQ|with_reducible apply zJ<;>intro _|refine zK ?_
  refine L2 (hv.mix _) ?_;rw[yes acc (by rw[hr];simp[nG,tW])]
 have:(0:Int)<(t.length:Int):=by have:=List.length_pos_iff.2 ht;omega
 have hd:=AV ht;have hb:=SP ht;repeat' first|exact zQ|with_reducible apply zJ<;>intro _|refine zK ?_
 ·rw[no (by rw[hr,hd,if_pos (by assumption)];rfl)];exact kW (.nil _) (.refl _)
 have hb:mX t=false:=by simp_all
 have hf:=IY hb;have h2:=DO ht hb;have h3:=lV ht;refine app [10,24] (hv.mix _) fun x' β' aT=>?_;repeat' first|exact zQ|with_reducible apply zJ<;>intro _|refine zK ?_
 exact⟨(t.drop (eB t).2,acc++[((eB t).1:Int)]),by simp;omega,rfl,by simp;omega,by cases nG (t.drop (eB t).2)<;>simp,by simpa[hf]using aT.mix _⟩
def wY:Nat->ah->List Int×Bool
 |0,_=>([],false)
 |n+1,s=>if s=[]then([],false)else if mX s then([],true)else(((eB s).1:Int)::(wY n (s.drop (eB s).2)).1,(wY n (s.drop (eB s).2)).2)
def gH(s:ah):List Int×Bool:=wY s.length s
theorem Fj:∀ {n m:Nat} {s:ah},s.length<=n->n<=m->wY m s=wY n s
 |0,0,_,_,_=>rfl
 |0,m+1,s,h,_=>by obtain rfl:s=[]:=List.length_eq_zero_iff.1 oM;rfl
 |n+1,m+1,s,h,hm=>by
  by_cases hs:s=[]
  ·subst hs;rfl
  have hp:=lV hs;have hl:0<s.length:=List.length_pos_iff.2 hs;simp only[wY];rw[Fj (n:=n) (m:=m) (by rw[List.length_drop];omega) oM]
def zm{s:ah}(h:s≠[]):gH s=if mX s then([],true)else(((eB s).1:Int)::(gH (s.drop (eB s).2)).1,(gH (s.drop (eB s).2)).2):=by
 have hp:=lV h;have hl:0<s.length:=List.length_pos_iff.2 h;unfold gH;rw[<-Fj (m:=s.length - 1) (Nat.le_refl (s.drop (eB s).2).length) (by rw[List.length_drop];omega)];obtain⟨k,hk⟩:∃k,s.length=k+1:=⟨s.length - 1,by omega⟩
 rw[hk,Nat.add_sub_cancel,wY,if_neg h]
theorem wX:∀(n:Nat) (s:ah),s.length<=n->nG s=if(gH s).2 then none else some (gH s).1
 |n,s,hn=>by
  by_cases hs:s=[]
  ·subst hs;rfl
  have hp:=lV hs;have hl:0<s.length:=List.length_pos_iff.2 hs;obtain⟨m,rfl⟩:∃m,n=m+1:=⟨n - 1,by omega⟩
  rw[AV hs,zm hs];cases mX s with
  |true=>rfl
  |false=>
   simp only[Bool.false_eq_true,if_false];rw[wX m _ (by rw[List.length_drop];omega)];cases(gH (s.drop (eB s).2)).2<;>rfl
instance(s:ah):Ct 350 [.str s] True (.aL [.int .i32 (eB s).1,I (eB s).2]):=⟨fun _=>Pr s⟩
abbrev ug:D:=.dB 398 (.agg [])
def LI(s:ah):Option D:=if(gH s).2 then some ug else none
def Pq(s:ah):(eB s).1<=1114111:=by
 unfold eB;split
 ·simp
 ·have h0:=iQ s 0;have h1:=iQ s 1;have h2:=iQ s 2;have h3:=iQ s 3;unfold Lib.decodeN;repeat' split
  all_goals (simp only;omega)
def Oi(s:ah)(e0:Nat):zI prog 349 ⟨e0,1,1,9,[.str s]⟩ ((gH s).1.map fun n=>[I n]) (LI s) 31:=by
 refine Cr mixed (fn:=f349) (tab:=[]) ?_ rfl rfl aj;refine Cs _ 29 rfl rfl rfl aj ?_;intro gs l e bx hk hz hb;repeat' first|exact zQ|with_reducible apply zJ<;>intro _|refine zK ?_
 refine B9 (s,([]:List Int)) (fun g=>g.1.length) [(3,28)] (fun g τ β=>(β gs).sz=g.2.length/\(β gs).k=0/\β (gs+1)=⟨e,1,1,9,[.str g.1]⟩/\(gH s).1=g.2++(gH g.1).1/\(gH s).2=(gH g.1).2) ⟨hz,hk,hb,rfl,rfl⟩ ?_;rintro⟨t,acc⟩ τ β ⟨hz,hk,hb,hr,hp⟩;simp only at hz hk hb hr hp;have hP:LI s=if(gH t).2 then some ug else none:=by unfold LI;rw[hp]
 by_cases ht:t=[]
 ·subst ht;repeat' first|exact zQ|with_reducible apply zJ<;>intro _|refine zK ?_
  simp[gH,wY]
 have:(0:Int)<(t.length:Int):=by have:=List.length_pos_iff.2 ht;omega
 have hc:=zm ht;have h3:=lV ht;cases wA:mX t with
 |true=>
  rw[wA]at hc;simp only[mX,bA,decide_eq_true_eq]at wA;have b1:((eB t).1:Int)=65533:=oM;have b2:((eB t).2:Int)<2:=oM;clear wA;rw[if_pos rfl]at hc;repeat' first|exact zQ|with_reducible apply zJ<;>intro _|refine zK ?_
 |false=>
  have h2:=DO ht wA;have hx3:=Pq t;have n1:¬gs=gs+1:=oM;have n2:¬gs+1=gs:=oM;rw[wA]at hc;simp only[Bool.false_eq_true,if_false]at hc;have key:¬(((eB t).1:Int)=65533/\((eB t).2:Int)<2):=by
   rintro⟨g1,g2⟩;rw[mX,decide_eq_true oM,decide_eq_true oM]at wA;cases wA
  generalize hx:(eB t).1=x at *;generalize hm:(eB t).2=m at *;clear hP;repeat' first|exact zQ|with_reducible apply zJ<;>intro _|refine zK ?_
  ·exact absurd ⟨by assumption,by assumption⟩ key
  all_goals
   refine sS rfl sG (by simp[go_sem,ak,hz,hr,hc,ik];try omega) fun bx1=>⟨?_,?_⟩
   ·repeat' first|exact zQ|with_reducible apply zJ<;>intro _|refine zK ?_
    exact⟨(t.drop m,acc++[(x:Int)]),by simp;omega,by simp,rfl,by simp[*],rfl⟩
   ·repeat' first|exact zQ|with_reducible apply zJ<;>intro _|refine zK ?_
    exact .inr oM
theorem Bv:∀(n:Nat) (s:ah),s.length<=n->(gH s).1.length<=s.length
 |n,s,hn=>by
  by_cases hs:s=[]
  ·subst hs;simp[gH,wY]
  have hp:=lV hs;have hl:0<s.length:=List.length_pos_iff.2 hs;obtain⟨m,rfl⟩:∃m,n=m+1:=⟨n - 1,by omega⟩
  rw[zm hs];cases hb:mX s with
  |true=>simp
  |false=>
   have:=DO hs hb;have:=Bv m (s.drop (eB s).2) (by rw[List.length_drop];omega);rw[List.length_drop]at this;simp only[Bool.false_eq_true,if_false,List.length_cons];omega
def QE(s:ah)(bx:ae):bj prog 341 8 [.str s] bx (fun d bx'=>d= .fn (.func 349) [.loc 9 ((bx 9).ep+1) 0 0]/\bx'=ak bx 9 ⟨(bx 9).ep+1,1,1,9,[.str s]⟩) (fun _ _=>False):=by
 refine aI (fn:=f341) (tab:=[]) (base:=8) mixed ?_ rfl aj rfl;refine aJ _ [.tmp 2] 4 rfl rfl rfl aj ?_;repeat' first|exact zQ|with_reducible apply zJ<;>intro _|refine zK ?_
def O1(s:ah)(e:Nat)(bx:ae)(hb:bx 9=⟨e,1,1,9,[.str s]⟩)(hs:s.length<=4096):bj prog 348 16 [.aq,.fn (.func 349) [.loc 9 e 0 0]] bx
 (fun d bx'=>(gH s).2=false/\aX bx' [27] 3 1 d ((gH s).1.map I)/\∀q,q<9->bx' q=bx q) (fun d bx'=>(gH s).2=true/\d=ug/\∀q,q<9->bx' q=bx q):=by
 refine aI (fn:=f348) (tab:=[]) (base:=16) mixed ?_ rfl aj rfl;refine aJ _ [.tmp 4] 13 rfl rfl rfl aj ?_;have hlen:=Bv _ s (Nat.le_refl _);repeat' first|exact zQ|with_reducible apply zJ<;>intro _|refine zK ?_
 refine Es 349 9 e ⟨e,1,1,9,[.str s]⟩ _ _ 31 (fun n bx'=>∃x,bx' 18=⟨(bx 18).ep+1,1,1,134,[x]⟩/\aX bx' [27] 3 1 x (((gH s).1.take n).map I)/\∀q,q<9->bx' q=bx q) sG oM (by simp[go_sem,hb]) (Oi s e) ?_ ?_ ?_
 ·repeat' first|exact zQ|with_reducible apply zJ<;>intro _|refine zK ?_
  exact⟨_,rfl,.nil _ _ _ _,fun q hq=>by rw[if_pos oM,if_neg oM,if_neg oM]⟩
 ·intro n it bx1 hi ⟨x,GN,hv,hq⟩;rw[gM,mS]at hi;obtain⟨y,hy,rfl⟩:=hi;have hn:n<(gH s).1.length:=(gS.1 hy).1;rw[km oM]at GN;replace hv:=hv.Ak (fun t ht=>by simp at ht;omega);replace hq:∀q,q<9->bx1 q=bx q:=fun q h=>by rw[<-hq q h,km oM]
  have hf:=hv.facts;repeat' first|exact zQ|with_reducible apply zJ<;>intro _|refine zK ?_
  refine app [27] hv (fun x' β aT=>?_) (by simp;omega);have hf:=aT.facts;repeat' first|exact zQ|with_reducible apply zJ<;>intro _|refine zK ?_
  refine⟨fun s h1 h2=>by rw[if_neg oM,if_pos oM,if_neg oM],x',rfl,?_,fun q h=>by rw[if_pos oM,if_neg oM,if_neg oM];exact hq q h⟩;rw[List.take_add_one,hy,Option.toList_some,List.map_append];exact aT.of fun t ht=>by simp at ht;subst ht;simp[bU,ak,bn,di]
 ·intro bx1 ⟨x,GN,hv,hq⟩;rw[km oM]at GN;replace hv:=hv.Ak (fun t ht=>by simp at ht;omega);replace hq:∀q,q<9->bx1 q=bx q:=fun q h=>by rw[<-hq q h,km oM]
  rw[List.length_map,tL]at hv;have hf:=hv.facts;unfold LI;cases hp:(gH s).2 with
  |true=>
   simp only[if_true,D4];repeat' first|exact zQ|with_reducible apply zJ<;>intro _|refine zK ?_
   exact hq
  |false=>
   simp only[Bool.false_eq_true,if_false,D4];repeat' first|exact zQ|with_reducible apply zJ<;>intro _|refine zK ?_
   exact hq
def MV(s:ah)(e:Nat)(bx:ae)(hb:bx 9=⟨e,1,1,9,[.str s]⟩)(hs:s.length<=4096):bj prog 340 11 [.fn (.func 349) [.loc 9 e 0 0]] bx
 (fun d bx'=>(gH s).2=false/\aX bx' [27] 3 1 d ((gH s).1.map I)/\∀q,q<9->bx' q=bx q) (fun d bx'=>(gH s).2=true/\d=ug/\∀q,q<9->bx' q=bx q):=by
 refine aI (fn:=f340) (tab:=[]) (base:=11) mixed ?_ rfl aj rfl;refine aJ _ [.tmp 2] 5 rfl rfl rfl aj ?_;repeat' first|exact zQ|with_reducible apply zJ<;>intro _|refine zK ?_
 refine s_ (O1 s e bx hb hs) rfl (fun d bx1 hq=>?_) (fun d bx1 hq=>?_)
 ·obtain⟨h1,h2,h3⟩:=hq;repeat' first|exact zQ|with_reducible apply zJ<;>intro _|refine zK ?_
  exact h3
 ·obtain⟨h1,h2,h3⟩:=hq;repeat' first|exact zQ|with_reducible apply zJ<;>intro _|refine zK ?_
  exact h3
variable {e2 e3:Nat} {x2 x3:D}
def qV(bx:ae)(h2:bx 2=⟨e2,1,1,134,[x2]⟩)(h3:bx 3=⟨e3,1,1,53,[x3]⟩):yk prog (cJ prog) [] f339 11 [.loc 2 e2 0 0,.loc 3 e3 0 0] bx .ret fun m' bx'=>m'= .ret/\bx'=bx:=by
 refine lO (t:=5) _ _ 16 rfl rfl rfl aj aj (ak (ak (bB 0 [.loc 2 e2 0 0,.loc 3 e3 0 0]) 5 (.raw .nilIface)) 2 (.raw .nilIface)) ?_ ?_
 ·repeat' first|exact zQ|with_reducible apply zJ<;>intro _|refine zK ?_
 ·repeat' first|exact zQ|with_reducible apply zJ<;>intro _|refine zK ?_
def I8(bx:ae)(o2:x2.one=true)(o2:x3.one=true)(c2:∀c,fi x2 0 [c]=some c)(c3:∀c,fi x3 0 [c]=some c)(h2:bx 2=⟨e2,1,1,134,[x2]⟩)(h3:bx 3=⟨e3,1,1,53,[x3]⟩):
 yk prog (cJ prog) [] f339 11 [.loc 2 e2 0 0,.loc 3 e3 0 0] bx (.cU ug) fun m' bx'=>m'= .ret/\bx' 2=⟨e2,1,1,134,[.aq]⟩/\bx' 3=⟨e3,1,1,53,[I 90]⟩:=by
 refine lO (t:=5) _ _ 16 rfl rfl rfl aj aj (ak (ak (bB 0 [.loc 2 e2 0 0,.loc 3 e3 0 0]) 5 ug) 2 ug) ?_ ?_
 ·repeat' first|exact zQ|with_reducible apply zJ<;>intro _|refine zK ?_
 ·repeat' first|exact zQ|with_reducible apply zJ<;>intro _|refine zK ?_
def Q3(s:ah):EF prog (cJ prog) [] f319 0 [.str s] (fun _=> .none) (fun d bx'=>∃r,bz bx' d=some r/\bN r (.aL [ints (fR s).1,I (fR s).2])) (fun _ _=>False):=by
 refine rk _ [.cell 2 134,.cell 3 53] 11 rfl rfl rfl aj aj ?_;repeat' first|exact zQ|with_reducible apply zJ<;>intro _|refine zK ?_
 ·refine jw _ (wz (qV _ rfl rfl)) fun m' bK hq=>?_;obtain⟨rfl,rfl⟩:=hq;repeat' first|exact zQ|with_reducible apply zJ<;>intro _|refine zK ?_
  refine⟨_,rfl,?_⟩;rw[fR,if_pos (by assumption)];exact kW (.nil _) (.refl _)
 refine aC (QE s _) rfl fun d bx1 hq=>?_;obtain⟨rfl,rfl⟩:=hq;have hr:fR s=if(gH s).2 then([],90)else((gH s).1,0):=by
  rw[fR,if_neg (by assumption),wX _ s (Nat.le_refl _)];cases(gH s).2<;>rfl
 repeat' first|exact zQ|with_reducible apply zJ<;>intro _|refine zK ?_
 refine s_ (MV s _ _ rfl oM) rfl (fun d bx1 hq=>?_) (fun d bx1 hq=>?_)
 ·obtain⟨h1,h2,h3⟩:=hq;have b2:=h3 2 oM;have b3:=h3 3 oM;simp only[ak,Bx.none,reduceIte,Nat.reduceEqDiff]at b2 b3;have hf:=h2.facts;repeat' first|exact zQ|with_reducible apply zJ<;>intro _|refine zK ?_
  refine jw _ (wz (qV _ rfl rfl)) fun m' bK hq=>?_;obtain⟨rfl,rfl⟩:=hq;repeat' first|exact zQ|with_reducible apply zJ<;>intro _|refine zK ?_
  obtain⟨r,g1,g2⟩:=(h2.of (bx':=ak (ak bx1 2 ⟨1,1,1,134,[d]⟩) 3 ⟨1,1,1,53,[I 0]⟩) (fun t ht=>by simp at ht;subst ht;simp[ak])).out (by simp[go_sem,cZ]);exact⟨_,by rw[g1];rfl,kW g2 (.refl _)⟩
 ·obtain⟨h1,rfl,h3⟩:=hq;have b2:=h3 2 oM;have b3:=h3 3 oM;simp only[ak,Bx.none,reduceIte,Nat.reduceEqDiff]at b2 b3;repeat' first|exact zQ|with_reducible apply zJ<;>intro _|refine zK ?_
  refine jw _ (wz (I8 _ rfl rfl (fun c=>by simp[go_sem]) (fun c=>by simp[go_sem]) b2 b3)) fun m' bK hq=>?_;obtain⟨rfl,g2,g3⟩:=hq;repeat' first|exact zQ|with_reducible apply zJ<;>intro _|refine zK ?_
  exact⟨_,rfl,kW (.nil _) (.refl _)⟩
instance(s:ah):Ct 319 [.str s] True (.aL [ints (fR s).1,I (fR s).2]):=⟨fun _=>(GF (Q3 s)).to (fun _ _ h=>h) fun d' bx' h=>h⟩
def xw(s:ah):Bool:=decide ((1:Int)<=s.length)&&decide ((s.length:Int)<=64)&&decide ((fR s).2=0)&& !(fR s).1.any gA
instance(n:Int):Ct 342 [I n] True (.bool (gA n)):=⟨fun _=>KH n⟩
instance(n:Int):Ct 325 [I n] True (.bool (gA n)):=⟨fun _=>TX n⟩
instance(l:List D):Ct 343 [.sl 2 l] True (.fn (.func 351) [.cA (.sl 2 l) 0]):=by
 refine bf f343 [] [.tmp 2] fun pre=>?_;repeat' first|exact zQ|with_reducible apply zJ<;>intro _|refine zK ?_
abbrev Cc(k:Int)(f:D):D:=.agg [I k,f]
abbrev F6(l:List P2):D:=.fn (.func 351) [.cA (.sl 2 (l.map P2.d)) 0]
abbrev Pb:D:=.sl 2 [Cc 1 (.fn (.func 342) []),Cc 2 (F6 [⟨48,57⟩]),Cc 3 (F6 [⟨65,90⟩,⟨97,122⟩,⟨192,214⟩,⟨216,246⟩,⟨248,591⟩,⟨880,1279⟩]),Cc 4 (F6 [⟨1424,1983⟩])]
instance:Ct 320 [] True Pb:=by
 refine bf f320 [] [.tmp 0] fun pre=>?_;repeat' first|exact zQ|with_reducible apply zJ<;>intro _|refine zK ?_
 exact .refl _
def uM(s:ah):(fR s).1.length<=4096:=by
 unfold fR;split
 ·simp
 ·rw[wX _ s (Nat.le_refl _)];have:=Bv _ s (Nat.le_refl _);cases(gH s).2
  ·simp only[Bool.false_eq_true,if_false];omega
  ·simp
instance(s:ah):Ct 276 [.str s] True (.bool (xw s)):=by
 refine bf f276 [] [.tmp 2] fun pre=>?_;have hl:=uM s;unfold xw;generalize hA:List.any _ _=A;repeat' first|exact zQ|with_reducible apply zJ<;>intro _|refine zK ?_
 all_goals first|with_reducible exact .refl _|(refine ab ?_;have aP:=aP.out zz;simp[*];done)|((try refine ab ?_);exact zz)
instance(s:ah):Ct 294 [.str s] True (.bool (xw s)):=by
 refine bf f294 [] [.tmp 2] fun pre=>?_;have hl:=uM s;unfold xw;generalize hA:List.any _ _=A;repeat' first|exact zQ|with_reducible apply zJ<;>intro _|refine zK ?_
 rotate_right
 refine MJ _ hA 5 [(2,2),(5,5),(21,31)] [] oM sG (fun j x τ β hx hj hw hi aP=>?_) fun τ β hn hi ha=>?_;all_goals (try repeat' first|exact zQ|with_reducible apply zJ<;>intro _|refine zK ?_)
 all_goals first|with_reducible exact .refl _|(refine ab ?_;have aP:=aP.out zz;simp[*];done)|((try refine ab ?_);exact zz)
end Go.V.St
namespace Go.V.St
open Go.Proofs Go.Proofs.Tryz Go.RowKit Go.V.Lx Go.V.Gr Go.V.Ty
def UN{α:Type}(p:α->Bool)(l:List α):(l.any fun x=> !p x)= !l.all p:=by simp[List.any_eq_not_all_not]
@[simp] def uR(n:Int):Bool:=decide (0<=n)&&decide (n<1099511627776)
@[simp] def Ll(n:Int):Bool:=decide (0<=n)&&decide (n<32)
def sW(l:List ah):Bool:=decide ((1:Int)<=l.length)&&decide ((l.length:Int)<=4)&&l.all xw
def uP(x:Term):Bool:=aN x.no 0 1048576&&uR x.at_&&uR x.known&&Ll x.cw&&sW x.src&&if x.gone then decide ((x.Dv.length:Int)=0)&&decide (x.cat=[])else sW x.Dv&&iG x.cat
def uQ(last:Int)(x:Term):Option Int:=if uP x&&decide (last<x.no)then some x.no else none
def nI(l:List Term):Int:=if 1024<(l.length:Int)then 2 else if(l.foldlM uQ (-1)).isSome then 0 else 270
instance(n:Int):Ct 229 [I n] True (.bool (uR n)):=by
 refine bf f229 [] [.tmp 2] fun pre=>?_;repeat' first|exact zQ|with_reducible apply zJ<;>intro _|refine zK ?_
 all_goals first|with_reducible exact .refl _|(refine ab ?_;have aP:=aP.out zz;simp[*];done)|((try refine ab ?_);exact zz)
instance(n:Int):Ct 230 [I n] True (.bool (Ll n)):=by
 refine bf f230 [] [.tmp 2] fun pre=>?_;repeat' first|exact zQ|with_reducible apply zJ<;>intro _|refine zK ?_
 all_goals first|with_reducible exact .refl _|(refine ab ?_;have aP:=aP.out zz;simp[*];done)|((try refine ab ?_);exact zz)
instance(n:Int):Ct 244 [I n] True (.bool (uR n)):=by
 refine bf f244 [] [.tmp 2] fun pre=>?_;repeat' first|exact zQ|with_reducible apply zJ<;>intro _|refine zK ?_
 all_goals first|with_reducible exact .refl _|(refine ab ?_;have aP:=aP.out zz;simp[*];done)|((try refine ab ?_);exact zz)
instance(n:Int):Ct 245 [I n] True (.bool (Ll n)):=by
 refine bf f245 [] [.tmp 2] fun pre=>?_;repeat' first|exact zQ|with_reducible apply zJ<;>intro _|refine zK ?_
 all_goals first|with_reducible exact .refl _|(refine ab ?_;have aP:=aP.out zz;simp[*];done)|((try refine ab ?_);exact zz)
instance(s:ah):Ct 275 [.str s] True (.bool (!xw s)):=by
 refine bf f275 [] [.tmp 2] fun pre=>?_;repeat' first|exact zQ|with_reducible apply zJ<;>intro _|refine zK ?_
instance(l:List ah):Ct 231 [.sl 1 (l.map D.str)] True (.bool (sW l)):=by
 refine bf f231 [] [.tmp 2] fun pre=>?_;have hA:=UN xw l;unfold sW;generalize List.all l _=A at *;repeat' first|exact zQ|with_reducible apply zJ<;>intro _|refine zK ?_
 all_goals first|with_reducible exact .refl _|(refine ab ?_;have aP:=aP.out zz;simp[*];done)|((try refine ab ?_);exact zz)
instance(l:List ah):Ct 246 [.sl 1 (l.map D.str)] (Lm l) (.bool (sW l)):=by
 refine bf f246 [] [.tmp 2] fun pre=>?_;unfold sW;generalize hA:List.all _ _=A;repeat' first|exact zQ|with_reducible apply zJ<;>intro _|refine zK ?_
 refine gR l hA 3 [(2,15)] [] pre sG (fun j x τ β hx hj hw hi aP=>?_) fun τ β hn hi ha=>?_;all_goals (try repeat' first|exact zQ|with_reducible apply zJ<;>intro _|refine zK ?_)
 all_goals first|with_reducible exact .refl _|(refine ab ?_;have aP:=aP.out zz;simp[*];done)|((try refine ab ?_);exact zz)
instance(s:ah):Ct 232 [.str s] (Lm s) (.bool (iG s)):=⟨N3 s⟩
instance(s:ah):Ct 247 [.str s] (Lm s) (.bool (iG s)):=⟨Kc s⟩
instance(x:Term):Ct 178 [x.d] (Lm x.cat) (.bool (uP x)):=by
 refine bf f178 [] [.tmp 2] fun pre=>?_;unfold uP;repeat' first|exact zQ|with_reducible apply zJ<;>intro _|refine zK ?_
 all_goals first|with_reducible exact .refl _|(refine ab ?_;have aP:=aP.out zz;simp[*];done)|((try refine ab ?_);exact zz)
instance(x:Term):Ct 200 [x.d] (Lm x.cat/\Lm x.src/\Lm x.Dv) (.bool (uP x)):=by
 refine bf f200 [] [.tmp 2] fun pre=>?_;unfold uP;obtain⟨h1,h2,h3⟩:=pre;repeat' first|exact zQ|with_reducible apply zJ<;>intro _|refine zK ?_
 all_goals first|with_reducible exact .refl _|(refine ab ?_;have aP:=aP.out zz;simp[*];done)|((try refine ab ?_);exact zz)
abbrev C0(x:Term):Prop:=Lm x.cat/\Lm x.src/\Lm x.Dv
instance(l:List Term):Ct 126 [.sl 8 (l.map Term.d)] (∀x∈l,C0 x) (I (nI l)):=by
 refine bf f126 [] [.tmp 2] fun pre=>?_;unfold nI;generalize hA:List.foldlM uQ (-1) l=A;repeat' first|exact zQ|with_reducible apply zJ<;>intro _|refine zK ?_
 refine o_ l uQ (-1) hA 11 [(2,3),(5,5),(11,26)] [(5,5)] (fun j s τ _=>τ 3=I s) oM sG sG (fun j x s τ β hx hj hw hi h3 aP=>?_) fun s τ β hn hi h3 ha=>?_
 ·obtain⟨yM,eJ,hx3⟩:=pre x (mG hx);unfold uQ at aP⊢;clear pre;repeat' first|exact zQ|with_reducible apply zJ<;>intro _|refine zK ?_
  all_goals first|with_reducible exact .refl _|(refine ab ?_;have aP:=aP.out zz;simp[*];done)|((try refine ab ?_);exact zz)
 ·repeat' first|exact zQ|with_reducible apply zJ<;>intro _|refine zK ?_
  all_goals first|with_reducible exact .refl _|(refine ab ?_;have aP:=aP.out zz;simp[*];done)|((try refine ab ?_);exact zz)
def D8{α:Type}(l:List α)(f:α->Int)(s0:Int)(j:Nat)(s:Int):Prop:=(j=0/\s=s0)\/∃k y,j=k+1/\l[k]? =some y/\s=f y
instance(l:List Term):Ct 141 [.sl 8 (l.map Term.d)] (∀x∈l,C0 x) (I (nI l)):=by
 refine bf f141 [] [.tmp 2] fun pre=>?_;unfold nI;generalize hA:List.foldlM uQ (-1) l=A;repeat' first|exact zQ|with_reducible apply zJ<;>intro _|refine zK ?_
 refine o_ l uQ (-1) hA 3 [(2,3),(7,36)] [] (fun j s τ _=>D8 l Term.no (-1) j s) oM sG (.inl ⟨rfl,rfl⟩) (fun j x s τ β hx hj hw hi h3 aP=>?_) fun s τ β hn hi h3 ha=>?_
 ·obtain⟨yM,eJ,hx3⟩:=pre x (mG hx);have tD:uP x=true-> -1<x.no:=fun h=>by simp[uP]at h;omega
  have nx:D8 l Term.no (-1) (j+1) x.no:=.inr ⟨j,x,rfl,hx,rfl⟩;unfold uQ at aP⊢;clear pre;rcases h3 with⟨rfl,rfl⟩|⟨k,y,rfl,hy,rfl⟩
  ·repeat' first|exact zQ|with_reducible apply zJ<;>intro _|refine zK ?_
   ·exact⟨by simp,_,rfl,nx⟩
   all_goals first|with_reducible exact .refl _|(refine ab ?_;have aP:=aP.out zz;simp[*];done)|((try refine ab ?_);exact zz)
  ·have hk:IntKind.i64.wrap (((k+1:Nat):Int) - 1)=(k:Int):=by rw[ik _ oM oM];omega
   have hp:(0:Int)<((k+1:Nat):Int):=oM;repeat' first|exact zQ|with_reducible apply zJ<;>intro _|refine zK ?_
   rotate_left
   ·exact⟨_,zz,nx⟩
   all_goals first|with_reducible exact .refl _|(refine ab ?_;have aP:=aP.out zz;simp[*];done)|((try refine ab ?_);exact zz)
 ·repeat' first|exact zQ|with_reducible apply zJ<;>intro _|refine zK ?_
  all_goals first|with_reducible exact .refl _|(refine ab ?_;have aP:=aP.out zz;simp[*];done)|((try refine ab ?_);exact zz)
def L_(x:Sign):Bool:=decide ((fR x.t).2=0)&& !decide (((fR x.t).1.length:Int)<1)&& !decide ((4:Int)<(fR x.t).1.length)&& !decide ((x.c.length:Int)<1)&& !decide ((4:Int)<x.c.length)&&x.c.all fun n=>aN n 0 63
def xm(seen:List ah)(x:Sign):Option (List ah):=if L_ x&& !seen.contains x.t then some (seen++[x.t])else none
def nH(l:List Sign):Int:=if 64<(l.length:Int)then 2 else if(l.foldlM xm []).isSome&& !decide ((l.length:Int)=0)then 0 else 120
def SSet(ks:List ah)(es:List D):Prop:=∃l:List (ah×Int),es=l.map (fun e=> .aL [.str e.1,.bool true,.int .i64 e.2])/\ks=l.map (·.1)
theorem zw(k:ah):∀(l:List (ah×Int)) (i:Nat),(l.map (·.1)).contains k=true/\(∃j,fb .str (.str k) (l.map fun e=> .aL [.str e.1,.bool true,.int .i64 e.2]) i=some (some (j,.bool true)))\/(l.map (·.1)).contains k=false/\fb .str (.str k) (l.map fun e=> .aL [.str e.1,.bool true,.int .i64 e.2]) i=some none
 |[],i=> .inr ⟨rfl,rfl⟩
 |e::l,i=>by
  by_cases h:k=e.1
  ·exact .inl ⟨by simp[h],i,by simp[fb,mV,h]⟩
  ·have hb:(k==e.1)=false:=by simpa using h
   rcases zw k l (i+1)with⟨h1,j,h2⟩|⟨h1,h2⟩
   ·exact .inl ⟨by simpa[h]using h1,j,by simp only[mC,fb,mV,hb];exact h2⟩
   ·exact .inr ⟨by simpa[h]using h1,by simp only[mC,fb,mV,hb];exact h2⟩
theorem SSet.look{ks:List ah}{es:List D}(h:SSet ks es)(k:ah):r8 (some (.bool false)) false (fb .str (.str k) es 0)=some (.bool (ks.contains k)):=by
 obtain⟨l,rfl,rfl⟩:=h;rcases zw k l 0 with⟨h1,j,h2⟩|⟨h1,h2⟩<;>rw[h1,h2]<;>rfl
theorem SSet.ak{ks:List ah}{es:List D}(h:SSet ks es){k:ah}(hk:ks.contains k=false)(c:Int):∃es',ot .str (.str k) (.bool true) c es=some (.int .i64 (c+1)::es')/\SSet (ks++[k]) es':=by
 obtain⟨l,rfl,rfl⟩:=h;rcases zw k l 0 with⟨h1,j,h2⟩|⟨h1,h2⟩
 ·rw[h1]at hk;cases hk
 ·exact⟨_,by unfold ot;rw[h2],l++[(k,c)],by simp,by simp⟩
instance(l:List Int):Ct 382 [ints l,.fn (.func 383) []] (Lm l) (.bool (l.all fun n=>aN n 0 63)):=⟨U5 l⟩
instance(l:List Sign):Ct 381 [.sl 2 (l.map Sign.d)] True (I (nH l)):=by
 refine bf f381 [] [.tmp 2] fun pre=>?_;unfold nH;generalize hA:List.foldlM xm [] l=A;repeat' first|exact zQ|with_reducible apply zJ<;>intro _|refine zK ?_
 refine o_ l xm [] hA 14 [(2,2),(5,7),(14,63)] [(5,5),(11,11)] (fun j s τ β=>∃c es,β 11=⟨1,3,0,355,.int .i64 c::es⟩/\SSet s es) oM sG ⟨0,[],rfl,[],rfl,rfl⟩ (fun j x s τ β hx hj hw hi h3 aP=>?_) fun s τ β hn hi h3 ha=>?_
 ·obtain⟨c,es,vr,hs⟩:=h3;have hlk:=hs.look x.t;have hl:=uM x.t;unfold xm L_ at aP⊢;have hu:=fun h=>hs.ak (k:=x.t) h c;generalize hB:List.all x.c _=B at *;generalize s.contains x.t=C at *;repeat' first|exact zQ|with_reducible apply zJ<;>intro _|refine zK ?_
  all_goals first|(have aP:=aP.out zz;refine ab ?_;simp[aP];done)|skip
  obtain⟨es',JT,lF⟩:=hu (by assumption);repeat' first|exact zQ|with_reducible apply zJ<;>intro _|refine zK ?_
  exact⟨s++[x.t],zz,_,es',rfl,lF⟩
 ·repeat' first|exact zQ|with_reducible apply zJ<;>intro _|refine zK ?_
  all_goals first|with_reducible exact .refl _|(refine ab ?_;have aP:=aP.out zz;simp[*];done)|((try refine ab ?_);exact zz)
instance(l:List Sign):Ct 306 [.sl 2 (l.map Sign.d)] True (.bool (decide (nH l=0))):=by
 refine bf f306 [] [.tmp 2] fun pre=>?_;unfold nH;generalize hA:List.foldlM xm [] l=A;repeat' first|exact zQ|with_reducible apply zJ<;>intro _|refine zK ?_
 rotate_left
 refine o_ l xm [] hA 3 [(2,6),(15,84)] [] (fun j s τ β=>s=(l.take j).map Sign.t) oM sG rfl (fun j x s τ β hx hj hw hi h3 aP=>?_) fun s τ β hn hi h3 ha=>?_
 ·subst h3;have hl:=uM x.t;unfold xm L_ at aP⊢;generalize hB:List.all x.c _=B at *;generalize hC:List.contains _ x.t=C at *;rw[List.contains_eq_any_beq,List.any_map]at hC;have ht:((l.take j).length:Int)=j:=by simp;omega
  repeat' first|exact zQ|with_reducible apply zJ<;>intro _|refine zK ?_
  all_goals first|(have aP:=aP.out zz;refine ab ?_;simp[aP];done)|skip
  refine MJ (l.take j) hC 6 [(2,2),(6,6),(69,84)] [] oM sG (fun k y τ β hy hk hw hi DT=>?_) fun τ β hn hi aP=>?_
  ·have pT:l[k]? =some y:=by rw[List.getElem?_take_of_lt oM]at hy;exact hy
   rw[ht]at hk;have DT:Hid (y.t=x.t->C=true):=fun h=>DT.out (by simp[h]);have aek:Hid (C=true->A=none):=fun h=>aP.out (by simp[h]);clear aP hy hC;repeat' first|exact zQ|with_reducible apply zJ<;>intro _|refine zK ?_
   ·exact ab (by simp[aek.out (DT.out (by assumption))])
   ·simp;exact fun h=>absurd h.symm (by assumption)
  ·have nx:(l.take (j+1)).map Sign.t=(l.take j).map Sign.t++[x.t]:=by rw[List.take_add_one,hx];simp
   rw[ht]at hn hi;clear hC;repeat' first|exact zQ|with_reducible apply zJ<;>intro _|refine zK ?_
   exact⟨_,rfl,rfl⟩
 ·repeat' first|exact zQ|with_reducible apply zJ<;>intro _|refine zK ?_
  rw[decide_eq_false (show ¬(l.length:Int)=0 by omega)];exact .refl _
 ·exact ab (congrArg D.bool (by rw[if_neg oM,decide_eq_true (show(l.length:Int)=0 by omega),nT,Bool.and_false];rfl))
instance(s:fB):Ct 243 [s.d] True (I (ko s)):=⟨fun _=>Ou s⟩
instance(s:fB):Ct 258 [s.d] True (I (ko s)):=⟨fun _=>LR s⟩
instance(s:fS):Ct 259 [s.d] True (I (jZ s)):=⟨fun _=>LP s⟩
instance(a b c d e f:Bool):Ct 242 [.sl 1 [.bool a,.bool b,.bool c,.bool d,.bool e,.bool f]] True (.bool (a&&b&&c&&d&&e&&f)):=⟨fun _=>by
 have:=XY [a,b,c,d,e,f] sI;simpa[Bool.and_assoc]using this⟩
instance(n a b:Int):Ct 241 [I n,I a,I b] True (.bool (aN n a b)):=⟨fun _=>X2 n a b⟩
def DN(v:cy):Bool:=aN v.cells 1 80&&decide (v.room=0)&&decide (nH v.iH=0)&&decide (v.js.gs.length=0)&&decide (v.js.ks.length=0)&&decide (v.js.o=0)
def gX(v:cy):Bool:=aN v.no 0 99999&&aN v.cw 0 31&&aN v.lines 1 8&&aN v.speed 0 1000&&decide (ko v.jV=0)&&if v.cells=0 then BF v else DN v
abbrev N7(v:cy):Prop:=Lm v.js.gs/\Lm v.js.ks
instance(v:cy):Ct 385 [v.d] True (.bool (BF v)):=⟨fun _=>Q1 v⟩
instance(v:cy):Ct 378 [v.d] (N7 v) (.bool (DN v)):=by
 refine bf f378 [] [.tmp 2] fun pre=>?_;obtain⟨h1,h2⟩:=pre;unfold DN;repeat' first|exact zQ|with_reducible apply zJ<;>intro _|refine zK ?_
 all_goals first|with_reducible exact .refl _|(refine ab (congrArg D.bool ?_);rw[Bool.eq_iff_iff];simp[*,-List.length_eq_zero_iff];try omega)
@[go_sem] def ajj:sF prog 336 "hansard/viewers.right"=some 385:=aj
@[go_sem] def aji:sF prog 335 "hansard/viewers.right"=some 378:=aj
def afk(v:cy)(h:N7 v)(bx:ae):bj prog 193 5 [v.d] bx (fun _ bx'=>gX v=true/\∀q,q<5->bx' q=bx q) (fun d bx'=>gX v=false/\d= .dB 53 (I 450)/\∀q,q<5->bx' q=bx q):=by
 refine aI (fn:=f193) (tab:=[(5,[(21,18),(21,14),(17,14),(21,10),(17,10),(13,10),(21,7),(17,7),(13,7),(9,7)])]) (base:=5) mixed ?_ rfl aj rfl;refine aJ _ [.tmp 2] 41 rfl rfl rfl aj ?_;have e:∀r,(if v.cells=0 then BF v else DN v)=r->gX v=(aN v.no 0 99999&&aN v.cw 0 31&&aN v.lines 1 8&&aN v.speed 0 1000&&decide (ko v.jV=0)&&r):=fun r h=>by rw[<-h];rfl
 generalize gX v=B at *;refine sw ?_;refine cdd (fun hc=>?_) fun hc=>?_
 ·have e:=e (BF v) (by rw[if_pos hc]);replace hc:Hid _:=hc;repeat' first|exact zQ|with_reducible apply zJ<;>intro _|refine zK ?_
  all_goals exact fun q h=>if_neg oM
 ·have e:=e (DN v) (by rw[if_neg hc]);repeat' first|exact zQ|with_reducible apply zJ<;>intro _|refine zK ?_
  all_goals exact fun q h=>if_neg oM
def Jg{e:Nat}{x:D}(bx:ae)(h2:bx 2=⟨e,1,1,53,[x]⟩):yk prog (cJ prog) [] f192 5 [.loc 2 e 0 0] bx .ret fun m' bx'=>m'= .ret/\bx'=bx:=by
 refine lO (t:=5) _ _ 19 rfl rfl rfl aj aj (ak (ak (bB 0 [.loc 2 e 0 0]) 5 (.raw .nilIface)) 2 (.raw .nilIface)) ?_ ?_
 ·repeat' first|exact zQ|with_reducible apply zJ<;>intro _|refine zK ?_
 ·repeat' first|exact zQ|with_reducible apply zJ<;>intro _|refine zK ?_
def Jf{e:Nat}{x:D}(n:Int)(bx:ae)(c:∀c,fi x 0 [c]=some c)(h2:bx 2=⟨e,1,1,53,[x]⟩):yk prog (cJ prog) [] f192 5 [.loc 2 e 0 0] bx (.cU (.dB 53 (I n))) fun m' bx'=>m'= .ret/\bx'=ak bx 2 ⟨e,1,1,53,[I n]⟩:=by
 refine lO (t:=5) _ _ 19 rfl rfl rfl aj aj (ak (ak (bB 0 [.loc 2 e 0 0]) 5 (.dB 53 (I n))) 2 (.dB 53 (I n))) ?_ ?_
 ·repeat' first|exact zQ|with_reducible apply zJ<;>intro _|refine zK ?_
 ·repeat' first|exact zQ|with_reducible apply zJ<;>intro _|refine zK ?_
def Rc(v:cy)(h:N7 v):EF prog (cJ prog) [] f130 0 [v.d] (fun _=> .none) (fun d bx'=>∃r,bz bx' d=some r/\bN r (I (if gX v then 0 else 450))) (fun _ _=>False):=by
 refine rk _ [.cell 2 53] 5 rfl rfl rfl aj aj ?_;repeat' first|exact zQ|with_reducible apply zJ<;>intro _|refine zK ?_
 refine s_ (afk v h _) rfl (fun d bx1 hq=>?_) (fun d bx1 hq=>?_)
 ·obtain⟨h1,h3⟩:=hq;have b2:=h3 2 oM;simp only[ak,Bx.none,reduceIte,Nat.reduceEqDiff]at b2;repeat' first|exact zQ|with_reducible apply zJ<;>intro _|refine zK ?_
  refine jw _ (wz (Jg _ rfl)) fun m' bK hq=>?_;obtain⟨rfl,rfl⟩:=hq;repeat' first|exact zQ|with_reducible apply zJ<;>intro _|refine zK ?_
  exact⟨_,rfl,.refl _⟩
 ·obtain⟨h1,rfl,h3⟩:=hq;have b2:=h3 2 oM;simp only[ak,Bx.none,reduceIte,Nat.reduceEqDiff]at b2;repeat' first|exact zQ|with_reducible apply zJ<;>intro _|refine zK ?_
  refine jw _ (wz (Jf 450 _ (fun c=>by simp[go_sem]) b2)) fun m' bK hq=>?_;obtain⟨rfl,rfl⟩:=hq;repeat' first|exact zQ|with_reducible apply zJ<;>intro _|refine zK ?_
  exact⟨_,rfl,.refl _⟩
instance(v:cy):Ct 130 [v.d] (N7 v) (I (if gX v then 0 else 450)):=⟨fun h=>(GF (Rc v h)).to (fun _ _ h=>h) fun d' bx' h=>h⟩
instance(l:List Sign):Ct 260 [.sl 2 (l.map Sign.d)] True (I (nH l)):=by
 refine bf f260 [] [.tmp 2] fun pre=>?_;have h1:Hid (64<(l.length:Int)->nH l=2):=fun h=>by unfold nH;rw[if_pos h]
 have h2:Hid (¬64<(l.length:Int)->nH l=0\/nH l=120):=fun h=>by unfold nH;rw[if_neg h];split<;>simp
 repeat' first|exact zQ|with_reducible apply zJ<;>intro _|refine zK ?_
 ·rw[h1.out (by assumption)];exact .refl _
 ·rcases h2.out (by assumption)with h|h
  ·contradiction
  ·rw[h];exact .refl _
instance(v:cy):Ct 205 [v.d] True (.bool (gX v)):=by
 refine bf f205 [] [.tmp 2] fun pre=>?_;repeat' first|exact zQ|with_reducible apply zJ<;>intro _|refine zK ?_
 all_goals (refine ab (congrArg D.bool ?_);simp[gX,BF,DN, *,-aN,-List.length_eq_zero_iff];try omega)
instance(v:cy):Ct 145 [v.d] True (I (if gX v then 0 else 450)):=by
 refine bf f145 [] [.tmp 2] fun pre=>?_;repeat' first|exact zQ|with_reducible apply zJ<;>intro _|refine zK ?_
 all_goals simp[*,ab]
end Go.V.St
namespace Go.V
open Go.Proofs Go.Proofs.Tryz Go.RowKit
class Cq(f:Nat)(ds:List D)(pre:outParam Prop)(ok:outParam Bool)(d pd:outParam D):Prop where
 h:pre->∀bx,bj prog f 0 ds bx (fun d' bx'=>ok=true/\d'=d/\bx'=bx) (fun d' bx'=>ok=false/\d'=pd/\bx'=bx)
variable {tab:List (Nat×List (Nat×Nat))} {base bk:Nat} {yl:Option (List (List D)×Nat×Nat)} {pn df:Bool} {P:Program} {bx:ae} {f:Nat} {ds:List D} {K2:Cl->D->ae->Prop} {pre:Prop} {d pd:D} {ok:Bool}
def j8[h:Cq f ds pre ok d pd](h1:pre)(hk:ok=true->K2 .wa d bx)(hp:ok=false->K2 (.cU pd) .undef bx):fz ⟨cJ prog,tab,base,bk,0,yl,pn,df⟩ f ds bx K2:=by
 refine s_ (cB:=fun d' bx'=>ok=true/\d'=d/\bx'=bx) (Pan:=fun d' bx'=>ok=false/\d'=pd/\bx'=bx) (h.h h1 bx) rfl ?_ ?_
 ·rintro d' bx' ⟨h2,rfl,rfl⟩;exact hk h2
 ·rintro d' bx' ⟨h2,rfl,rfl⟩;exact hp h2
theorem Ve{f:Nat}(fn:Func){ds:List D}{d pd:D}{ok:Bool}{c:Code}{n:Nat}{pre:Prop}(tab:List (Nat×List (Nat×Nat)))(rv:List ResultVar)
 (h:pre->∀bx,cD prog ⟨cJ prog,tab,0,0+n,0,none,true,false⟩ c (BC prog rv (fun d' bx'=>ok=true/\d'=d/\bx'=bx) (fun d' bx'=>ok=false/\d'=pd/\bx'=bx)) (bB 0 ds) bx)
 (hc:fn.body=some c:=by exact rfl) (hr:fn.results=rv.toArray:=by exact rfl) (hn:fn.ntmps=n:=by exact rfl) (bD:codeOk tab n c=true:=by kernel_rfl)
 (hf:prog.funcs[f]? =some fn:=by exact rfl) (eM:(fn.name== "runtime.NumGoroutine")=false:=by exact rfl) (hlen:decide (ds.length<=fn.ntmps)=true:=by kernel_rfl):Cq f ds pre ok d pd:=
 ⟨fun h1 bx=>aI Lx.mixed (aJ c rv n hc hr hn bD (h h1 bx)) hf eM hlen⟩
theorem RA{f:Nat}(fn:Func){ds:List D}{d:D}{c:Code}{n:Nat}{pre:Prop}(tab:List (Nat×List (Nat×Nat)))(rv:List ResultVar)
 (h:pre->cD prog ⟨cJ prog,tab,0,0+n,0,none,true,false⟩ c (BC prog rv (fun d' bx'=>aK (bz bx' d') fun r=>bN r d) (fun _ _=>False)) (bB 0 ds) (fun _=> .none))
 (hc:fn.body=some c:=by exact rfl) (hr:fn.results=rv.toArray:=by exact rfl) (hn:fn.ntmps=n:=by exact rfl) (bD:codeOk tab n c=true:=by kernel_rfl)
 (hf:prog.funcs[f]? =some fn:=by exact rfl) (eM:(fn.name== "runtime.NumGoroutine")=false:=by exact rfl) (hlen:decide (ds.length<=fn.ntmps)=true:=by kernel_rfl):Ct f ds pre d:=
 ⟨fun h1=>(aI (base:=0) Lx.mixed (aJ c rv n hc hr hn bD (h h1)) hf eM hlen).to (fun _ _ h=>h) fun d' bx' h=>by
  cases ho:bz bx' d' with
  |none=>rw[ho]at h;exact h.elim
  |some r=>rw[ho]at h;exact⟨r,rfl,h⟩⟩
def fresh{P:Program}{C:Calc}{c:Code}{Q:DX->Env->ae->Prop}{σ:Env}{bx:ae}(K:Env->ae->Prop)(h:K σ bx)(hk:∀σ bx,K σ bx->cD P C c Q σ bx):cD P C c Q σ bx:=hk σ bx h
end Go.V
namespace Go.V.St
open Go.Proofs Go.Proofs.Tryz Go.RowKit Go.V.Lx Go.V.Gr Go.V.Ty
abbrev mZ(n:Int):D:=.dB 53 (I n)
instance(b:Bool)(n:Int):Cq 122 [.bool b,I n] True b (.aL []) (mZ n):=by
 refine Ve f122 (n:=8) [] [] fun pre bx=>?_;repeat' first|exact zQ|with_reducible apply zJ<;>intro _|refine zK ?_
instance(n a b:Int):Cq 123 [I n,I a,I b] True (aN n a b) (.aL []) (mZ 540):=by
 refine Ve f123 (n:=15) [] [] fun pre bx=>?_;repeat' first|exact zQ|with_reducible apply zJ<;>intro _|((with_reducible refine j8 ?_ (fun _=>?_) fun _=>?_);exact pr)|refine zK ?_|fail
 all_goals first|with_reducible exact .refl _|(refine ab ?_;have aP:=aP.out zz;simp[*];done)|((try refine ab ?_);exact zz)
instance(l:List Int):Cq 124 [.sl 1 (l.map I)] (Lm l) (l.all fun n=>decide (n=0)) (.aL []) (mZ 540):=by
 refine Ve f124 (n:=14) [] [] fun pre bx=>?_;generalize hA:List.all l _=A;repeat' first|exact zQ|with_reducible apply zJ<;>intro _|((with_reducible refine j8 ?_ (fun _=>?_) fun _=>?_);exact pr)|refine zK ?_|fail
 refine gR l hA 6 [(3,3),(6,13)] [] pre sG (fun j x τ β hx hj hw hi aP=>?_) fun τ β hn hi ha=>?_
 ·repeat' first|exact zQ|with_reducible apply zJ<;>intro _|((with_reducible refine j8 ?_ (fun _=>?_) fun _=>?_);exact pr)|refine zK ?_|fail
  exact aP.out (by assumption)
 ·repeat' first|exact zQ|with_reducible apply zJ<;>intro _|((with_reducible refine j8 ?_ (fun _=>?_) fun _=>?_);exact pr)|refine zK ?_|fail
instance(v:cy)(n:Int):Ct 195 [v.d,.cA (I n) 0] True (.bool (decide (v.no=n))):=by
 refine bf f195 [] [.tmp 3] fun pre=>?_;repeat' first|exact zQ|with_reducible apply zJ<;>intro _|refine zK ?_
def Co(n:Int)(l:List cy):Int:=fh (fun v:cy=>decide (v.no=n)) l
instance(s:aV)(n:Int):Ct 131 [s.d,I n] (Lm s.cr) (I (Co n s.cr)):=by
 refine bf f131 [] [.tmp 4] fun pre=>?_;repeat' first|exact zQ|with_reducible apply zJ<;>intro _|refine zK ?_
 refine U4 (ds':=[.sl 14 (s.cr.map cy.d),.fn (.func 195) [.cA (I n) 0]]) (by simp[go_sem,Bo,D.cells,D.aF,D.pure,D.one,lU,ak,dn,lv,I,Bx.none]) ?_;repeat' first|exact zQ|with_reducible apply zJ<;>intro _|refine zK ?_
 all_goals exact .refl _
instance(s:aV)(n:Int):Ct 147 [s.d,I n] (Lm s.cr) (I (Co n s.cr)):=by
 refine bf f147 [] [.tmp 4] fun pre=>?_;generalize hA:List.findIdx? (fun v:cy=>decide (v.no=n)) s.cr=A;unfold Co fh;rw[hA];repeat' first|exact zQ|with_reducible apply zJ<;>intro _|refine zK ?_
 refine vk s.cr hA 5 [(4,21)] [] pre sG (fun j x τ β hx hj hw hi aP=>?_) fun τ β hn hi ha=>?_
 ·repeat' first|exact zQ|with_reducible apply zJ<;>intro _|refine zK ?_
  ·rw[aP.out (by simpa using ‹x.no=n›)];exact .refl _
 ·subst ha;repeat' first|exact zQ|with_reducible apply zJ<;>intro _|refine zK ?_
instance(n a b:Int):Ct 140 [I n,I a,I b] True (.bool (aN n a b)):=by
 refine bf f140 [] [.tmp 6] fun pre=>?_;repeat' first|exact zQ|with_reducible apply zJ<;>intro _|refine zK ?_
 all_goals first|with_reducible exact .refl _|(refine ab ?_;have aP:=aP.out zz;simp[*];done)|((try refine ab ?_);exact zz)
instance(n:Int):Ct 148 [I n] True (.bool (uR n)):=by
 refine bf f148 [] [.tmp 2] fun pre=>?_;repeat' first|exact zQ|with_reducible apply zJ<;>intro _|refine zK ?_
 all_goals first|with_reducible exact .refl _|(refine ab ?_;have aP:=aP.out zz;simp[*];done)|((try refine ab ?_);exact zz)
def tZ(so la ch qu lt ga mo:Int):Bool:=aN so 1 16&&aN la 1 32&&aN ch 1 1073741824&&aN qu 1 1073741824&&aN ga 1 1073741824&&aN lt 0 1073741824&&aN mo 1 16
instance(a b c d e f g:Int):Ct 75 [.agg [I a,I b,I c,I d,I e,I f,I g]] True (.bool (tZ a b c d e f g)):=by
 refine bf f75 [] [.tmp 2] fun pre=>?_;unfold tZ;repeat' first|exact zQ|with_reducible apply zJ<;>intro _|refine zK ?_
 all_goals (refine ab (congrArg D.bool ?_);simp[*,-aN];done)
def Cu(h:bc):Bool:=aN h.seq 0 1048576&&uR h.ir&&decide ((h.words.length:Int)<=64)
instance(h:bc):Ct 149 [.agg [I h.seq,I h.ir,I h.kind,I h.jy,I h.cut,.sl 5 (h.words.map Word.d)]] True (.bool (Cu h)):=by
 refine bf f149 [] [.tmp 2] fun pre=>?_;unfold Cu;repeat' first|exact zQ|with_reducible apply zJ<;>intro _|refine zK ?_
 all_goals first|with_reducible exact .refl _|(refine ab ?_;have aP:=aP.out zz;simp[*];done)|((try refine ab ?_);exact zz)
end Go.V.St
