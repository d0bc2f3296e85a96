/- A try of the walk by itself. -/
import Derived.Test.YtkgloohlmogakaaGreatDoorB25
import Derived.Test.YtkgloohlmogakaaGreatDoorB21
import Derived.Test.YtkgloohlmogakaaGreatDoorB24
set_option linter.unusedSimpArgs false
set_option linter.unusedVariables false
set_option maxRecDepth 100000
namespace Go.V.St
open Go.Proofs Go.RowKit Go.V.Lx Go.V.Gr Go.V.Ty
attribute [simp] aL
instance(n a b:Int):Ct Tryz.prog 257 [I n,I a,I b] True (.bool (aL n a b)):=by
 refine bm (fn:=Tryz.f257) [] [.tmp 6] fun pre=>?_;repeat' first|exact zQ|with_reducible refine zJ (fun _=>?_) fun _=>?_|refine zK ?_|fail
 all_goals first|with_reducible exact .refl _|(refine ab ?_;have hno:=hno.out zz;simp[*];done)|((try refine ab ?_);exact zz)
instance(l:List Int):Ct Tryz.prog 332 [ints l] (Lm l) (.bool (l.all fun n=>aL n 0 63)):=by
 refine bm (fn:=Tryz.f332) [] [.tmp 2] fun pre=>?_;generalize hA:List.all l _=A;repeat' first|exact zQ|with_reducible refine zJ (fun _=>?_) fun _=>?_|refine zK ?_|fail
 refine fS l hA 3 [(2,21)] [] pre sG ?_ ?_
 ·intro j x τ β hx hj hw h3 hno;repeat' first|exact zQ|with_reducible refine zJ (fun _=>?_) fun _=>?_|refine zK ?_|fail
  all_goals first|with_reducible exact .refl _|(refine ab ?_;have hno:=hno.out zz;simp[*];done)|((try refine ab ?_);exact zz)
 ·intro τ β hn h3 ha;repeat' first|exact zQ|with_reducible refine zJ (fun _=>?_) fun _=>?_|refine zK ?_|fail
  all_goals first|with_reducible exact .refl _|(refine ab ?_;have hno:=hno.out zz;simp[*];done)|((try refine ab ?_);exact zz)
structure P2 where
 a:Int
 b:Int
@[reducible] def P2.d(x:P2):D:=.agg [I x.a,I x.b]
section
variable {f:Nat} {caps:List D}
instance{p:ah->Bool}{q:ah->Prop}[h:∀x,Ct Tryz.prog f (D.str x::caps) (q x) (.bool (p x))](l:List ah):Ct Tryz.prog 321 [.sl 1 (l.map D.str),.fn (.func f) caps] (D.aF caps=true/\Lm l/\∀x∈l,q x) (I (dw p l)):=by
 refine bm (fn:=Tryz.f321) [] [.tmp 4] fun pre=>?_;obtain⟨hp,hl,hq⟩:=pre;generalize hA:List.findIdx? p l=A;unfold dw;rw[hA];repeat' first|exact zQ|with_reducible refine zJ (fun _=>?_) fun _=>?_|refine zK ?_|fail
 refine pJ l hA 8 [(4,5),(8,18)] [] hl sG ?_ ?_
 ·intro j x τ β hx hj hw h8 hno;have hq:=hq x (List.mem_of_getElem? hx);repeat' first|exact zQ|with_reducible refine zJ (fun _=>?_) fun _=>?_|refine zK ?_|fail
  rw[hno.out (by assumption)];exact .refl _
 ·intro τ β hn h8 ha;subst ha;repeat' first|exact zQ|with_reducible refine zJ (fun _=>?_) fun _=>?_|refine zK ?_|fail
instance{p:ah->Bool}{q:ah->Prop}[h:∀x,Ct Tryz.prog f (D.str x::caps) (q x) (.bool (p x))](l:List ah):Ct Tryz.prog 277 [.sl 1 (l.map D.str),.fn (.func f) caps] (D.aF caps=true/\Lm l/\∀x∈l,q x) (.bool (l.any p)):=by
 refine bm (fn:=Tryz.f277) [] [.tmp 4] fun pre=>?_;obtain⟨hp,hl,hq⟩:=pre;rw[<-fR];repeat' first|exact zQ|with_reducible refine zJ (fun _=>?_) fun _=>?_|refine zK ?_|fail
instance{p:Int->Bool}{q:Int->Prop}[h:∀x,Ct Tryz.prog f (I x::caps) (q x) (.bool (p x))](l:List Int):Ct Tryz.prog 286 [.sl 1 (l.map I),.fn (.func f) caps] (D.aF caps=true/\Lm l/\∀x∈l,q x) (I (dw p l)):=by
 refine bm (fn:=Tryz.f286) [] [.tmp 4] fun pre=>?_;obtain⟨hp,hl,hq⟩:=pre;generalize hA:List.findIdx? p l=A;unfold dw;rw[hA];repeat' first|exact zQ|with_reducible refine zJ (fun _=>?_) fun _=>?_|refine zK ?_|fail
 refine pJ l hA 8 [(4,5),(8,18)] [] hl sG ?_ ?_
 ·intro j x τ β hx hj hw h8 hno;have hq:=hq x (List.mem_of_getElem? hx);repeat' first|exact zQ|with_reducible refine zJ (fun _=>?_) fun _=>?_|refine zK ?_|fail
  rw[hno.out (by assumption)];exact .refl _
 ·intro τ β hn h8 ha;subst ha;repeat' first|exact zQ|with_reducible refine zJ (fun _=>?_) fun _=>?_|refine zK ?_|fail
instance{p:Int->Bool}{q:Int->Prop}[h:∀x,Ct Tryz.prog f (I x::caps) (q x) (.bool (p x))](l:List Int):Ct Tryz.prog 236 [.sl 1 (l.map I),.fn (.func f) caps] (D.aF caps=true/\Lm l/\∀x∈l,q x) (.bool (l.any p)):=by
 refine bm (fn:=Tryz.f236) [] [.tmp 4] fun pre=>?_;obtain⟨hp,hl,hq⟩:=pre;rw[<-fR];repeat' first|exact zQ|with_reducible refine zJ (fun _=>?_) fun _=>?_|refine zK ?_|fail
instance{p:bL->Bool}{q:bL->Prop}[h:∀x,Ct Tryz.prog f (bL.d x::caps) (q x) (.bool (p x))](l:List bL):Ct Tryz.prog 194 [.sl 14 (l.map bL.d),.fn (.func f) caps] (D.aF caps=true/\Lm l/\∀x∈l,q x) (I (dw p l)):=by
 refine bm (fn:=Tryz.f194) [] [.tmp 4] fun pre=>?_;obtain⟨hp,hl,hq⟩:=pre;generalize hA:List.findIdx? p l=A;unfold dw;rw[hA];repeat' first|exact zQ|with_reducible refine zJ (fun _=>?_) fun _=>?_|refine zK ?_|fail
 refine pJ l hA 8 [(4,5),(8,18)] [] hl sG ?_ ?_
 ·intro j x τ β hx hj hw h8 hno;have hq:=hq x (List.mem_of_getElem? hx);repeat' first|exact zQ|with_reducible refine zJ (fun _=>?_) fun _=>?_|refine zK ?_|fail
  rw[hno.out (by assumption)];exact .refl _
 ·intro τ β hn h8 ha;subst ha;repeat' first|exact zQ|with_reducible refine zJ (fun _=>?_) fun _=>?_|refine zK ?_|fail
end
end Go.V.St
namespace Go.V.St
open Go.Proofs Go.RowKit Go.V.Lx Go.V.Gr Go.V.Ty
def jj(s:ah):Int×Int:=if jh s then(0,0)else((cM s).1,(cM s).2)
def eL(s:ah)(r:Int):Nat->Int
 |0=>r
 |j+1=>eL s r j * 64+bh s (j+1) - 128
def ub(s:ah)(j:Nat):Prop:=∀i,i<j->128<=bh s (i+1)/\bh s (i+1)<192
theorem wF{s:ah}{r:Int}(h0:0<=r)(h1:r<128):∀j,ub s j->0<=eL s r j/\eL s r j<128 * 64 ^ j
 |0,_=>⟨h0,by simpa[eL]using h1⟩
 |j+1,h=>by
  obtain⟨h2,h3⟩:=wF h0 h1 j fun i hi=>h i oM;obtain⟨h4,h5⟩:=h j oM;have:(64:Int) ^ (j+1)=64 * 64 ^ j:=by rw[Int.pow_succ];omega
  simp only[eL];omega
theorem fk(s:ah)(i:Nat):bh s i<256:=by unfold bh;exact UInt8.toNat_lt _
instance(b:Int):Ct Tryz.prog 355 [I b] (0<=b/\b<256) (.tup [I (fp b).1,I (fp b).2]):=⟨fun h=>Mn b h.1 h.2⟩
instance(n:Int):Ct Tryz.prog 356 [I n] True (.bool (eT n)):=⟨fun _=>CL n⟩
@[reducible] def RJ(l:ah):D:=.sl 1 (l.map fun b=>D.int .u8 (b.toNat:Int))
@[go_sem] theorem C8:∀l:ah,fA (l.map fun b=>D.int .u8 (b.toNat:Int))=some l
 |[]=>rfl
 |b::l=>by rw[List.map_cons,Bs,C8 l];simp
instance(n:Int):Ct Tryz.prog 357 [I n] (0<=n/\n<=1114111) (RJ (fB n.toNat)):=⟨fun h=>by
 have:=Jq n.toNat oM;rwa[Int.toNat_of_nonneg h.1]at this⟩
theorem B7{s:ah}{i:Nat}(h:i<s.length):∃b,s[i]? =some b/\(b.toNat:Int)=bh s i:=⟨s[i],List.getElem?_eq_getElem h,by simp[bh,List.getElem?_eq_getElem h]⟩
theorem mc{b:Int}(h:(fp b).1≠0):(b<128/\fp b=(1,b))\/(192<=b/\b<224/\fp b=(2,b - 192))\/(224<=b/\b<240/\fp b=(3,b - 224))\/(240<=b/\b<248/\fp b=(4,b - 240)):=by
 unfold fp at h⊢;by_cases h1:b<128
 ·exact .inl ⟨h1,by rw[if_pos h1]⟩
 by_cases h2:192<=b/\b<224
 ·exact .inr (.inl ⟨h2.1,h2.2,by rw[if_neg h1,if_pos h2]⟩)
 by_cases h3:224<=b/\b<240
 ·exact .inr (.inr (.inl ⟨h3.1,h3.2,by rw[if_neg h1,if_neg h2,if_pos h3]⟩))
 by_cases h4:240<=b/\b<248
 ·exact .inr (.inr (.inr ⟨h4.1,h4.2,by rw[if_neg h1,if_neg h2,if_neg h3,if_pos h4]⟩))
 ·rw[if_neg h1,if_neg h2,if_neg h3,if_neg h4]at h;exact absurd rfl h
theorem Ku{s:ah}{n:Nat}(h:n<=s.length):s.take n=(List.range n).map fun i=>UInt8.ofNat (bh s i):=by
 apply List.ext_getElem
 ·simp;omega
 ·intro i h1 h2;simp only[List.getElem_take,List.getElem_map,List.getElem_range];simp only[List.length_take]at h1;simp[bh,List.getElem?_eq_getElem (show i<s.length by omega)]
theorem zo{s:ah}{n:Nat}{r:Int}(hn:n<=s.length)(hc:ub s (n - 1))(hb:(fp (bh s 0))=((n:Int),r))(hz:n≠0):
 (fB (eL s r (n - 1)).toNat=s.take n)<->(if n=1 then 0 else if n=2 then 128 else if n=3 then 2048 else 65536:Int)<=eL s r (n - 1):=by
 rw[Ku hn];have hlt:=fk s 0;have ob:∀ {a b:Nat},a=b->UInt8.ofNat a=UInt8.ofNat b:=fun h=>by rw[h]
 rcases mc (b:=(bh s 0:Int)) (by rw[hb];simpa using hz)with⟨h1,h2⟩|⟨h1,h1',h2⟩|⟨h1,h1',h2⟩|⟨h1,h1',h2⟩<;>rw[hb]at h2<;>injection h2 with h2 h3
 ·obtain rfl:n=1:=oM;subst h3;simp[eL,fB,show bh s 0<128 by omega,List.range_succ]
 ·obtain rfl:n=2:=oM;have c0:=hc 0 oM;simp only[eL,Nat.zero_add]at c0⊢;obtain⟨m,hm⟩:∃m:Nat,r * 64+(bh s 1:Int) - 128=m:=⟨(r * 64+(bh s 1:Int) - 128).toNat,by omega⟩
  simp only[hm,Int.toNat_natCast,List.range_succ,List.range_zero,List.nil_append,List.cons_append,List.map_cons,List.map_nil];unfold fB;by_cases h5:m<128
  ·rw[if_pos h5];simp;omega
  ·rw[if_neg h5,if_pos oM];exact⟨fun _=>by simp;omega,fun _=>by rw[ob (show 192+m / 64=bh s 0 by omega),ob (show 128+m % 64=bh s 1 by omega)]⟩
 ·obtain rfl:n=3:=oM;have c0:=hc 0 oM;have c1:=hc 1 oM;simp only[eL,Nat.zero_add,Nat.reduceAdd]at c0 c1⊢;obtain⟨m,hm⟩:∃m:Nat,(r * 64+(bh s 1:Int) - 128) * 64+(bh s 2:Int) - 128=m:=⟨((r * 64+(bh s 1:Int) - 128) * 64+(bh s 2:Int) - 128).toNat,by omega⟩
  simp only[hm,Int.toNat_natCast,List.range_succ,List.range_zero,List.nil_append,List.cons_append,List.map_cons,List.map_nil];unfold fB;by_cases h5:m<128
  ·rw[if_pos h5];simp;omega
  by_cases h6:m<2048
  ·rw[if_neg h5,if_pos h6];simp;omega
  ·rw[if_neg h5,if_neg h6,if_pos oM];exact⟨fun _=>by simp;omega,fun _=>by rw[ob (show 224+m / 4096=bh s 0 by omega),ob (show 128+m / 64 % 64=bh s 1 by omega),ob (show 128+m % 64=bh s 2 by omega)]⟩
 ·obtain rfl:n=4:=oM;have c0:=hc 0 oM;have c1:=hc 1 oM;have c2:=hc 2 oM;simp only[eL,Nat.zero_add,Nat.reduceAdd]at c0 c1 c2⊢;obtain⟨m,hm⟩:∃m:Nat,((r * 64+(bh s 1:Int) - 128) * 64+(bh s 2:Int) - 128) * 64+(bh s 3:Int) - 128=m:=⟨(((r * 64+(bh s 1:Int) - 128) * 64+(bh s 2:Int) - 128) * 64+(bh s 3:Int) - 128).toNat,by omega⟩
  simp only[hm,Int.toNat_natCast,List.range_succ,List.range_zero,List.nil_append,List.cons_append,List.map_cons,List.map_nil];unfold fB;by_cases h5:m<128
  ·rw[if_pos h5];simp;omega
  by_cases h6:m<2048
  ·rw[if_neg h5,if_pos h6];simp;omega
  by_cases h7:m<65536
  ·rw[if_neg h5,if_neg h6,if_pos h7];simp;omega
  ·rw[if_neg h5,if_neg h6,if_neg h7];exact⟨fun _=>by simp;omega,fun _=>by rw[ob (show 240+m / 262144=bh s 0 by omega),ob (show 128+m / 4096 % 64=bh s 1 by omega),ob (show 128+m / 64 % 64=bh s 2 by omega),ob (show 128+m % 64=bh s 3 by omega)]⟩
theorem Gz(s:ah)(r:Int):eL s r (1 - 1)=r:=rfl
theorem KX(s:ah)(r:Int):eL s r (2 - 1)=r * 64+bh s 1 - 128:=rfl
theorem KY(s:ah)(r:Int):eL s r (3 - 1)=(r * 64+bh s 1 - 128) * 64+bh s 2 - 128:=rfl
theorem KZ(s:ah)(r:Int):eL s r (4 - 1)=((r * 64+bh s 1 - 128) * 64+bh s 2 - 128) * 64+bh s 3 - 128:=rfl
def vp(s:ah)(n:Nat)(r:Int):Prop:=n≠0/\n<=s.length/\ub s (n - 1)/\eT (eL s r (n - 1))=true/\fB (eL s r (n - 1)).toNat=s.take n
theorem xE{s:ah}{a n:Nat}(h:s≠[])(hd:Lib.decodeN s.length (bh s 0) (bh s 1) (bh s 2) (bh s 3)=(a,n)):jj s=if a=65533/\n<2 then(0,0)else((a:Int),(n:Int)):=by
 have:cM s=(a,n):=by unfold cM;rw[if_neg (by simpa using h),hd]
 unfold jj jh;rw[this];by_cases h1:a=65533<;>by_cases h2:n<2<;>simp[h1,h2]
theorem qK(n:Int):eT n=true<->0<=n/\n<=1114111/\(n<55296\/57343<n):=by unfold eT;simp[and_assoc]
theorem Fb{s:ah}{n:Nat}{r:Int}(hb:fp (bh s 0)=((n:Int),r))(hg:vp s n r):jj s=(eL s r (n - 1),(n:Int)):=by
 obtain⟨g1,g2,g3,g4,g5⟩:=hg;have hs:s≠[]:=fun h=>by subst h;simp at g2;omega
 rw[zo g2 g3 hb g1]at g5;rw[qK]at g4;have h1:=fk s 1;have h2:=fk s 2;have h3:=fk s 3;have key:Lib.decodeN s.length (bh s 0) (bh s 1) (bh s 2) (bh s 3)=((eL s r (n - 1)).toNat,n):=by
  rcases mc (b:=(bh s 0:Int)) (by rw[hb];simpa using g1)with⟨e1,e2⟩|⟨e1,e1',e2⟩|⟨e1,e1',e2⟩|⟨e1,e1',e2⟩<;>rw[hb]at e2<;>injection e2 with e2 e3
  ·obtain rfl:n=1:=oM;simp only[eL,Lib.decodeN];rw[if_pos oM,e3];rfl
  ·obtain rfl:n=2:=oM;have c0:=g3 0 oM;simp only[eL,Nat.zero_add]at c0 g4 g5⊢;unfold Lib.decodeN;repeat' split
   all_goals first|(exfalso;omega)|(apply Prod.ext<;>simp only<;>omega)
  ·obtain rfl:n=3:=oM;have c0:=g3 0 oM;have c1:=g3 1 oM;simp only[eL,Nat.zero_add,Nat.reduceAdd]at c0 c1 g4 g5⊢;unfold Lib.decodeN;repeat' split
   all_goals first|(exfalso;omega)|(apply Prod.ext<;>simp only<;>omega)
  ·obtain rfl:n=4:=oM;have c0:=g3 0 oM;have c1:=g3 1 oM;have c2:=g3 2 oM;simp only[eL,Nat.zero_add,Nat.reduceAdd]at c0 c1 c2 g4 g5⊢;unfold Lib.decodeN;repeat' split
   all_goals first|(exfalso;omega)|(apply Prod.ext<;>simp only<;>omega)
 rw[xE hs key,if_neg,Int.toNat_of_nonneg oM];rintro⟨k1,k2⟩;obtain rfl:n=1:=oM;rw[Gz]at k1 g5;rcases mc (b:=(bh s 0:Int)) (by rw[hb];simp)with⟨e1,e2⟩|⟨e1,e1',e2⟩|⟨e1,e1',e2⟩|⟨e1,e1',e2⟩<;>rw[hb]at e2<;>injection e2 with e2 e3<;>omega
theorem Hg{s:ah}(hs:s≠[]){n:Nat}{r:Int}(hb:fp (bh s 0)=((n:Int),r))(hg:¬vp s n r):jj s=(0,0):=by
 suffices key:Lib.decodeN s.length (bh s 0) (bh s 1) (bh s 2) (bh s 3)=(65533,1) by rw[xE hs key];rfl
 have hl:0<s.length:=List.length_pos_iff.2 hs;have h0:=fk s 0;have h1:=fk s 1;have h2:=fk s 2;have h3:=fk s 3;have hg:∀(g1:n≠0) (g2:n<=s.length) (g3:ub s (n - 1)),eT (eL s r (n - 1))=true->(if n=1 then 0 else if n=2 then 128 else if n=3 then 2048 else 65536:Int)<=eL s r (n - 1)->False:=fun g1 g2 g3 g4 g5=>hg ⟨g1,g2,g3,g4,(zo g2 g3 hb g1).2 g5⟩;simp only[qK]at hg;unfold fp at hb;unfold Lib.decodeN;repeat' split
 all_goals first|rfl|exfalso
 ·rw[if_pos oM]at hb;injection hb with e1 e2;obtain rfl:n=1:=oM;exact hg oM oM (fun i hi=>by omega) (by rw[Gz];omega) (by rw[Gz,if_pos rfl];omega)
 ·rw[if_neg oM,if_pos oM]at hb;injection hb with e1 e2;obtain rfl:n=2:=oM;exact hg oM oM (fun i hi=>by
   obtain rfl:i=0:=oM;simp only[Nat.zero_add];omega) (by rw[KX];omega) (by rw[KX,if_neg oM,if_pos rfl];omega)
 ·rw[if_neg oM,if_neg oM,if_pos oM]at hb;injection hb with e1 e2;obtain rfl:n=3:=oM;exact hg oM oM (fun i hi=>by
   obtain rfl|rfl:i=0\/i=1:=oM;all_goals simp only[Nat.zero_add,Nat.reduceAdd];omega) (by rw[KY];omega) (by rw[KY,if_neg oM,if_neg oM,if_pos rfl];omega)
 ·rw[if_neg oM,if_neg oM,if_neg oM,if_pos oM]at hb;injection hb with e1 e2;obtain rfl:n=4:=oM;exact hg oM oM (fun i hi=>by
   obtain rfl|rfl|rfl:i=0\/i=1\/i=2:=oM;all_goals simp only[Nat.zero_add,Nat.reduceAdd];omega) (by rw[KZ];omega) (by rw[KZ,if_neg oM,if_neg oM,if_neg oM];omega)
theorem FE(b:Nat):∃(n:Nat) (r:Int),n<=4/\0<=r/\r<128/\fp b=((n:Int),r):=by
 by_cases h:(fp b).1=0
 ·refine⟨0,0,by omega,by omega,by omega,?_⟩;unfold fp at h⊢;repeat' split
  all_goals simp_all
 ·rcases mc h with⟨e1,e2⟩|⟨e1,e1',e2⟩|⟨e1,e1',e2⟩|⟨e1,e1',e2⟩
  ·exact⟨1,_,by omega,by omega,by omega,e2⟩
  ·exact⟨2,_,by omega,by omega,by omega,e2⟩
  ·exact⟨3,_,by omega,by omega,by omega,e2⟩
  ·exact⟨4,_,by omega,by omega,by omega,e2⟩
set_option maxHeartbeats 1000000 in
instance Ur(s:ah):Ct Tryz.prog 345 [.str s] (s≠[]) (.tup [I (jj s).1,I (jj s).2]):=by
 refine bm (fn:=Tryz.f345) [] [.tmp 2,.tmp 3] fun pre=>?_;have hl:0<s.length:=List.length_pos_iff.2 pre;obtain⟨b,hb,hb'⟩:=B7 hl;have hlt:=fk s 0;obtain⟨n,r,hn,hr0,hr1,hL⟩:=FE (bh s 0);have no:=fun h=>Hg pre hL h;have yes:=Fb hL;have e1:(fp (bh s 0)).1=n:=by rw[hL]
 have e2:(fp (bh s 0)).2=r:=by rw[hL]
 generalize jj s=F at *;clear hL;have no':¬vp s n r->bk (.tup [I 0,I 0]) (.tup [I F.1,I F.2]):=fun h=>by rw[no h];exact .refl _
 repeat' first|exact zQ|with_reducible refine zJ (fun _=>?_) fun _=>?_|refine zK ?_|fail
 ·exact no' fun g=>g.1 oM
 ·exact no' fun g=>by have:=g.2.1;omega
 refine iN [(2,3),(5,7),(23,42)] [] (n - 1) (fun j τ _=>τ 6=I ((j+1:Nat):Int)/\τ 5=I (eL s r j)/\ub s j) ⟨by simp[go_sem],by simp[go_sem,eL],fun i hi=>by omega⟩ ?_ ?_
 ·intro j τ β hj ⟨h6,h5,hc⟩;obtain⟨c,hc1,hc2⟩:=B7 (s:=s) (i:=j+1) oM;obtain⟨a0,a1⟩:=wF hr0 hr1 j hc;have p64:(64:Int) ^ j<=4096:=by
   obtain rfl|rfl|rfl:j=0\/j=1\/j=2:=oM;all_goals simp
  have hc3:=fk s (j+1);have hlt:((j+1:Nat):Int)<(n:Int):=oM;have hs:ub s (j+1)<->128<=bh s (j+1)/\bh s (j+1)<192:=⟨fun h=>h j oM,fun h i hi=>by
   by_cases hij:i=j
   ·subst hij;exact h
   ·exact hc i oM⟩
  have out:¬ub s (j+1)->¬vp s n r:=fun h g=>h fun i hi=>g.2.2.1 i oM;repeat' first|exact zQ|with_reducible refine zJ (fun _=>?_) fun _=>?_|refine zK ?_|fail
  ·exact no' (out (by rw[hs];omega))
  ·exact no' (out (by rw[hs];omega))
  ·exact⟨congrArg I oM,rfl,by omega,by omega⟩
 ·intro τ β ⟨h6,h5,hc⟩;have hlt:¬((n - 1+1:Nat):Int)<(n:Int):=oM;obtain⟨a0,a1⟩:=wF hr0 hr1 (n - 1) hc;have hP:=(qK (eL s r (n - 1))).1;repeat' first|exact zQ|with_reducible refine zJ (fun _=>?_) fun _=>?_|refine zK ?_|fail
  ·rw[yes ⟨by omega,by omega,hc,by assumption,by assumption⟩];exact .refl _
  ·exact no' fun g=>absurd g.2.2.2.2 (by assumption)
  ·exact no' fun g=>by simp_all[vp]
def dY(s:ah):List Int×Int:=if 4096<(s.length:Int)then([],2)else match jA s with
 |some l=>(l,0)
 |none=>([],90)
theorem BB{t:ah}(h:jh t=false):jj t=(((cM t).1:Int),((cM t).2:Int)):=by unfold jj;rw[h];rfl
theorem Jk{t:ah}(ht:t≠[]):(jj t).2=0<->jh t=true:=by
 unfold jj;cases h:jh t
 ·have:=iC ht;simp;omega
 ·simp
instance UO(s:ah):Ct Tryz.prog 324 [.str s] True (.tup [ints (dY s).1,I (dY s).2]):=by
 refine bm (fn:=Tryz.f324) [(1000010,[])] [.tmp 2,.tmp 3] fun pre=>?_;repeat' first|exact zQ|with_reducible refine zJ (fun _=>?_) fun _=>?_|refine zK ?_|fail
 ·rw[dY,if_pos (by assumption)];exact gV (.nil _) (.refl _)
 have no:jA s=none->dY s=([],90):=fun h=>by rw[dY,if_neg (by assumption),h]
 have yes:∀l,jA s=some l->dY s=(l,0):=fun l h=>by rw[dY,if_neg (by assumption),h]
 generalize dY s=R at *;refine uU (s,([]:List Int)) (fun g=>g.1.length) [(0,0),(2,6),(11,27)] (kU [10,24]) (fun g τ β=>τ 0= .str g.1/\g.2.length+g.1.length<=4096/\(jA s=(jA g.1).map fun l=>g.2++l)/\aW β [10,24] 3 1 (τ 4) (g.2.map I)) ?_ ?_
 ·exact⟨by simp[go_sem],by simp;omega,by simp,.inr ⟨10,1,by simp,rfl,rfl⟩⟩
 rintro⟨t,acc⟩ τ β ⟨h0,hl,hr,hv⟩;simp only at h0 hl hr hv;by_cases ht:t=[]
 ·subst ht;repeat' first|exact zQ|with_reducible refine zJ (fun _=>?_) fun _=>?_|refine zK ?_|fail
  refine MS (hv.mix _) ?_;rw[yes acc (by rw[hr];simp[jA,oy])]
 have:(0:Int)<(t.length:Int):=by have:=List.length_pos_iff.2 ht;omega
 have hd:=tQ ht;have hb:=Jk ht;repeat' first|exact zQ|with_reducible refine zJ (fun _=>?_) fun _=>?_|refine zK ?_|fail
 ·rw[no (by rw[hr,hd,if_pos (by assumption)];rfl)];exact gV (.nil _) (.refl _)
 have hb:jh t=false:=by simp_all
 have hf:=BB hb;have h2:=wL ht hb;have h3:=iC ht;refine app [10,24] (hv.mix _) fun x' β' hv'=>?_;repeat' first|exact zQ|with_reducible refine zJ (fun _=>?_) fun _=>?_|refine zK ?_|fail
 exact⟨(t.drop (cM t).2,acc++[((cM t).1:Int)]),by simp;omega,rfl,by simp;omega,by cases jA (t.drop (cM t).2)<;>simp,by simpa[hf]using hv'.mix _⟩
def qM:Nat->ah->List Int×Bool
 |0,_=>([],false)
 |n+1,s=>if s=[]then([],false)else if jh s then([],true)else(((cM s).1:Int)::(qM n (s.drop (cM s).2)).1,(qM n (s.drop (cM s).2)).2)
def eD(s:ah):List Int×Bool:=qM s.length s
theorem x_:∀ {n m:Nat} {s:ah},s.length<=n->n<=m->qM m s=qM n s
 |0,0,_,_,_=>rfl
 |0,m+1,s,h,_=>by obtain rfl:s=[]:=List.length_eq_zero_iff.1 oM;rfl
 |n+1,m+1,s,h,hm=>by
  by_cases hs:s=[]
  ·subst hs;rfl
  have hp:=iC hs;have hl:0<s.length:=List.length_pos_iff.2 hs;simp only[qM];rw[x_ (n:=n) (m:=m) (by rw[List.length_drop];omega) oM]
theorem sC{s:ah}(h:s≠[]):eD s=if jh s then([],true)else(((cM s).1:Int)::(eD (s.drop (cM s).2)).1,(eD (s.drop (cM s).2)).2):=by
 have hp:=iC h;have hl:0<s.length:=List.length_pos_iff.2 h;unfold eD;rw[<-x_ (m:=s.length - 1) (Nat.le_refl (s.drop (cM s).2).length) (by rw[List.length_drop];omega)];obtain⟨k,hk⟩:∃k,s.length=k+1:=⟨s.length - 1,by omega⟩
 rw[hk,Nat.add_sub_cancel,qM,if_neg h]
theorem qL:∀(n:Nat) (s:ah),s.length<=n->jA s=if(eD s).2 then none else some (eD s).1
 |n,s,hn=>by
  by_cases hs:s=[]
  ·subst hs;rfl
  have hp:=iC hs;have hl:0<s.length:=List.length_pos_iff.2 hs;obtain⟨m,rfl⟩:∃m,n=m+1:=⟨n - 1,by omega⟩
  rw[tQ hs,sC hs];cases jh s with
  |true=>rfl
  |false=>
   simp only[Bool.false_eq_true,if_false];rw[qL m _ (by rw[List.length_drop];omega)];cases(eD (s.drop (cM s).2)).2<;>rfl
instance(s:ah):Ct Tryz.prog 350 [.str s] True (.tup [.int .i32 (cM s).1,I (cM s).2]):=⟨fun _=>G0 s⟩
abbrev oJ:D:=.ifc 398 (.agg [])
def DV(s:ah):Option D:=if(eD s).2 then some oJ else none
theorem GZ(s:ah):(cM s).1<=1114111:=by
 unfold cM;split
 ·simp
 ·have h0:=fk s 0;have h1:=fk s 1;have h2:=fk s 2;have h3:=fk s 3;unfold Lib.decodeN;repeat' split
  all_goals (simp only;omega)
theorem FY(s:ah)(e0:Nat):sU Tryz.prog 349 ⟨e0,1,1,9,[.str s]⟩ ((eD s).1.map fun n=>[I n]) (DV s) 31:=by
 refine vl mixed (fn:=Tryz.f349) (tab:=[]) ?_ rfl rfl aj;refine vn _ 29 rfl rfl rfl aj ?_;intro gs l e bx hk hz hb;repeat' first|exact zQ|with_reducible refine zJ (fun _=>?_) fun _=>?_|refine zK ?_|fail
 refine uT (s,([]:List Int)) (fun g=>g.1.length) [(3,28)] (fun g τ β=>(β gs).sz=g.2.length/\(β gs).k=0/\β (gs+1)=⟨e,1,1,9,[.str g.1]⟩/\(eD s).1=g.2++(eD g.1).1/\(eD s).2=(eD g.1).2) ⟨hz,hk,hb,rfl,rfl⟩ ?_;rintro⟨t,acc⟩ τ β ⟨hz,hk,hb,hr,hp⟩;simp only at hz hk hb hr hp;have hP:DV s=if(eD t).2 then some oJ else none:=by unfold DV;rw[hp]
 by_cases ht:t=[]
 ·subst ht;repeat' first|exact zQ|with_reducible refine zJ (fun _=>?_) fun _=>?_|refine zK ?_|fail
  simp[eD,qM]
 have:(0:Int)<(t.length:Int):=by have:=List.length_pos_iff.2 ht;omega
 have hc:=sC ht;have h3:=iC ht;cases hbad:jh t with
 |true=>
  rw[hbad]at hc;simp only[jh,Bool.and_eq_true,decide_eq_true_eq]at hbad;have b1:((cM t).1:Int)=65533:=oM;have b2:((cM t).2:Int)<2:=oM;clear hbad;rw[if_pos rfl]at hc;repeat' first|exact zQ|with_reducible refine zJ (fun _=>?_) fun _=>?_|refine zK ?_|fail
 |false=>
  have h2:=wL ht hbad;have hx3:=GZ t;have n1:¬gs=gs+1:=oM;have n2:¬gs+1=gs:=oM;rw[hbad]at hc;simp only[Bool.false_eq_true,if_false]at hc;have key:¬(((cM t).1:Int)=65533/\((cM t).2:Int)<2):=by
   rintro⟨g1,g2⟩;rw[jh,decide_eq_true oM,decide_eq_true oM]at hbad;cases hbad
  generalize hx:(cM t).1=x at *;generalize hm:(cM t).2=m at *;clear hP;repeat' first|exact zQ|with_reducible refine zJ (fun _=>?_) fun _=>?_|refine zK ?_|fail
  ·exact absurd ⟨by assumption,by assumption⟩ key
  all_goals
   refine nH rfl sG (by simp[go_sem,ao,hz,hr,hc,iL];try omega) fun bx1=>⟨?_,?_⟩
   ·repeat' first|exact zQ|with_reducible refine zJ (fun _=>?_) fun _=>?_|refine zK ?_|fail
    exact⟨(t.drop m,acc++[(x:Int)]),by simp;omega,by simp,rfl,by simp[*],rfl⟩
   ·repeat' first|exact zQ|with_reducible refine zJ (fun _=>?_) fun _=>?_|refine zK ?_|fail
    exact .inr oM
theorem ur:∀(n:Nat) (s:ah),s.length<=n->(eD s).1.length<=s.length
 |n,s,hn=>by
  by_cases hs:s=[]
  ·subst hs;simp[eD,qM]
  have hp:=iC hs;have hl:0<s.length:=List.length_pos_iff.2 hs;obtain⟨m,rfl⟩:∃m,n=m+1:=⟨n - 1,by omega⟩
  rw[sC hs];cases hb:jh s with
  |true=>simp
  |false=>
   have:=wL hs hb;have:=ur m (s.drop (cM s).2) (by rw[List.length_drop];omega);rw[List.length_drop]at this;simp only[Bool.false_eq_true,if_false,List.length_cons];omega
theorem HV(s:ah)(bx:ae):aU Tryz.prog 341 8 [.str s] bx (fun d bx'=>d= .fn (.func 349) [.loc 9 ((bx 9).ep+1) 0 0]/\bx'=ao bx 9 ⟨(bx 9).ep+1,1,1,9,[.str s]⟩) (fun _ _=>False):=by
 refine aG (fn:=Tryz.f341) (tab:=[]) (base:=8) mixed ?_ rfl aj rfl;refine aH _ [.tmp 2] 4 rfl rfl rfl aj ?_;repeat' first|exact zQ|with_reducible refine zJ (fun _=>?_) fun _=>?_|refine zK ?_|fail
theorem GB(s:ah)(e:Nat)(bx:ae)(hb:bx 9=⟨e,1,1,9,[.str s]⟩)(hs:s.length<=4096):aU Tryz.prog 348 16 [.nilsl,.fn (.func 349) [.loc 9 e 0 0]] bx
 (fun d bx'=>(eD s).2=false/\aW bx' [27] 3 1 d ((eD s).1.map I)/\∀q,q<9->bx' q=bx q) (fun d bx'=>(eD s).2=true/\d=oJ/\∀q,q<9->bx' q=bx q):=by
 refine aG (fn:=Tryz.f348) (tab:=[]) (base:=16) mixed ?_ rfl aj rfl;refine aH _ [.tmp 4] 13 rfl rfl rfl aj ?_;have hlen:=ur _ s (Nat.le_refl _);repeat' first|exact zQ|with_reducible refine zJ (fun _=>?_) fun _=>?_|refine zK ?_|fail
 refine xu 349 9 e ⟨e,1,1,9,[.str s]⟩ _ _ 31 (fun n bx'=>∃x,bx' 18=⟨(bx 18).ep+1,1,1,134,[x]⟩/\aW bx' [27] 3 1 x (((eD s).1.take n).map I)/\∀q,q<9->bx' q=bx q) sG oM (by simp[go_sem,hb]) (FY s e) ?_ ?_ ?_
 ·repeat' first|exact zQ|with_reducible refine zJ (fun _=>?_) fun _=>?_|refine zK ?_|fail
  exact⟨_,rfl,.nil _ _ _ _,fun q hq=>by rw[if_pos oM,if_neg oM,if_neg oM]⟩
 ·intro n it bx1 hi ⟨x,h18,hv,hq⟩;rw[List.getElem?_map,Option.map_eq_some_iff]at hi;obtain⟨y,hy,rfl⟩:=hi;have hn:n<(eD s).1.length:=(List.getElem?_eq_some_iff.1 hy).1;rw[gB oM]at h18;replace hv:=hv.tv (fun t ht=>by simp at ht;omega);replace hq:∀q,q<9->bx1 q=bx q:=fun q h=>by rw[<-hq q h,gB oM]
  have hf:=hv.facts;repeat' first|exact zQ|with_reducible refine zJ (fun _=>?_) fun _=>?_|refine zK ?_|fail
  refine app [27] hv (fun x' β hv'=>?_) (by simp;omega);have hf:=hv'.facts;repeat' first|exact zQ|with_reducible refine zJ (fun _=>?_) fun _=>?_|refine zK ?_|fail
  refine⟨fun s h1 h2=>by rw[if_neg oM,if_pos oM,if_neg oM],x',rfl,?_,fun q h=>by rw[if_pos oM,if_neg oM,if_neg oM];exact hq q h⟩;rw[List.take_add_one,hy,Option.toList_some,List.map_append];exact hv'.of fun t ht=>by simp at ht;subst ht;simp[bp,ao,aY,cm]
 ·intro bx1 ⟨x,h18,hv,hq⟩;rw[gB oM]at h18;replace hv:=hv.tv (fun t ht=>by simp at ht;omega);replace hq:∀q,q<9->bx1 q=bx q:=fun q h=>by rw[<-hq q h,gB oM]
  rw[List.length_map,List.take_length]at hv;have hf:=hv.facts;unfold DV;cases hp:(eD s).2 with
  |true=>
   simp only[if_true,wW];repeat' first|exact zQ|with_reducible refine zJ (fun _=>?_) fun _=>?_|refine zK ?_|fail
   exact hq
  |false=>
   simp only[Bool.false_eq_true,if_false,wW];repeat' first|exact zQ|with_reducible refine zJ (fun _=>?_) fun _=>?_|refine zK ?_|fail
   exact hq
theorem EZ(s:ah)(e:Nat)(bx:ae)(hb:bx 9=⟨e,1,1,9,[.str s]⟩)(hs:s.length<=4096):aU Tryz.prog 340 11 [.fn (.func 349) [.loc 9 e 0 0]] bx
 (fun d bx'=>(eD s).2=false/\aW bx' [27] 3 1 d ((eD s).1.map I)/\∀q,q<9->bx' q=bx q) (fun d bx'=>(eD s).2=true/\d=oJ/\∀q,q<9->bx' q=bx q):=by
 refine aG (fn:=Tryz.f340) (tab:=[]) (base:=11) mixed ?_ rfl aj rfl;refine aH _ [.tmp 2] 5 rfl rfl rfl aj ?_;repeat' first|exact zQ|with_reducible refine zJ (fun _=>?_) fun _=>?_|refine zK ?_|fail
 refine nU (GB s e bx hb hs) rfl (fun d bx1 hq=>?_) (fun d bx1 hq=>?_)
 ·obtain⟨h1,h2,h3⟩:=hq;repeat' first|exact zQ|with_reducible refine zJ (fun _=>?_) fun _=>?_|refine zK ?_|fail
  exact h3
 ·obtain⟨h1,h2,h3⟩:=hq;repeat' first|exact zQ|with_reducible refine zJ (fun _=>?_) fun _=>?_|refine zK ?_|fail
  exact h3
variable {e2 e3:Nat} {x2 x3:D}
theorem mf(bx:ae)(h2:bx 2=⟨e2,1,1,134,[x2]⟩)(h3:bx 3=⟨e3,1,1,53,[x3]⟩):rV Tryz.prog (bK Tryz.prog) [] Tryz.f339 11 [.loc 2 e2 0 0,.loc 3 e3 0 0] bx .ret fun m' bx'=>m'= .ret/\bx'=bx:=by
 refine iv (t:=5) _ _ 16 rfl rfl rfl aj aj (ao (ao (aR 0 [.loc 2 e2 0 0,.loc 3 e3 0 0]) 5 (.raw .nilIface)) 2 (.raw .nilIface)) ?_ ?_
 ·repeat' first|exact zQ|with_reducible refine zJ (fun _=>?_) fun _=>?_|refine zK ?_|fail
 ·repeat' first|exact zQ|with_reducible refine zJ (fun _=>?_) fun _=>?_|refine zK ?_|fail
theorem BK(bx:ae)(o2:x2.one=true)(o2:x3.one=true)(c2:∀c,dz x2 0 [c]=some c)(c3:∀c,dz x3 0 [c]=some c)(h2:bx 2=⟨e2,1,1,134,[x2]⟩)(h3:bx 3=⟨e3,1,1,53,[x3]⟩):
 rV Tryz.prog (bK Tryz.prog) [] Tryz.f339 11 [.loc 2 e2 0 0,.loc 3 e3 0 0] bx (.pan oJ) fun m' bx'=>m'= .ret/\bx' 2=⟨e2,1,1,134,[.nilsl]⟩/\bx' 3=⟨e3,1,1,53,[I 90]⟩:=by
 refine iv (t:=5) _ _ 16 rfl rfl rfl aj aj (ao (ao (aR 0 [.loc 2 e2 0 0,.loc 3 e3 0 0]) 5 oJ) 2 oJ) ?_ ?_
 ·repeat' first|exact zQ|with_reducible refine zJ (fun _=>?_) fun _=>?_|refine zK ?_|fail
 ·repeat' first|exact zQ|with_reducible refine zJ (fun _=>?_) fun _=>?_|refine zK ?_|fail
set_option maxHeartbeats 1000000 in
theorem Ip(s:ah):xF Tryz.prog (bK Tryz.prog) [] Tryz.f319 0 [.str s] (fun _=> .none) (fun d bx'=>∃r,bf bx' d=some r/\bk r (.tup [ints (dY s).1,I (dY s).2])) (fun _ _=>False):=by
 refine my _ [.cell 2 134,.cell 3 53] 11 rfl rfl rfl aj aj ?_;repeat' first|exact zQ|with_reducible refine zJ (fun _=>?_) fun _=>?_|refine zK ?_|fail
 ·refine fJ _ (qw (mf _ rfl rfl)) fun m' bx2 hq=>?_;obtain⟨rfl,rfl⟩:=hq;repeat' first|exact zQ|with_reducible refine zJ (fun _=>?_) fun _=>?_|refine zK ?_|fail
  refine⟨_,rfl,?_⟩;rw[dY,if_pos (by assumption)];exact gV (.nil _) (.refl _)
 refine aB (HV s _) rfl fun d bx1 hq=>?_;obtain⟨rfl,rfl⟩:=hq;have hr:dY s=if(eD s).2 then([],90)else((eD s).1,0):=by
  rw[dY,if_neg (by assumption),qL _ s (Nat.le_refl _)];cases(eD s).2<;>rfl
 repeat' first|exact zQ|with_reducible refine zJ (fun _=>?_) fun _=>?_|refine zK ?_|fail
 refine nU (EZ s _ _ rfl oM) rfl (fun d bx1 hq=>?_) (fun d bx1 hq=>?_)
 ·obtain⟨h1,h2,h3⟩:=hq;have b2:=h3 2 oM;have b3:=h3 3 oM;simp only[ao,Bx.none,reduceIte,Nat.reduceEqDiff]at b2 b3;have hf:=h2.facts;repeat' first|exact zQ|with_reducible refine zJ (fun _=>?_) fun _=>?_|refine zK ?_|fail
  refine fJ _ (qw (mf _ rfl rfl)) fun m' bx2 hq=>?_;obtain⟨rfl,rfl⟩:=hq;repeat' first|exact zQ|with_reducible refine zJ (fun _=>?_) fun _=>?_|refine zK ?_|fail
  obtain⟨r,g1,g2⟩:=(h2.of (bx':=ao (ao bx1 2 ⟨1,1,1,134,[d]⟩) 3 ⟨1,1,1,53,[I 0]⟩) (fun t ht=>by simp at ht;subst ht;simp[ao])).out (by simp[go_sem,cA]);exact⟨_,by rw[g1];rfl,gV g2 (.refl _)⟩
 ·obtain⟨h1,rfl,h3⟩:=hq;have b2:=h3 2 oM;have b3:=h3 3 oM;simp only[ao,Bx.none,reduceIte,Nat.reduceEqDiff]at b2 b3;repeat' first|exact zQ|with_reducible refine zJ (fun _=>?_) fun _=>?_|refine zK ?_|fail
  refine fJ _ (qw (BK _ rfl rfl (fun c=>by simp[go_sem]) (fun c=>by simp[go_sem]) b2 b3)) fun m' bx2 hq=>?_;obtain⟨rfl,g2,g3⟩:=hq;repeat' first|exact zQ|with_reducible refine zJ (fun _=>?_) fun _=>?_|refine zK ?_|fail
  exact⟨_,rfl,gV (.nil _) (.refl _)⟩
instance(s:ah):Ct Tryz.prog 319 [.str s] True (.tup [ints (dY s).1,I (dY s).2]):=⟨fun _=>(zP (Ip s)).to (fun _ _ h=>h) fun d' bx' h=>h⟩
def rn(s:ah):Bool:=decide ((1:Int)<=s.length)&&decide ((s.length:Int)<=64)&&decide ((dY s).2=0)&& !(dY s).1.any ey
instance(n:Int):Ct Tryz.prog 342 [I n] True (.bool (ey n)):=⟨fun _=>Da n⟩
instance(n:Int):Ct Tryz.prog 325 [I n] True (.bool (ey n)):=⟨fun _=>Km n⟩
instance(l:List D):Ct Tryz.prog 343 [.sl 2 l] True (.fn (.func 351) [.cref (.sl 2 l) 0]):=by
 refine bm (fn:=Tryz.f343) [] [.tmp 2] fun pre=>?_;repeat' first|exact zQ|with_reducible refine zJ (fun _=>?_) fun _=>?_|refine zK ?_|fail
abbrev uY(k:Int)(f:D):D:=.agg [I k,f]
abbrev y8(l:List P2):D:=.fn (.func 351) [.cref (.sl 2 (l.map P2.d)) 0]
abbrev GO:D:=.sl 2 [uY 1 (.fn (.func 342) []),uY 2 (y8 [⟨48,57⟩]),uY 3 (y8 [⟨65,90⟩,⟨97,122⟩,⟨192,214⟩,⟨216,246⟩,⟨248,591⟩,⟨880,1279⟩]),uY 4 (y8 [⟨1424,1983⟩])]
instance:Ct Tryz.prog 320 [] True GO:=by
 refine bm (fn:=Tryz.f320) [] [.tmp 0] fun pre=>?_;repeat' first|exact zQ|with_reducible refine zJ (fun _=>?_) fun _=>?_|refine zK ?_|fail
 exact .refl _
theorem o9(s:ah):(dY s).1.length<=4096:=by
 unfold dY;split
 ·simp
 ·rw[qL _ s (Nat.le_refl _)];have:=ur _ s (Nat.le_refl _);cases(eD s).2
  ·simp only[Bool.false_eq_true,if_false];omega
  ·simp
instance(s:ah):Ct Tryz.prog 276 [.str s] True (.bool (rn s)):=by
 refine bm (fn:=Tryz.f276) [] [.tmp 2] fun pre=>?_;have hl:=o9 s;unfold rn;generalize hA:List.any _ _=A;repeat' first|exact zQ|with_reducible refine zJ (fun _=>?_) fun _=>?_|refine zK ?_|fail
 all_goals first|with_reducible exact .refl _|(refine ab ?_;have hno:=hno.out zz;simp[*];done)|((try refine ab ?_);exact zz)
instance(s:ah):Ct Tryz.prog 294 [.str s] True (.bool (rn s)):=by
 refine bm (fn:=Tryz.f294) [] [.tmp 2] fun pre=>?_;have hl:=o9 s;unfold rn;generalize hA:List.any _ _=A;repeat' first|exact zQ|with_reducible refine zJ (fun _=>?_) fun _=>?_|refine zK ?_|fail
 rotate_right
 refine EM _ hA 5 [(2,2),(5,5),(21,31)] [] oM sG (fun j x τ β hx hj hw hi hno=>?_) fun τ β hn hi ha=>?_;all_goals (try repeat' first|exact zQ|with_reducible refine zJ (fun _=>?_) fun _=>?_|refine zK ?_|fail)
 all_goals first|with_reducible exact .refl _|(refine ab ?_;have hno:=hno.out zz;simp[*];done)|((try refine ab ?_);exact zz)
end Go.V.St
