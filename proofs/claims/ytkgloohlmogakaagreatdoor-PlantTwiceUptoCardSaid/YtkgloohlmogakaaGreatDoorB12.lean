/- Types: what slices' functions and all do with a predicate that looks at its caller's variables. -/
import Derived.Test.YtkgloohlmogakaaGreatDoorB11
set_option linter.unusedSimpArgs false
set_option linter.unusedVariables false
set_option maxRecDepth 100000
namespace Go.V.Ty
open Go.Proofs Go.RowKit Go.V.Lx Go.V.Gr
theorem oF{f:FuncId}{ds:List D}{d:D}(h:aq Tryz.prog f ds d)(hp:D.aF ds=true)(bx:ae):aU Tryz.prog f 0 ds bx (fun d' bx'=>d'=d/\bx'=bx) (fun _ _=>False):=by
 intro X ρ σ a w vs hS xlo hl hv;exact(h.carried (S:=ay X ρ bx w) (fun b hb=>hb.1) (hS.glo.dK rfl) hl (fun i x v hx hv'=>(hv i x v hx hv').dK (o6 _ hp i x hx)) fun v w' hp=>⟨d,bx,ρ,⟨rfl,rfl⟩,hS.LM hp⟩).dK
def bC{α:Type}(f:FuncId)(caps:List D)(n0 k:Nat)(bx0:ae)(enc:α->D)(dom:α->Prop)(p:α->Bool):Prop:=
 ∀(bx:ae) (x:α),(∀s,s<n0->bx s=bx0 s)->dom x->aU Tryz.prog f 0 (enc x::caps) bx (fun d bx'=>d= .bool (p x)/\∀s,s<k->bx' s=bx s) (fun _ _=>False)
theorem bC.agree{α:Type}{f:FuncId}{caps:List D}{n0 k:Nat}{bx0 bx1:ae}{enc:α->D}{dom:α->Prop}{p:α->Bool}(h:bC f caps n0 k bx0 enc dom p)(hb:∀s,s<n0->bx1 s=bx0 s):bC f caps n0 k bx1 enc dom p:=
 fun bx x hs hd=>h bx x (fun s hs'=>(hs s hs').trans (hb s hs')) hd
theorem bC.of{α:Type}{f:FuncId}{enc:α->D}{dom:α->Prop}{p:α->Bool}(h:∀x,dom x->aq Tryz.prog f [enc x] (.bool (p x)))(hp:∀x,(enc x).pure=true)(k:Nat)(bx0:ae):bC f [] 0 k bx0 enc dom p:=
 fun bx x _ hd=>(oF (h x hd) (by simp[D.aF,hp]) bx).mono (fun d bx' ⟨h1,h2⟩=>⟨h1,fun s _=>by rw[h2]⟩) (fun _ _ h=>h)
def dw{α:Type}(p:α->Bool)(l:List α):Int:=match l.findIdx? p with
 |some i=>i
 |none=> -1
theorem Ch{α:Type}(p:α->Bool):∀(l:List α) (j:Nat) (x:α),(l.take j).any p=false->l[j]? =some x->p x=true->l.findIdx? p=some j
 |[],j,x,_,h,_=>by simp at h
 |y::l,0,x,_,h,hp=>by simp at h;subst h;simp[List.findIdx?_cons,hp]
 |y::l,j+1,x,hn,h,hp=>by
  simp only[List.take_succ_cons,List.any_cons,Bool.or_eq_false_iff]at hn;have:=Ch p l j x hn.2 (by simpa using h) hp;simp[List.findIdx?_cons,hn.1,this]
theorem iP{α:Type}{p:α->Bool}{l:List α}{j:Nat}{x:α}(h:(l.take j).any p=false)(hx:l[j]? =some x)(hp:p x=true):dw p l=j:=by simp only[dw,Ch p l j x h hx hp]
theorem fW{α:Type}{p:α->Bool}{l:List α}(h:l.any p=false):dw p l= -1:=by
 have:l.findIdx? p=none:=by
  rw[List.findIdx?_eq_none_iff];intro x hx;rw[List.any_eq_false]at h;simpa using h x hx
 simp only[dw,this]
theorem fR{α:Type}(p:α->Bool)(l:List α):decide (0<=dw p l)=l.any p:=by
 cases h:l.any p with
 |false=>rw[fW h];rfl
 |true=>
  unfold dw;cases hf:l.findIdx? p with
  |none=>
   rw[List.findIdx?_eq_none_iff]at hf;rw[List.any_eq_true]at h;obtain⟨x,hx,hp⟩:=h;rw[hf x hx]at hp;cases hp
  |some i=>simp
theorem gX{α:Type}{p:α->Bool}{l:List α}{j:Nat}{x:α}(h:(l.take j).any p=false)(hx:l[j]? =some x)(hp:p x=false):(l.take (j+1)).any p=false:=by
 rw[List.take_add_one,hx,List.any_append,h];simp[hp]
theorem iQ{α:Type}(p:α->Bool)(l:List α):(l.any fun x=> !p x)= !l.all p:=by
 induction l with
 |nil=>rfl
 |cons x l ih=>simp[List.any_cons,List.all_cons,ih,Bool.not_and]
section
variable {f:FuncId} {caps:List D} {n0 k:Nat} {bx0:ae}
theorem Md{dom:ah->Prop}{p:ah->Bool}(hf:bC f caps n0 k bx0 D.str dom p)(hn:n0<=k)(l:List ah)(hl:l.length<=140737488355328)(hd:∀x∈l,dom x)(bx:ae)(hb:∀s,s<n0->bx s=bx0 s):
 iI Tryz.prog (bK Tryz.prog) [] Tryz.f321 0 [.sl 1 (l.map D.str),.fn (.func f) caps] bx (fun d bx'=>d= .int .i64 (dw p l)/\∀s,s<k->bx' s=bx s) (fun _ _=>False):=by
 refine aH _ [.tmp 4] 19 rfl rfl rfl aj ?_;simp(disch:=omega) only[go_sem];refine aX l.length (fun j σ bx'=>σ 0= .sl 1 (l.map D.str)/\σ 1= .fn (.func f) caps/\σ 7= .int .i64 l.length/\σ 8= .int .i64 j/\(l.take j).any p=false/\∀s,s<k->bx' s=bx s)
  ⟨by simp[go_sem,aR],by simp[go_sem,aR],by simp[go_sem],by simp[go_sem],by simp,fun _ _=>rfl⟩ ?_ ?_
 ·rintro j σ bx' hj ⟨h0,h1,h7,h8,hp,hk⟩;obtain⟨x,hx⟩:=aP hj;have hlt:(j:Int)<(l.length:Int):=oM;simp(disch:=omega) only[go_sem,h0,h1,h7,h8,hlt,hx];refine aB (hf bx' x (fun s hs=>(hk s oM).trans (hb s hs)) (hd x (List.mem_of_getElem? hx))) rfl ?_;rintro d bx2 ⟨rfl,hk2⟩;simp(disch:=omega) only[go_sem,h0,h1,h7,h8,hlt,hx];refine an (fun hc=>?_) (fun hc=>?_)
  ·simp(disch:=omega) only[go_sem,h0,h1,h7,h8];exact⟨by rw[iP hp hx hc],fun s hs=>(hk2 s hs).trans (hk s hs)⟩
  ·simp(disch:=omega) only[go_sem,h0,h1,h7,h8];rw[aK oM];exact⟨rfl,gX hp hx hc,fun s hs=>(hk2 s hs).trans (hk s hs)⟩
 ·rintro σ bx' ⟨h0,h1,h7,h8,hp,hk⟩;have hlt:¬(l.length:Int)<(l.length:Int):=oM;simp(disch:=omega) only[go_sem,h0,h1,h7,h8,hlt];rw[List.take_length]at hp;exact⟨by rw[fW hp],hk⟩
theorem Mc{dom:ah->Prop}{p:ah->Bool}(hf:bC f caps n0 k bx0 D.str dom p)(hn:n0<=k)(l:List ah)(hl:l.length<=140737488355328)(hd:∀x∈l,dom x)(bx:ae)(hb:∀s,s<n0->bx s=bx0 s):
 aU Tryz.prog 321 0 [.sl 1 (l.map D.str),.fn (.func f) caps] bx (fun d bx'=>d= .int .i64 (dw p l)/\∀s,s<k->bx' s=bx s) (fun _ _=>False):=aG mixed (Md hf hn l hl hd bx hb) rfl aj rfl
theorem L1{dom:ah->Prop}{p:ah->Bool}(hf:bC f caps n0 k bx0 D.str dom p)(hn:n0<=k)(l:List ah)(hl:l.length<=140737488355328)(hd:∀x∈l,dom x)(bx:ae)(hb:∀s,s<n0->bx s=bx0 s):
 iI Tryz.prog (bK Tryz.prog) [] Tryz.f277 0 [.sl 1 (l.map D.str),.fn (.func f) caps] bx (fun d bx'=>d= .bool (l.any p)/\∀s,s<k->bx' s=bx s) (fun _ _=>False):=by
 refine aH _ [.tmp 4] 9 rfl rfl rfl aj ?_;simp(disch:=omega) only[go_sem];refine aB (Mc hf hn l hl hd bx hb) rfl ?_;rintro d bx2 ⟨rfl,hk2⟩;simp(disch:=omega) only[go_sem];exact⟨by rw[fR],hk2⟩
theorem LZ{dom:ah->Prop}{p:ah->Bool}(hf:bC f caps n0 k bx0 D.str dom p)(hn:n0<=k)(l:List ah)(hl:l.length<=140737488355328)(hd:∀x∈l,dom x)(bx:ae)(hb:∀s,s<n0->bx s=bx0 s):
 aU Tryz.prog 277 0 [.sl 1 (l.map D.str),.fn (.func f) caps] bx (fun d bx'=>d= .bool (l.any p)/\∀s,s<k->bx' s=bx s) (fun _ _=>False):=aG mixed (L1 hf hn l hl hd bx hb) rfl aj rfl
theorem Mw{q e ty:Nat}{dom:ah->Prop}{p:ah->Bool}(hf:bC f caps n0 k bx0 D.str dom p)(hq:bx0 q=⟨e,1,1,ty,[.fn (.func f) caps]⟩)(hn:n0<=q+1)(hk:q+3<=k):bC 312 [.loc q e 0 0] (q+1) (q+3) bx0 D.str dom fun x=> !p x:=by
 intro bx x hb hd;refine aG mixed (fn:=Tryz.f312) (tab:=[]) (base:=q+1) ?_ rfl aj rfl;refine aH _ [.tmp 3] 8 rfl rfl rfl aj ?_;have hbq:=(hb q oM).trans hq;simp(disch:=omega) only[go_sem,hbq];refine aB (hf _ x (fun s hs=>?_) hd) rfl ?_
 ·first|exact hb s oM|(rw[aA oM];exact hb s oM)
 rintro d bx2 ⟨rfl,hk2⟩;simp(disch:=omega) only[go_sem];first
  |exact fun s hs=>hk2 s oM
  |exact fun s hs=>(hk2 s oM).trans (by rw[aA oM])
theorem Ld(B:Nat){dom:ah->Prop}{p:ah->Bool}(hf:bC f caps n0 k bx0 D.str dom p)(hn:n0<=B)(hk:B+17<=k)(l:List ah)(hl:l.length<=140737488355328)(hd:∀x∈l,dom x)(bx:ae)(hb:∀s,s<n0->bx s=bx0 s):
 iI Tryz.prog (bK Tryz.prog) [] Tryz.f267 B [.fn (.func f) caps,.sl 1 [.sl 1 (l.map D.str)]] bx (fun d bx'=>d= .bool (l.all p)/\∀s,s<B->bx' s=bx s) (fun _ _=>False):=by
 refine aH _ [.tmp 4] 17 rfl rfl rfl aj ?_;simp(disch:=omega) only[go_sem];obtain⟨e,he⟩:∃e,(bx (B+2)).ep+1=e:=⟨_,rfl⟩
 rw[he];refine aX 1 (fun j σ bx'=>σ 2= .loc (B+2) e 0 0/\σ 7= .sl 1 [.sl 1 (l.map D.str)]/\σ 8= .int .i64 1/\σ 9= .int .i64 j/\(0<j->l.all p=true)/\bx' (B+2)=⟨e,1,1,315,[.fn (.func f) caps]⟩/\∀s,s<B->bx' s=bx s)
  ⟨by simp[go_sem,aR],by simp[go_sem,aR],by simp[go_sem],by simp[go_sem],by simp,by simp[ao],fun s hs=>by simp[ao,Nat.ne_of_lt (Nat.lt_add_right 2 hs)]⟩ ?_ ?_
 ·rintro j σ bx' hj ⟨h2,h7,h8,h9,hp,hq,hk'⟩;obtain rfl:j=0:=oM;simp(disch:=omega) only[go_sem,h2,h7,h8,h9,Int.natCast_zero,Int.reduceLT];refine aB (LZ (Mw (hf.agree (bx1:=bx') fun s hs=>(hk' s oM).trans (hb s hs)) hq oM oM) oM l hl hd bx' fun _ _=>rfl) rfl ?_;rintro d bx2 ⟨rfl,hk2⟩;simp(disch:=omega) only[go_sem];refine an (fun hc=>?_) (fun hc=>?_)
  ·simp(disch:=omega) only[go_sem];rw[iQ]at hc;refine⟨?_,fun s hs=>(hk2 s oM).trans (hk' s hs)⟩;rw[show l.all p=false by simpa using hc]
  ·simp(disch:=omega) only[go_sem,h2,h7,h8,h9];rw[iQ]at hc;refine⟨rfl,fun _=>by simpa using hc,by rw[hk2 _ oM];exact hq,fun s hs=>(hk2 s oM).trans (hk' s hs)⟩
 ·rintro σ bx' ⟨h2,h7,h8,h9,hp,hq,hk'⟩;have h9:σ 9= .int .i64 (1:Int):=h9;simp(disch:=omega) only[go_sem,h2,h7,h8,h9,Int.reduceLT];exact⟨by rw[hp oM],hk'⟩
theorem Lc(B:Nat){dom:ah->Prop}{p:ah->Bool}(hf:bC f caps n0 k bx0 D.str dom p)(hn:n0<=B)(hk:B+17<=k)(l:List ah)(hl:l.length<=140737488355328)(hd:∀x∈l,dom x)(bx:ae)(hb:∀s,s<n0->bx s=bx0 s):
 aU Tryz.prog 267 0 [.fn (.func f) caps,.sl 1 [.sl 1 (l.map D.str)]] bx (fun d bx'=>d= .bool (l.all p)/\∀s,s<B->bx' s=bx s) (fun _ _=>False):=aG (base:=B) mixed (Ld B hf hn hk l hl hd bx hb) rfl aj rfl
theorem L_{dom:Part->Prop}{p:Part->Bool}(hf:bC f caps n0 k bx0 Part.d dom p)(hn:n0<=k)(l:List Part)(hl:l.length<=140737488355328)(hd:∀x∈l,dom x)(bx:ae)(hb:∀s,s<n0->bx s=bx0 s):
 iI Tryz.prog (bK Tryz.prog) [] Tryz.f337 0 [.sl 3 (l.map Part.d),.fn (.func f) caps] bx (fun d bx'=>d= .int .i64 (dw p l)/\∀s,s<k->bx' s=bx s) (fun _ _=>False):=by
 refine aH _ [.tmp 4] 19 rfl rfl rfl aj ?_;simp(disch:=omega) only[go_sem];refine aX l.length (fun j σ bx'=>σ 0= .sl 3 (l.map Part.d)/\σ 1= .fn (.func f) caps/\σ 7= .int .i64 l.length/\σ 8= .int .i64 j/\(l.take j).any p=false/\∀s,s<k->bx' s=bx s)
  ⟨by simp[go_sem,aR],by simp[go_sem,aR],by simp[go_sem],by simp[go_sem],by simp,fun _ _=>rfl⟩ ?_ ?_
 ·rintro j σ bx' hj ⟨h0,h1,h7,h8,hp,hk⟩;obtain⟨x,hx⟩:=aP hj;have hlt:(j:Int)<(l.length:Int):=oM;simp(disch:=omega) only[go_sem,h0,h1,h7,h8,hlt,hx,Part.d];refine aB (hf bx' x (fun s hs=>(hk s oM).trans (hb s hs)) (hd x (List.mem_of_getElem? hx))) rfl ?_;rintro d bx2 ⟨rfl,hk2⟩;simp(disch:=omega) only[go_sem,h0,h1,h7,h8,hlt,hx,Part.d];refine an (fun hc=>?_) (fun hc=>?_)
  ·simp(disch:=omega) only[go_sem,h0,h1,h7,h8];exact⟨by rw[iP hp hx hc],fun s hs=>(hk2 s hs).trans (hk s hs)⟩
  ·simp(disch:=omega) only[go_sem,h0,h1,h7,h8];rw[aK oM];exact⟨rfl,gX hp hx hc,fun s hs=>(hk2 s hs).trans (hk s hs)⟩
 ·rintro σ bx' ⟨h0,h1,h7,h8,hp,hk⟩;have hlt:¬(l.length:Int)<(l.length:Int):=oM;simp(disch:=omega) only[go_sem,h0,h1,h7,h8,hlt];rw[List.take_length]at hp;exact⟨by rw[fW hp],hk⟩
theorem L9{dom:Part->Prop}{p:Part->Bool}(hf:bC f caps n0 k bx0 Part.d dom p)(hn:n0<=k)(l:List Part)(hl:l.length<=140737488355328)(hd:∀x∈l,dom x)(bx:ae)(hb:∀s,s<n0->bx s=bx0 s):
 aU Tryz.prog 337 0 [.sl 3 (l.map Part.d),.fn (.func f) caps] bx (fun d bx'=>d= .int .i64 (dw p l)/\∀s,s<k->bx' s=bx s) (fun _ _=>False):=aG mixed (L_ hf hn l hl hd bx hb) rfl aj rfl
theorem LX{dom:Part->Prop}{p:Part->Bool}(hf:bC f caps n0 k bx0 Part.d dom p)(hn:n0<=k)(l:List Part)(hl:l.length<=140737488355328)(hd:∀x∈l,dom x)(bx:ae)(hb:∀s,s<n0->bx s=bx0 s):
 iI Tryz.prog (bK Tryz.prog) [] Tryz.f313 0 [.sl 3 (l.map Part.d),.fn (.func f) caps] bx (fun d bx'=>d= .bool (l.any p)/\∀s,s<k->bx' s=bx s) (fun _ _=>False):=by
 refine aH _ [.tmp 4] 9 rfl rfl rfl aj ?_;simp(disch:=omega) only[go_sem];refine aB (L9 hf hn l hl hd bx hb) rfl ?_;rintro d bx2 ⟨rfl,hk2⟩;simp(disch:=omega) only[go_sem];exact⟨by rw[fR],hk2⟩
theorem LW{dom:Part->Prop}{p:Part->Bool}(hf:bC f caps n0 k bx0 Part.d dom p)(hn:n0<=k)(l:List Part)(hl:l.length<=140737488355328)(hd:∀x∈l,dom x)(bx:ae)(hb:∀s,s<n0->bx s=bx0 s):
 aU Tryz.prog 313 0 [.sl 3 (l.map Part.d),.fn (.func f) caps] bx (fun d bx'=>d= .bool (l.any p)/\∀s,s<k->bx' s=bx s) (fun _ _=>False):=aG mixed (LX hf hn l hl hd bx hb) rfl aj rfl
theorem Mu{q e ty:Nat}{dom:Part->Prop}{p:Part->Bool}(hf:bC f caps n0 k bx0 Part.d dom p)(hq:bx0 q=⟨e,1,1,ty,[.fn (.func f) caps]⟩)(hn:n0<=q+1)(hk:q+3<=k):bC 314 [.loc q e 0 0] (q+1) (q+3) bx0 Part.d dom fun x=> !p x:=by
 intro bx x hb hd;refine aG mixed (fn:=Tryz.f314) (tab:=[]) (base:=q+1) ?_ rfl aj rfl;refine aH _ [.tmp 3] 8 rfl rfl rfl aj ?_;have hbq:=(hb q oM).trans hq;simp(disch:=omega) only[go_sem,hbq,Part.d];refine aB (hf _ x (fun s hs=>?_) hd) rfl ?_
 ·first|exact hb s oM|(rw[aA oM];exact hb s oM)
 rintro d bx2 ⟨rfl,hk2⟩;simp(disch:=omega) only[go_sem];first
  |exact fun s hs=>hk2 s oM
  |exact fun s hs=>(hk2 s oM).trans (by rw[aA oM])
theorem K_(B:Nat){dom:Part->Prop}{p:Part->Bool}(hf:bC f caps n0 k bx0 Part.d dom p)(hn:n0<=B)(hk:B+17<=k)(l:List Part)(hl:l.length<=140737488355328)(hd:∀x∈l,dom x)(bx:ae)(hb:∀s,s<n0->bx s=bx0 s):
 iI Tryz.prog (bK Tryz.prog) [] Tryz.f270 B [.fn (.func f) caps,.sl 1 [.sl 3 (l.map Part.d)]] bx (fun d bx'=>d= .bool (l.all p)/\∀s,s<B->bx' s=bx s) (fun _ _=>False):=by
 refine aH _ [.tmp 4] 17 rfl rfl rfl aj ?_;simp(disch:=omega) only[go_sem];obtain⟨e,he⟩:∃e,(bx (B+2)).ep+1=e:=⟨_,rfl⟩
 rw[he];refine aX 1 (fun j σ bx'=>σ 2= .loc (B+2) e 0 0/\σ 7= .sl 1 [.sl 3 (l.map Part.d)]/\σ 8= .int .i64 1/\σ 9= .int .i64 j/\(0<j->l.all p=true)/\bx' (B+2)=⟨e,1,1,350,[.fn (.func f) caps]⟩/\∀s,s<B->bx' s=bx s)
  ⟨by simp[go_sem,aR],by simp[go_sem,aR],by simp[go_sem],by simp[go_sem],by simp,by simp[ao],fun s hs=>by simp[ao,Nat.ne_of_lt (Nat.lt_add_right 2 hs)]⟩ ?_ ?_
 ·rintro j σ bx' hj ⟨h2,h7,h8,h9,hp,hq,hk'⟩;obtain rfl:j=0:=oM;simp(disch:=omega) only[go_sem,h2,h7,h8,h9,Int.natCast_zero,Int.reduceLT];refine aB (LW (Mu (hf.agree (bx1:=bx') fun s hs=>(hk' s oM).trans (hb s hs)) hq oM oM) oM l hl hd bx' fun _ _=>rfl) rfl ?_;rintro d bx2 ⟨rfl,hk2⟩;simp(disch:=omega) only[go_sem];refine an (fun hc=>?_) (fun hc=>?_)
  ·simp(disch:=omega) only[go_sem];rw[iQ]at hc;refine⟨?_,fun s hs=>(hk2 s oM).trans (hk' s hs)⟩;rw[show l.all p=false by simpa using hc]
  ·simp(disch:=omega) only[go_sem,h2,h7,h8,h9];rw[iQ]at hc;refine⟨rfl,fun _=>by simpa using hc,by rw[hk2 _ oM];exact hq,fun s hs=>(hk2 s oM).trans (hk' s hs)⟩
 ·rintro σ bx' ⟨h2,h7,h8,h9,hp,hq,hk'⟩;have h9:σ 9= .int .i64 (1:Int):=h9;simp(disch:=omega) only[go_sem,h2,h7,h8,h9,Int.reduceLT];exact⟨by rw[hp oM],hk'⟩
theorem K9(B:Nat){dom:Part->Prop}{p:Part->Bool}(hf:bC f caps n0 k bx0 Part.d dom p)(hn:n0<=B)(hk:B+17<=k)(l:List Part)(hl:l.length<=140737488355328)(hd:∀x∈l,dom x)(bx:ae)(hb:∀s,s<n0->bx s=bx0 s):
 aU Tryz.prog 270 0 [.fn (.func f) caps,.sl 1 [.sl 3 (l.map Part.d)]] bx (fun d bx'=>d= .bool (l.all p)/\∀s,s<B->bx' s=bx s) (fun _ _=>False):=aG (base:=B) mixed (K_ B hf hn hk l hl hd bx hb) rfl aj rfl
theorem L5{dom:Entry->Prop}{p:Entry->Bool}(hf:bC f caps n0 k bx0 Entry.d dom p)(hn:n0<=k)(l:List Entry)(hl:l.length<=140737488355328)(hd:∀x∈l,dom x)(bx:ae)(hb:∀s,s<n0->bx s=bx0 s):
 iI Tryz.prog (bK Tryz.prog) [] Tryz.f338 0 [.sl 5 (l.map Entry.d),.fn (.func f) caps] bx (fun d bx'=>d= .int .i64 (dw p l)/\∀s,s<k->bx' s=bx s) (fun _ _=>False):=by
 refine aH _ [.tmp 4] 19 rfl rfl rfl aj ?_;simp(disch:=omega) only[go_sem];refine aX l.length (fun j σ bx'=>σ 0= .sl 5 (l.map Entry.d)/\σ 1= .fn (.func f) caps/\σ 7= .int .i64 l.length/\σ 8= .int .i64 j/\(l.take j).any p=false/\∀s,s<k->bx' s=bx s)
  ⟨by simp[go_sem,aR],by simp[go_sem,aR],by simp[go_sem],by simp[go_sem],by simp,fun _ _=>rfl⟩ ?_ ?_
 ·rintro j σ bx' hj ⟨h0,h1,h7,h8,hp,hk⟩;obtain⟨x,hx⟩:=aP hj;have hlt:(j:Int)<(l.length:Int):=oM;simp(disch:=omega) only[go_sem,h0,h1,h7,h8,hlt,hx,Entry.d,strs];refine aB (hf bx' x (fun s hs=>(hk s oM).trans (hb s hs)) (hd x (List.mem_of_getElem? hx))) rfl ?_;rintro d bx2 ⟨rfl,hk2⟩;simp(disch:=omega) only[go_sem,h0,h1,h7,h8,hlt,hx,Entry.d,strs];refine an (fun hc=>?_) (fun hc=>?_)
  ·simp(disch:=omega) only[go_sem,h0,h1,h7,h8];exact⟨by rw[iP hp hx hc],fun s hs=>(hk2 s hs).trans (hk s hs)⟩
  ·simp(disch:=omega) only[go_sem,h0,h1,h7,h8];rw[aK oM];exact⟨rfl,gX hp hx hc,fun s hs=>(hk2 s hs).trans (hk s hs)⟩
 ·rintro σ bx' ⟨h0,h1,h7,h8,hp,hk⟩;have hlt:¬(l.length:Int)<(l.length:Int):=oM;simp(disch:=omega) only[go_sem,h0,h1,h7,h8,hlt];rw[List.take_length]at hp;exact⟨by rw[fW hp],hk⟩
theorem L4{dom:Entry->Prop}{p:Entry->Bool}(hf:bC f caps n0 k bx0 Entry.d dom p)(hn:n0<=k)(l:List Entry)(hl:l.length<=140737488355328)(hd:∀x∈l,dom x)(bx:ae)(hb:∀s,s<n0->bx s=bx0 s):
 aU Tryz.prog 338 0 [.sl 5 (l.map Entry.d),.fn (.func f) caps] bx (fun d bx'=>d= .int .i64 (dw p l)/\∀s,s<k->bx' s=bx s) (fun _ _=>False):=aG mixed (L5 hf hn l hl hd bx hb) rfl aj rfl
theorem LR{dom:Entry->Prop}{p:Entry->Bool}(hf:bC f caps n0 k bx0 Entry.d dom p)(hn:n0<=k)(l:List Entry)(hl:l.length<=140737488355328)(hd:∀x∈l,dom x)(bx:ae)(hb:∀s,s<n0->bx s=bx0 s):
 iI Tryz.prog (bK Tryz.prog) [] Tryz.f315 0 [.sl 5 (l.map Entry.d),.fn (.func f) caps] bx (fun d bx'=>d= .bool (l.any p)/\∀s,s<k->bx' s=bx s) (fun _ _=>False):=by
 refine aH _ [.tmp 4] 9 rfl rfl rfl aj ?_;simp(disch:=omega) only[go_sem];refine aB (L4 hf hn l hl hd bx hb) rfl ?_;rintro d bx2 ⟨rfl,hk2⟩;simp(disch:=omega) only[go_sem];exact⟨by rw[fR],hk2⟩
theorem LQ{dom:Entry->Prop}{p:Entry->Bool}(hf:bC f caps n0 k bx0 Entry.d dom p)(hn:n0<=k)(l:List Entry)(hl:l.length<=140737488355328)(hd:∀x∈l,dom x)(bx:ae)(hb:∀s,s<n0->bx s=bx0 s):
 aU Tryz.prog 315 0 [.sl 5 (l.map Entry.d),.fn (.func f) caps] bx (fun d bx'=>d= .bool (l.any p)/\∀s,s<k->bx' s=bx s) (fun _ _=>False):=aG mixed (LR hf hn l hl hd bx hb) rfl aj rfl
theorem Ms{q e ty:Nat}{dom:Entry->Prop}{p:Entry->Bool}(hf:bC f caps n0 k bx0 Entry.d dom p)(hq:bx0 q=⟨e,1,1,ty,[.fn (.func f) caps]⟩)(hn:n0<=q+1)(hk:q+3<=k):bC 316 [.loc q e 0 0] (q+1) (q+3) bx0 Entry.d dom fun x=> !p x:=by
 intro bx x hb hd;refine aG mixed (fn:=Tryz.f316) (tab:=[]) (base:=q+1) ?_ rfl aj rfl;refine aH _ [.tmp 3] 8 rfl rfl rfl aj ?_;have hbq:=(hb q oM).trans hq;simp(disch:=omega) only[go_sem,hbq,Entry.d,strs];refine aB (hf _ x (fun s hs=>?_) hd) rfl ?_
 ·first|exact hb s oM|(rw[aA oM];exact hb s oM)
 rintro d bx2 ⟨rfl,hk2⟩;simp(disch:=omega) only[go_sem];first
  |exact fun s hs=>hk2 s oM
  |exact fun s hs=>(hk2 s oM).trans (by rw[aA oM])
theorem K6(B:Nat){dom:Entry->Prop}{p:Entry->Bool}(hf:bC f caps n0 k bx0 Entry.d dom p)(hn:n0<=B)(hk:B+17<=k)(l:List Entry)(hl:l.length<=140737488355328)(hd:∀x∈l,dom x)(bx:ae)(hb:∀s,s<n0->bx s=bx0 s):
 iI Tryz.prog (bK Tryz.prog) [] Tryz.f271 B [.fn (.func f) caps,.sl 1 [.sl 5 (l.map Entry.d)]] bx (fun d bx'=>d= .bool (l.all p)/\∀s,s<B->bx' s=bx s) (fun _ _=>False):=by
 refine aH _ [.tmp 4] 17 rfl rfl rfl aj ?_;simp(disch:=omega) only[go_sem];obtain⟨e,he⟩:∃e,(bx (B+2)).ep+1=e:=⟨_,rfl⟩
 rw[he];refine aX 1 (fun j σ bx'=>σ 2= .loc (B+2) e 0 0/\σ 7= .sl 1 [.sl 5 (l.map Entry.d)]/\σ 8= .int .i64 1/\σ 9= .int .i64 j/\(0<j->l.all p=true)/\bx' (B+2)=⟨e,1,1,349,[.fn (.func f) caps]⟩/\∀s,s<B->bx' s=bx s)
  ⟨by simp[go_sem,aR],by simp[go_sem,aR],by simp[go_sem],by simp[go_sem],by simp,by simp[ao],fun s hs=>by simp[ao,Nat.ne_of_lt (Nat.lt_add_right 2 hs)]⟩ ?_ ?_
 ·rintro j σ bx' hj ⟨h2,h7,h8,h9,hp,hq,hk'⟩;obtain rfl:j=0:=oM;simp(disch:=omega) only[go_sem,h2,h7,h8,h9,Int.natCast_zero,Int.reduceLT];refine aB (LQ (Ms (hf.agree (bx1:=bx') fun s hs=>(hk' s oM).trans (hb s hs)) hq oM oM) oM l hl hd bx' fun _ _=>rfl) rfl ?_;rintro d bx2 ⟨rfl,hk2⟩;simp(disch:=omega) only[go_sem];refine an (fun hc=>?_) (fun hc=>?_)
  ·simp(disch:=omega) only[go_sem];rw[iQ]at hc;refine⟨?_,fun s hs=>(hk2 s oM).trans (hk' s hs)⟩;rw[show l.all p=false by simpa using hc]
  ·simp(disch:=omega) only[go_sem,h2,h7,h8,h9];rw[iQ]at hc;refine⟨rfl,fun _=>by simpa using hc,by rw[hk2 _ oM];exact hq,fun s hs=>(hk2 s oM).trans (hk' s hs)⟩
 ·rintro σ bx' ⟨h2,h7,h8,h9,hp,hq,hk'⟩;have h9:σ 9= .int .i64 (1:Int):=h9;simp(disch:=omega) only[go_sem,h2,h7,h8,h9,Int.reduceLT];exact⟨by rw[hp oM],hk'⟩
theorem K5(B:Nat){dom:Entry->Prop}{p:Entry->Bool}(hf:bC f caps n0 k bx0 Entry.d dom p)(hn:n0<=B)(hk:B+17<=k)(l:List Entry)(hl:l.length<=140737488355328)(hd:∀x∈l,dom x)(bx:ae)(hb:∀s,s<n0->bx s=bx0 s):
 aU Tryz.prog 271 0 [.fn (.func f) caps,.sl 1 [.sl 5 (l.map Entry.d)]] bx (fun d bx'=>d= .bool (l.all p)/\∀s,s<B->bx' s=bx s) (fun _ _=>False):=aG (base:=B) mixed (K6 B hf hn hk l hl hd bx hb) rfl aj rfl
theorem Mb{dom:aC->Prop}{p:aC->Bool}(hf:bC f caps n0 k bx0 aC.d dom p)(hn:n0<=k)(l:List aC)(hl:l.length<=140737488355328)(hd:∀x∈l,dom x)(bx:ae)(hb:∀s,s<n0->bx s=bx0 s):
 iI Tryz.prog (bK Tryz.prog) [] Tryz.f318 0 [.sl 5 (l.map aC.d),.fn (.func f) caps] bx (fun d bx'=>d= .int .i64 (dw p l)/\∀s,s<k->bx' s=bx s) (fun _ _=>False):=by
 refine aH _ [.tmp 4] 19 rfl rfl rfl aj ?_;simp(disch:=omega) only[go_sem];refine aX l.length (fun j σ bx'=>σ 0= .sl 5 (l.map aC.d)/\σ 1= .fn (.func f) caps/\σ 7= .int .i64 l.length/\σ 8= .int .i64 j/\(l.take j).any p=false/\∀s,s<k->bx' s=bx s)
  ⟨by simp[go_sem,aR],by simp[go_sem,aR],by simp[go_sem],by simp[go_sem],by simp,fun _ _=>rfl⟩ ?_ ?_
 ·rintro j σ bx' hj ⟨h0,h1,h7,h8,hp,hk⟩;obtain⟨x,hx⟩:=aP hj;have hlt:(j:Int)<(l.length:Int):=oM;simp(disch:=omega) only[go_sem,h0,h1,h7,h8,hlt,hx,aC.d];refine aB (hf bx' x (fun s hs=>(hk s oM).trans (hb s hs)) (hd x (List.mem_of_getElem? hx))) rfl ?_;rintro d bx2 ⟨rfl,hk2⟩;simp(disch:=omega) only[go_sem,h0,h1,h7,h8,hlt,hx,aC.d];refine an (fun hc=>?_) (fun hc=>?_)
  ·simp(disch:=omega) only[go_sem,h0,h1,h7,h8];exact⟨by rw[iP hp hx hc],fun s hs=>(hk2 s hs).trans (hk s hs)⟩
  ·simp(disch:=omega) only[go_sem,h0,h1,h7,h8];rw[aK oM];exact⟨rfl,gX hp hx hc,fun s hs=>(hk2 s hs).trans (hk s hs)⟩
 ·rintro σ bx' ⟨h0,h1,h7,h8,hp,hk⟩;have hlt:¬(l.length:Int)<(l.length:Int):=oM;simp(disch:=omega) only[go_sem,h0,h1,h7,h8,hlt];rw[List.take_length]at hp;exact⟨by rw[fW hp],hk⟩
theorem Ma{dom:aC->Prop}{p:aC->Bool}(hf:bC f caps n0 k bx0 aC.d dom p)(hn:n0<=k)(l:List aC)(hl:l.length<=140737488355328)(hd:∀x∈l,dom x)(bx:ae)(hb:∀s,s<n0->bx s=bx0 s):
 aU Tryz.prog 318 0 [.sl 5 (l.map aC.d),.fn (.func f) caps] bx (fun d bx'=>d= .int .i64 (dw p l)/\∀s,s<k->bx' s=bx s) (fun _ _=>False):=aG mixed (Mb hf hn l hl hd bx hb) rfl aj rfl
theorem LY{dom:aC->Prop}{p:aC->Bool}(hf:bC f caps n0 k bx0 aC.d dom p)(hn:n0<=k)(l:List aC)(hl:l.length<=140737488355328)(hd:∀x∈l,dom x)(bx:ae)(hb:∀s,s<n0->bx s=bx0 s):
 iI Tryz.prog (bK Tryz.prog) [] Tryz.f274 0 [.sl 5 (l.map aC.d),.fn (.func f) caps] bx (fun d bx'=>d= .bool (l.any p)/\∀s,s<k->bx' s=bx s) (fun _ _=>False):=by
 refine aH _ [.tmp 4] 9 rfl rfl rfl aj ?_;simp(disch:=omega) only[go_sem];refine aB (Ma hf hn l hl hd bx hb) rfl ?_;rintro d bx2 ⟨rfl,hk2⟩;simp(disch:=omega) only[go_sem];exact⟨by rw[fR],hk2⟩
theorem Fp{dom:aC->Prop}{p:aC->Bool}(hf:bC f caps n0 k bx0 aC.d dom p)(hn:n0<=k)(l:List aC)(hl:l.length<=140737488355328)(hd:∀x∈l,dom x)(bx:ae)(hb:∀s,s<n0->bx s=bx0 s):
 aU Tryz.prog 274 0 [.sl 5 (l.map aC.d),.fn (.func f) caps] bx (fun d bx'=>d= .bool (l.any p)/\∀s,s<k->bx' s=bx s) (fun _ _=>False):=aG mixed (LY hf hn l hl hd bx hb) rfl aj rfl
theorem Mv{q e ty:Nat}{dom:aC->Prop}{p:aC->Bool}(hf:bC f caps n0 k bx0 aC.d dom p)(hq:bx0 q=⟨e,1,1,ty,[.fn (.func f) caps]⟩)(hn:n0<=q+1)(hk:q+3<=k):bC 317 [.loc q e 0 0] (q+1) (q+3) bx0 aC.d dom fun x=> !p x:=by
 intro bx x hb hd;refine aG mixed (fn:=Tryz.f317) (tab:=[]) (base:=q+1) ?_ rfl aj rfl;refine aH _ [.tmp 3] 8 rfl rfl rfl aj ?_;have hbq:=(hb q oM).trans hq;simp(disch:=omega) only[go_sem,hbq,aC.d];refine aB (hf _ x (fun s hs=>?_) hd) rfl ?_
 ·first|exact hb s oM|(rw[aA oM];exact hb s oM)
 rintro d bx2 ⟨rfl,hk2⟩;simp(disch:=omega) only[go_sem];first
  |exact fun s hs=>hk2 s oM
  |exact fun s hs=>(hk2 s oM).trans (by rw[aA oM])
theorem Lb(B:Nat){dom:aC->Prop}{p:aC->Bool}(hf:bC f caps n0 k bx0 aC.d dom p)(hn:n0<=B)(hk:B+17<=k)(l:List aC)(hl:l.length<=140737488355328)(hd:∀x∈l,dom x)(bx:ae)(hb:∀s,s<n0->bx s=bx0 s):
 iI Tryz.prog (bK Tryz.prog) [] Tryz.f272 B [.fn (.func f) caps,.sl 1 [.sl 5 (l.map aC.d)]] bx (fun d bx'=>d= .bool (l.all p)/\∀s,s<B->bx' s=bx s) (fun _ _=>False):=by
 refine aH _ [.tmp 4] 17 rfl rfl rfl aj ?_;simp(disch:=omega) only[go_sem];obtain⟨e,he⟩:∃e,(bx (B+2)).ep+1=e:=⟨_,rfl⟩
 rw[he];refine aX 1 (fun j σ bx'=>σ 2= .loc (B+2) e 0 0/\σ 7= .sl 1 [.sl 5 (l.map aC.d)]/\σ 8= .int .i64 1/\σ 9= .int .i64 j/\(0<j->l.all p=true)/\bx' (B+2)=⟨e,1,1,352,[.fn (.func f) caps]⟩/\∀s,s<B->bx' s=bx s)
  ⟨by simp[go_sem,aR],by simp[go_sem,aR],by simp[go_sem],by simp[go_sem],by simp,by simp[ao],fun s hs=>by simp[ao,Nat.ne_of_lt (Nat.lt_add_right 2 hs)]⟩ ?_ ?_
 ·rintro j σ bx' hj ⟨h2,h7,h8,h9,hp,hq,hk'⟩;obtain rfl:j=0:=oM;simp(disch:=omega) only[go_sem,h2,h7,h8,h9,Int.natCast_zero,Int.reduceLT];refine aB (Fp (Mv (hf.agree (bx1:=bx') fun s hs=>(hk' s oM).trans (hb s hs)) hq oM oM) oM l hl hd bx' fun _ _=>rfl) rfl ?_;rintro d bx2 ⟨rfl,hk2⟩;simp(disch:=omega) only[go_sem];refine an (fun hc=>?_) (fun hc=>?_)
  ·simp(disch:=omega) only[go_sem];rw[iQ]at hc;refine⟨?_,fun s hs=>(hk2 s oM).trans (hk' s hs)⟩;rw[show l.all p=false by simpa using hc]
  ·simp(disch:=omega) only[go_sem,h2,h7,h8,h9];rw[iQ]at hc;refine⟨rfl,fun _=>by simpa using hc,by rw[hk2 _ oM];exact hq,fun s hs=>(hk2 s oM).trans (hk' s hs)⟩
 ·rintro σ bx' ⟨h2,h7,h8,h9,hp,hq,hk'⟩;have h9:σ 9= .int .i64 (1:Int):=h9;simp(disch:=omega) only[go_sem,h2,h7,h8,h9,Int.reduceLT];exact⟨by rw[hp oM],hk'⟩
theorem La(B:Nat){dom:aC->Prop}{p:aC->Bool}(hf:bC f caps n0 k bx0 aC.d dom p)(hn:n0<=B)(hk:B+17<=k)(l:List aC)(hl:l.length<=140737488355328)(hd:∀x∈l,dom x)(bx:ae)(hb:∀s,s<n0->bx s=bx0 s):
 aU Tryz.prog 272 0 [.fn (.func f) caps,.sl 1 [.sl 5 (l.map aC.d)]] bx (fun d bx'=>d= .bool (l.all p)/\∀s,s<B->bx' s=bx s) (fun _ _=>False):=aG (base:=B) mixed (Lb B hf hn hk l hl hd bx hb) rfl aj rfl
theorem L7{dom:Int->Prop}{p:Int->Bool}(hf:bC f caps n0 k bx0 (D.int .i64) dom p)(hn:n0<=k)(l:List Int)(hl:l.length<=140737488355328)(hd:∀x∈l,dom x)(bx:ae)(hb:∀s,s<n0->bx s=bx0 s):
 iI Tryz.prog (bK Tryz.prog) [] Tryz.f286 0 [.sl 1 (l.map (D.int .i64)),.fn (.func f) caps] bx (fun d bx'=>d= .int .i64 (dw p l)/\∀s,s<k->bx' s=bx s) (fun _ _=>False):=by
 refine aH _ [.tmp 4] 19 rfl rfl rfl aj ?_;simp(disch:=omega) only[go_sem];refine aX l.length (fun j σ bx'=>σ 0= .sl 1 (l.map (D.int .i64))/\σ 1= .fn (.func f) caps/\σ 7= .int .i64 l.length/\σ 8= .int .i64 j/\(l.take j).any p=false/\∀s,s<k->bx' s=bx s)
  ⟨by simp[go_sem,aR],by simp[go_sem,aR],by simp[go_sem],by simp[go_sem],by simp,fun _ _=>rfl⟩ ?_ ?_
 ·rintro j σ bx' hj ⟨h0,h1,h7,h8,hp,hk⟩;obtain⟨x,hx⟩:=aP hj;have hlt:(j:Int)<(l.length:Int):=oM;simp(disch:=omega) only[go_sem,h0,h1,h7,h8,hlt,hx];refine aB (hf bx' x (fun s hs=>(hk s oM).trans (hb s hs)) (hd x (List.mem_of_getElem? hx))) rfl ?_;rintro d bx2 ⟨rfl,hk2⟩;simp(disch:=omega) only[go_sem,h0,h1,h7,h8,hlt,hx];refine an (fun hc=>?_) (fun hc=>?_)
  ·simp(disch:=omega) only[go_sem,h0,h1,h7,h8];exact⟨by rw[iP hp hx hc],fun s hs=>(hk2 s hs).trans (hk s hs)⟩
  ·simp(disch:=omega) only[go_sem,h0,h1,h7,h8];rw[aK oM];exact⟨rfl,gX hp hx hc,fun s hs=>(hk2 s hs).trans (hk s hs)⟩
 ·rintro σ bx' ⟨h0,h1,h7,h8,hp,hk⟩;have hlt:¬(l.length:Int)<(l.length:Int):=oM;simp(disch:=omega) only[go_sem,h0,h1,h7,h8,hlt];rw[List.take_length]at hp;exact⟨by rw[fW hp],hk⟩
theorem L6{dom:Int->Prop}{p:Int->Bool}(hf:bC f caps n0 k bx0 (D.int .i64) dom p)(hn:n0<=k)(l:List Int)(hl:l.length<=140737488355328)(hd:∀x∈l,dom x)(bx:ae)(hb:∀s,s<n0->bx s=bx0 s):
 aU Tryz.prog 286 0 [.sl 1 (l.map (D.int .i64)),.fn (.func f) caps] bx (fun d bx'=>d= .int .i64 (dw p l)/\∀s,s<k->bx' s=bx s) (fun _ _=>False):=aG mixed (L7 hf hn l hl hd bx hb) rfl aj rfl
theorem LV{dom:Int->Prop}{p:Int->Bool}(hf:bC f caps n0 k bx0 (D.int .i64) dom p)(hn:n0<=k)(l:List Int)(hl:l.length<=140737488355328)(hd:∀x∈l,dom x)(bx:ae)(hb:∀s,s<n0->bx s=bx0 s):
 iI Tryz.prog (bK Tryz.prog) [] Tryz.f236 0 [.sl 1 (l.map (D.int .i64)),.fn (.func f) caps] bx (fun d bx'=>d= .bool (l.any p)/\∀s,s<k->bx' s=bx s) (fun _ _=>False):=by
 refine aH _ [.tmp 4] 9 rfl rfl rfl aj ?_;simp(disch:=omega) only[go_sem];refine aB (L6 hf hn l hl hd bx hb) rfl ?_;rintro d bx2 ⟨rfl,hk2⟩;simp(disch:=omega) only[go_sem];exact⟨by rw[fR],hk2⟩
theorem LS{dom:Int->Prop}{p:Int->Bool}(hf:bC f caps n0 k bx0 (D.int .i64) dom p)(hn:n0<=k)(l:List Int)(hl:l.length<=140737488355328)(hd:∀x∈l,dom x)(bx:ae)(hb:∀s,s<n0->bx s=bx0 s):
 aU Tryz.prog 236 0 [.sl 1 (l.map (D.int .i64)),.fn (.func f) caps] bx (fun d bx'=>d= .bool (l.any p)/\∀s,s<k->bx' s=bx s) (fun _ _=>False):=aG mixed (LV hf hn l hl hd bx hb) rfl aj rfl
theorem Mt{q e ty:Nat}{dom:Int->Prop}{p:Int->Bool}(hf:bC f caps n0 k bx0 (D.int .i64) dom p)(hq:bx0 q=⟨e,1,1,ty,[.fn (.func f) caps]⟩)(hn:n0<=q+1)(hk:q+3<=k):bC 336 [.loc q e 0 0] (q+1) (q+3) bx0 (D.int .i64) dom fun x=> !p x:=by
 intro bx x hb hd;refine aG mixed (fn:=Tryz.f336) (tab:=[]) (base:=q+1) ?_ rfl aj rfl;refine aH _ [.tmp 3] 8 rfl rfl rfl aj ?_;have hbq:=(hb q oM).trans hq;simp(disch:=omega) only[go_sem,hbq];refine aB (hf _ x (fun s hs=>?_) hd) rfl ?_
 ·first|exact hb s oM|(rw[aA oM];exact hb s oM)
 rintro d bx2 ⟨rfl,hk2⟩;simp(disch:=omega) only[go_sem];first
  |exact fun s hs=>hk2 s oM
  |exact fun s hs=>(hk2 s oM).trans (by rw[aA oM])
theorem K8(B:Nat){dom:Int->Prop}{p:Int->Bool}(hf:bC f caps n0 k bx0 (D.int .i64) dom p)(hn:n0<=B)(hk:B+17<=k)(l:List Int)(hl:l.length<=140737488355328)(hd:∀x∈l,dom x)(bx:ae)(hb:∀s,s<n0->bx s=bx0 s):
 iI Tryz.prog (bK Tryz.prog) [] Tryz.f310 B [.fn (.func f) caps,.sl 1 [.sl 1 (l.map (D.int .i64))]] bx (fun d bx'=>d= .bool (l.all p)/\∀s,s<B->bx' s=bx s) (fun _ _=>False):=by
 refine aH _ [.tmp 4] 17 rfl rfl rfl aj ?_;simp(disch:=omega) only[go_sem];obtain⟨e,he⟩:∃e,(bx (B+2)).ep+1=e:=⟨_,rfl⟩
 rw[he];refine aX 1 (fun j σ bx'=>σ 2= .loc (B+2) e 0 0/\σ 7= .sl 1 [.sl 1 (l.map (D.int .i64))]/\σ 8= .int .i64 1/\σ 9= .int .i64 j/\(0<j->l.all p=true)/\bx' (B+2)=⟨e,1,1,223,[.fn (.func f) caps]⟩/\∀s,s<B->bx' s=bx s)
  ⟨by simp[go_sem,aR],by simp[go_sem,aR],by simp[go_sem],by simp[go_sem],by simp,by simp[ao],fun s hs=>by simp[ao,Nat.ne_of_lt (Nat.lt_add_right 2 hs)]⟩ ?_ ?_
 ·rintro j σ bx' hj ⟨h2,h7,h8,h9,hp,hq,hk'⟩;obtain rfl:j=0:=oM;simp(disch:=omega) only[go_sem,h2,h7,h8,h9,Int.natCast_zero,Int.reduceLT];refine aB (LS (Mt (hf.agree (bx1:=bx') fun s hs=>(hk' s oM).trans (hb s hs)) hq oM oM) oM l hl hd bx' fun _ _=>rfl) rfl ?_;rintro d bx2 ⟨rfl,hk2⟩;simp(disch:=omega) only[go_sem];refine an (fun hc=>?_) (fun hc=>?_)
  ·simp(disch:=omega) only[go_sem];rw[iQ]at hc;refine⟨?_,fun s hs=>(hk2 s oM).trans (hk' s hs)⟩;rw[show l.all p=false by simpa using hc]
  ·simp(disch:=omega) only[go_sem,h2,h7,h8,h9];rw[iQ]at hc;refine⟨rfl,fun _=>by simpa using hc,by rw[hk2 _ oM];exact hq,fun s hs=>(hk2 s oM).trans (hk' s hs)⟩
 ·rintro σ bx' ⟨h2,h7,h8,h9,hp,hq,hk'⟩;have h9:σ 9= .int .i64 (1:Int):=h9;simp(disch:=omega) only[go_sem,h2,h7,h8,h9,Int.reduceLT];exact⟨by rw[hp oM],hk'⟩
theorem K7(B:Nat){dom:Int->Prop}{p:Int->Bool}(hf:bC f caps n0 k bx0 (D.int .i64) dom p)(hn:n0<=B)(hk:B+17<=k)(l:List Int)(hl:l.length<=140737488355328)(hd:∀x∈l,dom x)(bx:ae)(hb:∀s,s<n0->bx s=bx0 s):
 aU Tryz.prog 310 0 [.fn (.func f) caps,.sl 1 [.sl 1 (l.map (D.int .i64))]] bx (fun d bx'=>d= .bool (l.all p)/\∀s,s<B->bx' s=bx s) (fun _ _=>False):=aG (base:=B) mixed (K8 B hf hn hk l hl hd bx hb) rfl aj rfl
end
end Go.V.Ty
