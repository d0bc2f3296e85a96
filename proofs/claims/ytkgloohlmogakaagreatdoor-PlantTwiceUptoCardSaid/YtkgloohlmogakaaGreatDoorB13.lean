/- Types: free names, ranges, and what is well typed: the closures of typed. -/
import Derived.Test.YtkgloohlmogakaaGreatDoorB12
set_option linter.unusedSimpArgs false
set_option linter.unusedVariables false
set_option maxRecDepth 100000
namespace Go.V.Ty
open Go.Proofs Go.RowKit Go.V.Lx Go.V.Gr
def cq(s:ah):Bool:=fc s&& !p9.contains s
def sentence:ah:=[103,114,97,109,109,97,114,32,99,97,116,101,103,111,114,121,32,115,116,97,114,116,32,119,111,114,100,32,105,115,32,103,105,118,101,115,32,99,111,115,116,32,114,117,108,101]
theorem zH:Lib.fields sentence=p9:=by decide
theorem IE:aq Tryz.prog 309 [.str sentence] (strs p9):=by
 have:=fields_c sentence (by decide) (by decide);rw[zH]at this;exact this
theorem LJ(s:ah)(hs:s.length<=140737488355328):lI Tryz.prog (bK Tryz.prog) [] Tryz.f265 [.str s] (.bool (cq s)):=by
 refine aw _ [.tmp 2] 11 rfl rfl rfl aj ?_;simp(disch:=omega) only[go_sem];refine au (FK s hs) sG ?_;simp(disch:=omega) only[go_sem];refine an (fun h1=>?_) (fun h1=>?_)
 ·simp(disch:=omega) only[go_sem];refine au IE sG ?_;simp(disch:=omega) only[go_sem,h1];refine au (zy p9 s (by decide)) (by simp[go_sem,strs,cr]) ?_;simp(disch:=omega) only[go_sem,h1];exact ab (by simp[cq,h1])
 ·simp(disch:=omega) only[go_sem,h1];exact ab (by simp[cq,h1])
theorem rW(s:ah)(hs:s.length<=140737488355328):aq Tryz.prog 265 [.str s] (.bool (cq s)):=av mixed (LJ s hs) rfl aj rfl
def dJ(a b n:Int):Bool:=decide (a<=n)&&decide (n<=b)
theorem Sd(a b:Int)(e e' t t':Nat)(bx0:ae)(h3:bx0 3=⟨e,1,1,t,[.int .i64 a]⟩)(h4:bx0 4=⟨e',1,1,t',[.int .i64 b]⟩):bC 311 [.loc 3 e 0 0,.loc 4 e' 0 0] 5 1000 bx0 (D.int .i64) (fun _=>True) (dJ a b):=by
 intro bx x hb _;refine aG (fn:=Tryz.f311) (tab:=[]) (base:=1000) mixed ?_ rfl aj rfl;refine aH _ [.tmp 4] 13 rfl rfl rfl aj ?_;have g3:=(hb 3 oM).trans h3;have g4:=(hb 4 oM).trans h4;simp(disch:=omega) only[go_sem,g3,g4];refine an (fun h1=>?_) (fun h1=>?_)
 ·simp(disch:=omega) only[go_sem,g3,g4,h1];refine⟨?_,fun _ _=>trivial⟩;simp[dJ]at h1⊢;simp[h1]
 ·simp(disch:=omega) only[go_sem,g3,g4,h1];refine⟨?_,fun _ _=>trivial⟩;simp[dJ]at h1⊢;omega
theorem EG(a b:Int)(l:List Int)(hl:l.length<=140737488355328):iI Tryz.prog (bK Tryz.prog) [] Tryz.f266 0 [.int .i64 a,.int .i64 b,.sl 1 (l.map (D.int .i64))] (fun _=> .none) (fun d _=>d= .bool (l.all (dJ a b))) (fun _ _=>False):=by
 refine aH _ [.tmp 6] 11 rfl rfl rfl aj ?_;simp(disch:=omega) only[go_sem];refine aB (K7 20 (Sd a b 1 1 3 3 _ (by simp[ao,Bx.none]) (by simp[ao,Bx.none])) oM oM l hl (fun _ _=>trivial) _ (fun _ _=>rfl)) rfl ?_;rintro d bx2 ⟨rfl,_⟩;simp(disch:=omega) only[go_sem]
theorem EF(a b:Int)(l:List Int)(hl:l.length<=140737488355328):aq Tryz.prog 266 [.int .i64 a,.int .i64 b,.sl 1 (l.map (D.int .i64))] (.bool (l.all (dJ a b))):=
 (aG mixed (EG a b l hl) rfl aj rfl).to (fun _ _ h=>h) (fun d' bx' h=>⟨.bool (l.all (dJ a b)),by rw[h];rfl,.refl _⟩)
theorem kG(a b n:Int):aq Tryz.prog 266 [.int .i64 a,.int .i64 b,.sl 1 [.int .i64 n]] (.bool (dJ a b n)):=by
 have:=EF a b [n] sI;simpa using this
def small(s:ah):Prop:=s.length<=140737488355328
theorem LK(k:Nat)(bx0:ae):bC 265 [] 0 k bx0 D.str small cq:=bC.of (fun x h=>rW x h) (fun _=>rfl) k bx0
theorem xo(l:List ah)(hl:l.length<=140737488355328)(hs:∀x∈l,small x):aq Tryz.prog 267 [.fn (.func 265) [],.sl 1 [.sl 1 (l.map D.str)]] (.bool (l.all cq)):=
 (Lc 0 (LK 1000 (fun _=> .none)) (Nat.le_refl _) oM l hl hs (fun _=> .none) (fun _ _=>rfl)).to (fun _ _ h=>h) (fun d' bx' h=>⟨.bool (l.all cq),by rw[h.1];rfl,.refl _⟩)
def yA(f:FuncId)(caps:List D)(n0:Nat)(bx0:ae)(p:ah->Bool):Prop:=
 ∀(bx:ae) (s:ah),(∀q,q<n0->bx q=bx0 q)->small s->aU Tryz.prog f 0 (.str s::caps) bx (fun d bx'=>(∃n:Int,d= .tup [.int .i64 n,.bool (p s)])/\∀q,q<100000->bx' q=bx q) (fun _ _=>False)
section
variable {f:FuncId} {caps:List D} {n0:Nat} {bx0:ae} {p:ah->Bool}
theorem Om{e t:Nat}(hf:yA f caps n0 bx0 p)(hn:n0<=200)(h3:bx0 203=⟨e,1,1,t,[.fn (.func f) caps]⟩):bC 263 [.loc 203 e 0 0] 204 100000 bx0 D.str small p:=by
 intro bx x hb hs;refine aG (fn:=Tryz.f263) (tab:=[]) (base:=700) mixed ?_ rfl aj rfl;refine aH _ [.tmp 3] 13 rfl rfl rfl aj ?_;have g3:=(hb 203 oM).trans h3;simp(disch:=omega) only[go_sem,g3];refine aB (hf bx x (fun s hs=>hb s oM) hs) rfl ?_;rintro d bx2 ⟨⟨n,rfl⟩,hk2⟩;simp(disch:=omega) only[go_sem];exact hk2
structure Ew(x:Entry):Prop where
 text:small x.text
 cat:small x.cat
 len:x.gives.length<=140737488355328
 gives:∀s∈x.gives,small s
structure Ex(x:Part):Prop where
 text:small x.text
 cat:small x.cat
structure BZ(x:aC):Prop where
 cat:small x.cat
 plen:x.parts.length<=140737488355328
 glen:x.gives.length<=140737488355328
 parts:∀y∈x.parts,Ex y
 gives:∀y∈x.gives,small y.text
structure iZ(g:aO):Prop where
 name:small g.name
 start:small g.start
 clen:g.cats.length<=140737488355328
 elen:g.entries.length<=140737488355328
 rlen:g.rules.length<=140737488355328
 cats:∀s∈g.cats,small s
 ents:∀x∈g.entries,Ew x
 rules:∀x∈g.rules,BZ x
def dO(p:ah->Bool)(x:Entry):Bool:=cq x.text&&(p x.cat&&(dJ 1 4 x.gives.length&&(x.gives.all cq&&dJ 0 1000 x.cost)))
def jb(p:ah->Bool)(x:Part):Bool:=(decide (x.text=[])&&p x.cat)||(!decide (x.text=[])&&(decide (x.cat=[])&&cq x.text))
theorem JB{e t:Nat}{cf:FuncId}{cc:List D}{m0:Nat}(hc:bC cf cc m0 100000 bx0 D.str small p)(hm:m0<=206)(h5:bx0 205=⟨e,1,1,t,[.fn (.func cf) cc]⟩):bC 264 [.loc 205 e 0 0] 206 400 bx0 Entry.d Ew (dO p):=by
 intro bx x hb hx;refine aG (fn:=Tryz.f264) (tab:=[]) (base:=400) mixed ?_ rfl aj rfl;refine aH _ [.tmp 3] 32 rfl rfl rfl aj ?_;have g5:=(hb 205 oM).trans h5;simp(disch:=omega) only[go_sem,g5,Entry.d,strs];refine au (rW x.text hx.text) sG ?_;simp(disch:=omega) only[go_sem,g5];refine an (fun h1=>?_) (fun h1=>?_)
 ·simp(disch:=omega) only[go_sem,g5,h1];refine aB (hc _ x.cat (fun s hs=>by rw[aA oM];exact hb s oM) hx.cat) rfl ?_;rintro d bx2 ⟨rfl,hk2⟩;have g2:=hk2 402 oM;rw[cO]at g2;simp(disch:=omega) only[go_sem,g5,h1,g2];refine an (fun h2=>?_) (fun h2=>?_)
  ·simp(disch:=omega) only[go_sem,g5,h1,h2,g2];refine au (kG 1 4 x.gives.length) sG ?_;simp(disch:=omega) only[go_sem,g5,h1,h2,g2];refine an (fun h3=>?_) (fun h3=>?_)
   ·simp(disch:=omega) only[go_sem,g5,h1,h2,h3,g2];refine au (xo x.gives hx.len hx.gives) (by simp[go_sem,cr]) ?_;simp(disch:=omega) only[go_sem,g5,h1,h2,h3,g2];refine an (fun h4=>?_) (fun h4=>?_)
    ·simp(disch:=omega) only[go_sem,g5,h1,h2,h3,h4,g2];refine au (kG 0 1000 x.cost) sG ?_;simp(disch:=omega) only[go_sem,g5,h1,h2,h3,h4,g2];exact⟨by simp[dO,h1,h2,h3,h4],fun s hs=>(hk2 s oM).trans (aA oM)⟩
    ·simp(disch:=omega) only[go_sem,g5,h1,h2,h3,h4,g2];exact⟨by simp[dO,h1,h2,h3,h4],fun s hs=>(hk2 s oM).trans (aA oM)⟩
   ·simp(disch:=omega) only[go_sem,g5,h1,h2,h3,g2];exact⟨by simp[dO,h1,h2,h3],fun s hs=>(hk2 s oM).trans (aA oM)⟩
  ·simp(disch:=omega) only[go_sem,g5,h1,h2,g2];exact⟨by simp[dO,h1,h2],fun s hs=>(hk2 s oM).trans (aA oM)⟩
 ·simp(disch:=omega) only[go_sem,g5,h1];exact⟨by simp[dO,h1],fun s hs=>aA oM⟩
theorem MI{e t:Nat}{cf:FuncId}{cc:List D}{m0:Nat}(hc:bC cf cc m0 100000 bx0 D.str small p)(hm:m0<=206)(h5:bx0 205=⟨e,1,1,t,[.fn (.func cf) cc]⟩):bC 268 [.loc 205 e 0 0] 206 650 bx0 Part.d Ex (jb p):=by
 intro bx x hb hx;refine aG (fn:=Tryz.f268) (tab:=[]) (base:=650) mixed ?_ rfl aj rfl;refine aH _ [.tmp 3] 28 rfl rfl rfl aj ?_;have g5:=(hb 205 oM).trans h5;simp(disch:=omega) only[go_sem,g5,Part.d];refine ar (fun h1=>?_) (fun h1=>?_)
 ·simp(disch:=omega) only[go_sem,g5,h1];refine aB (hc _ x.cat (fun s hs=>by rw[aA oM];exact hb s oM) hx.cat) rfl ?_;rintro d bx2 ⟨rfl,hk2⟩;have g2:=hk2 652 oM;rw[cO]at g2;simp(disch:=omega) only[go_sem,g5,h1,g2];refine an (fun h2=>?_) (fun h2=>?_)
  ·simp(disch:=omega) only[go_sem,g5,h1,h2,g2];exact⟨by simp[jb,h1,h2],fun s hs=>(hk2 s oM).trans (aA oM)⟩
  ·simp(disch:=omega) only[go_sem,g5,h1,h2,g2];exact⟨by simp[jb,h1,h2],fun s hs=>(hk2 s oM).trans (aA oM)⟩
 ·simp(disch:=omega) only[go_sem,g5,h1];refine ar (fun h2=>?_) (fun h2=>?_)
  ·simp(disch:=omega) only[go_sem,g5,h1,h2];refine au (rW x.text hx.text) sG ?_;simp(disch:=omega) only[go_sem,g5,h1,h2];exact⟨by simp[jb,h1,h2],fun s hs=>aA oM⟩
  ·simp(disch:=omega) only[go_sem,g5,h1,h2];exact⟨by simp[jb,h1,h2],fun s hs=>aA oM⟩
end
end Go.V.Ty
namespace Go.V.Ty
open Go.Proofs Go.RowKit Go.V.Lx Go.V.Gr
def bM(gs:List ct)(i:Nat):Nat:=gs.countP fun y=>decide (y.text=[])&&decide (y.part=(i:Int))
def gG(n:Nat)(y:ct):Bool:=if y.text=[]then dJ 0 ((n:Int) - 1) y.part else decide (y.part=0)&&cq y.text
def EN(gs:List ct)(ps:List Part)(i:Nat):Bool:=ps[i]?.all fun q=>decide (bM gs i<=1)&&(decide (bM gs i=1)==decide (q.text=[]))
def ko(x:aC):Bool:=(List.range x.parts.length).all (EN x.gives x.parts)
def ft(p:ah->Bool)(x:aC):Bool:=p x.cat&&(dJ 1 4 x.parts.length&&(dJ 1 8 x.gives.length&&(dJ 0 1000 x.cost&&(x.parts.all (jb p)&&(x.gives.all (gG x.parts.length)&&ko x)))))
def mN(gs:List ct)(n:Nat):List D:=(List.range n).map fun i=>D.int .i64 (bM gs i:Int)
theorem lK(gs:List ct)(n:Nat):(mN gs n).length=n:=by simp[mN]
theorem nI{gs:List ct}{n i:Nat}(h:i<n):(mN gs n)[i]? =some (.int .i64 (bM gs i:Int)):=by simp[mN,h]
theorem GW(n:Nat):List.replicate n (D.int .i64 0)=mN [] n:=by
 apply List.ext_getElem?;intro i;by_cases h:i<n
 ·rw[nI h];simp[h,bM]
 ·rw[List.getElem?_eq_none (by simpa using h),List.getElem?_eq_none (by rw[lK];omega)]
theorem nW(gs:List ct)(y:ct)(i:Nat):bM (gs++[y]) i=bM gs i+if y.text=[]/\y.part=(i:Int)then 1 else 0:=by simp only[bM,List.countP_append,List.countP_singleton,Bool.and_eq_true,decide_eq_true_eq]
theorem EY{gs:List ct}{y:ct}{n:Nat}(h:¬y.text=[]):mN (gs++[y]) n=mN gs n:=by simp only[mN,nW,h,false_and,if_false,Nat.add_zero]
theorem GX{gs:List ct}{y:ct}{n k:Nat}(h:y.text=[])(hk:y.part=(k:Int))(hn:k<n):(mN gs n).set k (.int .i64 ((bM gs k+1:Nat):Int))=mN (gs++[y]) n:=by
 apply List.ext_getElem?;intro i;by_cases hi:i<n
 ·rw[nI hi,nW,List.getElem?_set,lK,nI hi];by_cases e:k=i
  ·subst e;simp[h,hk,hi]
  ·have:¬y.part=(i:Int):=oM;simp[e,this]
 ·rw[List.getElem?_eq_none (by simp[lK];omega),List.getElem?_eq_none (by rw[lK];omega)]
theorem EX(gs:List ct)(i:Nat):bM gs i<=gs.length:=List.countP_le_length
theorem xa{p:ah->Bool}{x:aC}{y:ct}(hy:y∈x.gives)(h:gG x.parts.length y=false):ft p x=false:=by
 have:x.gives.all (gG x.parts.length)=false:=by rw[List.all_eq_false];exact⟨y,hy,by simp[h]⟩
 simp[ft,this]
theorem uV{gs:List ct}{ps:List Part}{i:Nat}{q:Part}(h:ps[i]? =some q):EN gs ps i=(decide (bM gs i<=1)&&(decide ((bM gs i:Int)=1)==decide (q.text=[]))):=by
 have:((bM gs i:Int)=1)<->bM gs i=1:=oM;simp only[EN,h,Option.all_some,this]
theorem AZ{p:ah->Bool}{x:aC}{j:Nat}(hj:j<x.parts.length)(h:EN x.gives x.parts j=false):ft p x=false:=by
 have:ko x=false:=by rw[ko,List.all_eq_false];exact⟨j,List.mem_range.2 hj,by simp[h]⟩
 simp[ft,this]
section
variable {p:ah->Bool} {bx0:ae}
theorem MU{e t e' t':Nat}{cf:FuncId}{cc:List D}{m0:Nat}(hc:bC cf cc m0 100000 bx0 D.str small p)(hm:m0<=206)(h5:bx0 205=⟨e,1,1,t,[.fn (.func cf) cc]⟩)(h7:bx0 207=⟨e',1,1,t',[.fn (.func 268) [.loc 205 e 0 0]]⟩):
 bC 269 [.loc 205 e 0 0,.loc 207 e' 0 0] 208 500 bx0 aC.d BZ (ft p):=by
 intro bx x hb hx;refine aG (fn:=Tryz.f269) (tab:=[]) (base:=500) mixed ?_ rfl aj rfl;refine aH _ [.tmp 4] 112 rfl rfl rfl aj ?_;have g5:=(hb 205 oM).trans h5;have g7:=(hb 207 oM).trans h7;simp(disch:=omega) only[go_sem,g5,aC.d];refine aB (hc _ x.cat (fun s hs=>by rw[aA oM];exact hb s oM) hx.cat) rfl ?_;rintro d bx2 ⟨rfl,hk2⟩;have g2:=hk2 503 oM;rw[cO]at g2;have g5':=(hk2 205 oM).trans ((aA oM).trans g5);have g7':=(hk2 207 oM).trans ((aA oM).trans g7);cases h1:p x.cat
 ·simp(disch:=omega) only[go_sem,g5,h1,g2,Bool.not_false,Bool.not_true];exact⟨by simp[ft,h1],fun s hs=>(hk2 s oM).trans (aA oM)⟩
 simp(disch:=omega) only[go_sem,g5,h1,g2,Bool.not_false,Bool.not_true];refine au (kG 1 4 x.parts.length) sG ?_;cases h3:dJ 1 4 x.parts.length
 ·simp(disch:=omega) only[go_sem,g5,h1,h3,g2,Bool.not_false,Bool.not_true];exact⟨by simp[ft,h1,h3],fun s hs=>(hk2 s oM).trans (aA oM)⟩
 simp(disch:=omega) only[go_sem,g5,h1,h3,g2,Bool.not_false,Bool.not_true];refine au (kG 1 8 x.gives.length) sG ?_;cases h4:dJ 1 8 x.gives.length
 ·simp(disch:=omega) only[go_sem,g5,h1,h3,h4,g2,Bool.not_false,Bool.not_true];exact⟨by simp[ft,h1,h3,h4],fun s hs=>(hk2 s oM).trans (aA oM)⟩
 simp(disch:=omega) only[go_sem,g5,h1,h3,h4,g2,Bool.not_false,Bool.not_true];refine au (kG 0 1000 x.cost) sG ?_;cases h6:dJ 0 1000 x.cost
 ·simp(disch:=omega) only[go_sem,g5,h1,h3,h4,h6,g2,Bool.not_false,Bool.not_true];exact⟨by simp[ft,h1,h3,h4,h6],fun s hs=>(hk2 s oM).trans (aA oM)⟩
 simp(disch:=omega) only[go_sem,g5,h1,h3,h4,h6,g2,g7',Bool.not_false,Bool.not_true];refine aB (K9 612 (MI hc hm h5) oM oM x.parts hx.plen hx.parts bx2 (fun s hs=>(hk2 s oM).trans ((aA oM).trans (hb s oM)))) rfl ?_;rintro d bx3 ⟨rfl,hk3⟩;replace g2:=(hk3 503 oM).trans g2;cases h8:x.parts.all (jb p)
 ·simp(disch:=omega) only[go_sem,h8,Bool.not_false,Bool.not_true];exact⟨by simp[ft,h1,h3,h4,h6,h8],fun s hs=>(hk3 s oM).trans ((hk2 s oM).trans (aA oM))⟩
 have hp4:1<=x.parts.length/\x.parts.length<=4:=by simp[dJ]at h3;omega
 have hg8:1<=x.gives.length/\x.gives.length<=8:=by simp[dJ]at h4;omega
 have hz:=GW x.parts.length;have k0:(0:Int)<=(x.parts.length:Int):=oM;have k1:(x.parts.length:Int)<=(x.parts.length:Int):=oM;have k2:(x.parts.length:Int) * ((8:Nat):Int)<=140737488355328:=oM;generalize hE:(bx 503).ep+1=E at g2;have fy:∀s,s<500->bx3 s=bx s:=fun s hs=>(hk3 s oM).trans ((hk2 s oM).trans (aA oM));obtain⟨e5,he5⟩:∃e5,(bx3 549).ep+1=e5:=⟨_,rfl⟩
 simp(disch:=omega) only[go_sem,h8,g2,Bool.not_false,Bool.not_true,hz,k0,k1,k2,he5];refine aX x.gives.length (fun j σ bx'=>σ 3= .loc 503 E 0 0/\σ 5= .osl 549 e5 1 0 x.parts.length/\σ 51= .sl 2 (x.gives.map ct.d)/\σ 52= .int .i64 x.gives.length/\σ 53= .int .i64 j/\bx' 503=⟨E,1,5,142,[x.d]⟩/\bx' 549=⟨e5,1,1,3,mN (x.gives.take j) x.parts.length⟩/\(x.gives.take j).all (gG x.parts.length)=true/\∀s,s<500->bx' s=bx s) ?_ ?_ ?_
 ·simp(disch:=omega) only[go_sem,g2,he5,lK,List.take_zero,aC.d];exact fun s hs=>by rw[if_neg oM];exact fy s hs
 ·rintro j σ bx' hj ⟨q3,q5,q51,q52,q53,b3,b549,hok,hk⟩;obtain⟨y,hy⟩:=aP hj;have hlt:(j:Int)<(x.gives.length:Int):=oM;have hsy:small y.text:=hx.gives y (List.mem_of_getElem? hy);have htk:x.gives.take (j+1)=x.gives.take j++[y]:=by rw[List.take_add_one,hy];rfl
  simp(disch:=omega) only[go_sem,q3,q5,q51,q52,q53,b3,b549,hlt,hy,ct.d];have hw:IntKind.i64.wrap ((x.parts.length:Int) - 1)=(x.parts.length:Int) - 1:=wrap_i64 oM oM;have hj1:IntKind.i64.wrap ((j:Int)+1)=((j+1:Nat):Int):=aK oM;have hall:(x.gives.take (j+1)).all (gG x.parts.length)=gG x.parts.length y:=by rw[htk,List.all_append,hok];simp
  refine ar (fun c1=>?_) (fun c1=>?_)
  ·simp(disch:=omega) only[go_sem,q5,hw];refine au (kG 0 ((x.parts.length:Int) - 1) y.part) sG ?_;cases c2:dJ 0 ((x.parts.length:Int) - 1) y.part
   ·simp(disch:=omega) only[go_sem,c2,Bool.not_false];refine⟨(xa (List.mem_of_getElem? hy) (by rw[gG,if_pos c1,c2])).symm▸rfl,fun s hs=>?_⟩
    (try simp(disch:=omega) only[aA,if_neg])
    exact hk s hs
   ·have c3:0<=y.part/\y.part<x.parts.length:=by simp[dJ]at c2;omega
    obtain⟨n,hn⟩:∃n:Nat,y.part=n:=⟨y.part.toNat,by omega⟩
    have hn2:n<x.parts.length:=oM;have hn3:(n:Int)<(x.parts.length:Int):=oM;have hle:=EX (x.gives.take j) n;have hle2:(x.gives.take j).length<=x.gives.length:=List.length_take_le' ..;have hw2:IntKind.i64.wrap ((bM (x.gives.take j) n:Int)+1)=((bM (x.gives.take j) n+1:Nat):Int):=aK oM;simp(disch:=omega) only[go_sem,c2,Bool.not_true,q3,q5,q51,q52,q53,hj1,hn,hn3,hw2,nI hn2,b549,b3,lK,GX c1 hn hn2];rw[<-htk,hall];refine⟨rfl,by rw[gG,if_pos c1,hn];rwa[hn]at c2,fun s hs=>?_⟩
    (try simp(disch:=omega) only[if_neg])
    exact hk s hs
  ·simp(disch:=omega) only[go_sem];refine ar (fun c2=>?_) (fun c2=>?_)
   ·have c2':(!decide (y.part=0))=false:=by simp[c2]
    simp(disch:=omega) only[go_sem,c2'];refine au (rW y.text hsy) sG ?_;cases c4:cq y.text
    ·simp(disch:=omega) only[go_sem,c2',c4,Bool.not_false];refine⟨(xa (List.mem_of_getElem? hy) (by rw[gG,if_neg c1,c4,Bool.and_false])).symm▸rfl,fun s hs=>?_⟩
     (try simp(disch:=omega) only[aA,if_neg])
     exact hk s hs
    ·simp(disch:=omega) only[go_sem,c2',c4,Bool.not_true,q3,q5,q51,q52,q53,hj1,b549,b3];rw[hall,htk,EY c1];refine⟨rfl,by rw[gG,if_neg c1,c4,decide_eq_true c2];rfl,fun s hs=>?_⟩
     (try simp(disch:=omega) only[if_neg])
     exact hk s hs
   ·have c2':(!decide (y.part=0))=true:=by simp[c2]
    simp(disch:=omega) only[go_sem,c2'];refine⟨(xa (List.mem_of_getElem? hy) (by rw[gG,if_neg c1,decide_eq_false c2,Bool.false_and])).symm▸rfl,fun s hs=>?_⟩
    (try simp(disch:=omega) only[aA,if_neg])
    exact hk s hs
 ·rintro σ bx' ⟨q3,q5,q51,q52,q53,b3,b549,hok,hk⟩;have hlt:¬(x.gives.length:Int)<(x.gives.length:Int):=oM;simp(disch:=omega) only[go_sem,q3,q5,q51,q52,q53,hlt,b3,b549,aC.d];rw[List.take_length]at hok b549;refine aX x.parts.length (fun j σ bx'=>σ 5= .osl 549 e5 1 0 x.parts.length/\σ 88= .sl 3 (x.parts.map Part.d)/\σ 89= .int .i64 x.parts.length/\σ 90= .int .i64 j/\bx' 549=⟨e5,1,1,3,mN x.gives x.parts.length⟩/\(∀i,i<j->EN x.gives x.parts i=true)/\∀s,s<500->bx' s=bx s) ?_ ?_ ?_
  ·simp(disch:=omega) only[go_sem,q5,b549];exact⟨by omega,hk⟩
  ·rintro j σ bx' hj ⟨q5,q88,q89,q90,b549,hc,hk⟩;obtain⟨y,hy⟩:=aP hj;have hlt:(j:Int)<(x.parts.length:Int):=oM;have hj1:IntKind.i64.wrap ((j:Int)+1)=((j+1:Nat):Int):=aK oM;simp(disch:=omega) only[go_sem,q5,q88,q89,q90,hlt,hy,Part.d,b549,nI hj];have hcc:=uV (gs:=x.gives) hy;cases c1:(decide ((bM x.gives j:Int)=1)==decide (y.text=[]))
   ·rw[c1,Bool.and_false]at hcc;simp(disch:=omega) only[go_sem,c1,Bool.not_false,Bool.not_true];refine⟨(AZ hj hcc).symm▸rfl,fun s hs=>?_⟩
    (try simp(disch:=omega) only[if_neg])
    exact hk s hs
   ·rw[c1,Bool.and_true]at hcc;simp(disch:=omega) only[go_sem,c1,Bool.not_true,b549,nI hj,hlt,q5,q88,q89,q90];refine ar (fun c2=>?_) (fun c2=>?_)
    ·simp(disch:=omega) only[go_sem,c2,decide_true];refine⟨(AZ hj (by rw[hcc];simp;omega)).symm▸rfl,fun s hs=>?_⟩
     (try simp(disch:=omega) only[if_neg])
     exact hk s hs
    ·simp(disch:=omega) only[go_sem,c2,decide_false,q5,q88,q89,q90,b549,hj1];refine⟨fun i hi=>?_,fun s hs=>?_⟩
     ·by_cases e:i=j
      ·subst e;rw[hcc];simp;omega
      ·exact hc i oM
     · (try simp(disch:=omega) only[if_neg])
       exact hk s hs
  ·rintro σ bx' ⟨q5,q88,q89,q90,b549,hc,hk⟩;have hlt:¬(x.parts.length:Int)<(x.parts.length:Int):=oM;simp(disch:=omega) only[go_sem,q5,q88,q89,q90,hlt];have hco:ko x=true:=by rw[ko,List.all_eq_true];exact fun i hi=>hc i (List.mem_range.1 hi)
   exact⟨by simp only[ft,h1,h3,h4,h6,h8,hok,hco,Bool.and_true],hk⟩
end
end Go.V.Ty
namespace Go.V.Ty
open Go.Proofs Go.RowKit Go.V.Lx Go.V.Gr
def eA(p:ah->Bool)(g:aO):Bool:=cq g.name&&(decide (0<g.cats.length)&&(g.cats.all cq&&(p g.start&&(g.entries.all (dO p)&&g.rules.all (ft p)))))
theorem Kx{f:FuncId}{caps:List D}{n0:Nat}{p:ah->Bool}(g:aO)(hg:iZ g)(bx:ae)(hf:yA f caps n0 bx p)(hn:n0<=200):
 aU Tryz.prog 224 0 [g.d,.fn (.func f) caps] bx (fun d bx'=>d= .bool (eA p g)/\∀s,s<200->bx' s=bx s) (fun _ _=>False):=by
 refine aG (fn:=Tryz.f224) (tab:=[]) (base:=200) mixed ?_ rfl aj rfl;refine aH _ [.tmp 4] 48 rfl rfl rfl aj ?_;simp(disch:=omega) only[go_sem,aO.d,strs];generalize hB:ao (ao (ao (ao (ao (ao bx 202 _) 203 _) 205 _) 205 _) 207 _) 207 _=B;have fy:∀s,s<200->B s=bx s:=fun s hs=>by rw[<-hB];simp(disch:=omega) only[aA]
 have b2:B 202=⟨(bx 202).ep+1,1,6,81,[g.d]⟩:=by rw[<-hB];simp[ao,aO.d,strs]
 have b3:B 203=⟨(bx 203).ep+1,1,1,308,[.fn (.func f) caps]⟩:=by rw[<-hB];simp[ao]
 have b5:B 205=⟨(bx 205).ep+1,1,1,315,[.fn (.func 263) [.loc 203 ((bx 203).ep+1) 0 0]]⟩:=by rw[<-hB];simp[ao]
 have b7:B 207=⟨(bx 207).ep+1,1,1,350,[.fn (.func 268) [.loc 205 ((bx 205).ep+1) 0 0]]⟩:=by rw[<-hB];simp[ao]
 have hf':yA f caps n0 B p:=fun b s hb hs=>hf b s (fun q hq=>(hb q hq).trans (fy q oM)) hs;have hcat:=Om hf' hn b3;have fin:∀(b:Bool) (B':ae),b=eA p g->(∀s,s<200->B' s=B s)->D.bool b= .bool (eA p g)/\∀s,s<200->B' s=bx s:=fun b B' h h'=>⟨by rw[h],fun s hs=>(h' s hs).trans (fy s hs)⟩
 refine au (rW g.name hg.name) sG ?_;cases h1:cq g.name
 ·simp(disch:=omega) only[go_sem,h1];exact fin false B (by simp[eA,h1]) (fun _ _=>rfl)
 simp(disch:=omega) only[go_sem,h1,b2,aO.d,strs];refine ar (fun h2=>?_) (fun h2=>?_)
 rotate_left
 ·simp(disch:=omega) only[go_sem,h2,decide_false];exact fin false B (by simp[eA,h1];omega) (fun _ _=>rfl)
 have h2':0<g.cats.length:=oM;simp(disch:=omega) only[go_sem,h2,decide_true,b2,aO.d,strs];refine au (xo g.cats hg.clen hg.cats) (by simp[go_sem,cr]) ?_;cases h3:g.cats.all cq
 ·simp(disch:=omega) only[go_sem,h2,decide_true,h3];exact fin false B (by simp only[eA,h1,h3,Bool.false_and,Bool.and_false]) (fun _ _=>rfl)
 simp(disch:=omega) only[go_sem,h2,decide_true,h3,b5,b2,aO.d,strs];refine aB (hcat B g.start (fun _ _=>rfl) hg.start) rfl ?_;rintro d B1 ⟨rfl,hk1⟩;cases h4:p g.start
 ·simp(disch:=omega) only[go_sem,h4];exact fin false B1 (by simp only[eA,h1,h3,h4,Bool.false_and,Bool.and_false]) (fun s hs=>hk1 s oM)
 have c2:=(hk1 202 oM).trans b2;simp(disch:=omega) only[go_sem,h4,c2,aO.d,strs];refine aB (K5 250 (JB hcat oM b5) oM oM g.entries hg.elen hg.ents B1 (fun s hs=>hk1 s oM)) rfl ?_;rintro d B2 ⟨rfl,hk2⟩;cases h5:g.entries.all (dO p)
 ·simp(disch:=omega) only[go_sem,h5];exact fin false B2 (by simp only[eA,h1,h3,h4,h5,Bool.false_and,Bool.and_false]) (fun s hs=>(hk2 s oM).trans (hk1 s oM))
 replace c2:=(hk2 202 oM).trans c2;simp(disch:=omega) only[go_sem,h5,c2,aO.d,strs];refine aB (La 300 (MU hcat oM b5 b7) oM oM g.rules hg.rlen hg.rules B2 (fun s hs=>(hk2 s oM).trans (hk1 s oM))) rfl ?_;rintro d B3 ⟨rfl,hk3⟩;simp(disch:=omega) only[go_sem];refine fin (g.rules.all (ft p)) B3 ?_ (fun s hs=>(hk3 s oM).trans ((hk2 s oM).trans (hk1 s oM)));simp only[eA,h1,h2',h3,h4,h5,decide_true,Bool.true_and]
abbrev PM:=List (ah×D×Int)
def cn(m:PM):List D:=m.map fun e=> .tup [.str e.1,e.2.1,.int .i64 e.2.2]
theorem zE(m:PM):(cn m).length=m.length:=by simp[cn]
theorem lM(s:ah):∀(m:PM) (i:Nat),(dt .str (.str s) (cn m) i=some none/\∀e∈m,e.1≠s)\/∃j e,dt .str (.str s) (cn m) i=some (some (i+j,e.2.1))/\m[j]? =some e/\e.1=s
 |[],i=> .inl ⟨rfl,by simp⟩
 |e::m,i=>by
  by_cases h:s=e.1
  ·exact .inr ⟨0,e,by simp[cn,dt,je,h],rfl,h.symm⟩
  ·have hb:(s==e.1)=false:=by simpa using h
   rcases lM s m (i+1)with⟨h1,h2⟩|⟨j,e',h1,h2,h3⟩
   ·refine .inl ⟨?_,fun x hx=>?_⟩
    ·simp only[cn,List.map_cons,dt,je,hb];exact h1
    ·rcases List.mem_cons.1 hx with rfl|hx
     ·exact Ne.symm h
     ·exact h2 x hx
   ·refine .inr ⟨j+1,e',?_,by simpa using h2,h3⟩;simp only[cn,List.map_cons,dt,je,hb];rw[show i+(j+1)=i+1+j by omega];exact h1
theorem vg(s:ah)(v:D):∀(m:PM) (j:Nat),(cn m).modify j (uv (.str s) v)=cn (m.modify j fun e=>(s,v,e.2.2))
 |[],j=>by simp[cn]
 |e::m,0=>by simp[cn,uv]
 |e::m,j+1=>by simpa[cn]using vg s v m j
theorem xB:∀(m:PM) (j:Nat),(cn m).eraseIdx j=cn (m.eraseIdx j)
 |[],j=>by simp[cn]
 |e::m,0=>by simp[cn]
 |e::m,j+1=>by simpa[cn]using xB m j
theorem uJ{m:PM}{s:ah}{c:Int}{v:D}(h:∀e∈m,e.1≠s):jW .str (.str s) v c (cn m)=some (.int .i64 (c+1)::cn (m++[(s,v,c)])):=by
 rcases lM s m 0 with⟨h1,_⟩|⟨j,e,_,h2,h3⟩
 ·simp only[jW,h1];simp[cn]
 ·exact(h e (List.mem_of_getElem? h2) h3).elim
theorem Bi(m:PM)(s:ah)(c:Int)(v:D):∃(m':PM) (c':Int),jW .str (.str s) v c (cn m)=some (.int .i64 c'::cn m')/\m'.length<=m.length+1/\((∃e∈m,e.1=s)->m'.length=m.length):=by
 rcases lM s m 0 with⟨h1,h2⟩|⟨j,e,h1,h2,h3⟩
 ·exact⟨m++[(s,v,c)],c+1,uJ h2,by simp,fun⟨e,he,hs⟩=>(h2 e he hs).elim⟩
 ·exact⟨m.modify j fun e=>(s,v,e.2.2),c,by simp[jW,h1,vg],by simp,by simp⟩
theorem Jz{m:PM}{s:ah}{c:Int}(h:∃e∈m,e.1=s):∃j e,m[j]? =some e/\e.1=s/\zC .str (.str s) c (cn m)=some (.int .i64 c::cn (m.eraseIdx j)):=by
 obtain⟨e,he,hs⟩:=h;rcases lM s m 0 with⟨h1,h2⟩|⟨j,e,h1,h2,h3⟩
 ·exact(h2 e he hs).elim
 ·exact⟨j,e,h2,h3,by simp[zC,h1,xB]⟩
def fG(x:aC):Option (ah×ah):=match x.parts with
 |[q]=>if q.text=[]then some (x.cat,q.cat)else none
 |_=>none
def Edge(rs:List aC)(c d:ah):Prop:=∃x∈rs,fG x=some (c,d)
def ew(L:List ah)(c:ah)(x:aC):Bool:=match fG x with
 |some (a,b)=>decide (a=c)&&L.contains b
 |none=>false
def Full(rs:List aC)(L:List ah):Prop:=∀c∈L,rs.any (ew L c)=true
def wZ(rs:List aC)(L:List ah):List ah:=L.filter fun c=>rs.any (ew L c)
def jc(rs:List aC):Nat->List ah->List ah
 |0,L=>L
 |k+1,L=>jc rs k (wZ rs L)
def kZ(g:aO):Bool:= !(jc g.rules g.cats.length g.cats).isEmpty
theorem oQ{rs:List aC}{L:List ah}{c:ah}:rs.any (ew L c)=true<->∃d∈L,Edge rs c d:=by
 rw[List.any_eq_true];constructor
 ·rintro⟨x,hx,h⟩;unfold ew at h;split at h
  ·rename_i a b he;simp only[Bool.and_eq_true,decide_eq_true_eq,List.contains_iff_mem]at h;exact⟨b,h.2,x,hx,by rw[he,h.1]⟩
  ·cases h
 ·rintro⟨d,hd,x,hx,he⟩;exact⟨x,hx,by simp[ew,he,hd]⟩
theorem vB{rs:List aC}{L M:List ah}{c:ah}(h:∀x∈L,x∈M)(hl:rs.any (ew L c)=true):rs.any (ew M c)=true:=by
 obtain⟨d,hd,he⟩:=oQ.1 hl;exact oQ.2 ⟨d,h d hd,he⟩
theorem HU{rs:List aC}{F L:List ah}(hF:Full rs F)(h:∀x∈F,x∈L):∀x∈F,x∈wZ rs L:=fun x hx=>List.mem_filter.2 ⟨h x hx,vB h (hF x hx)⟩
theorem su{rs:List aC}{F:List ah}(hF:Full rs F):∀(k:Nat) (L:List ah),(∀x∈F,x∈L)->∀x∈F,x∈jc rs k L
 |0,L,h=>h
 |k+1,L,h=>su hF k _ (HU hF h)
theorem sv{rs:List aC}:∀(k:Nat) (L:List ah),∀x∈jc rs k L,x∈L
 |0,L,x,h=>h
 |k+1,L,x,h=>(List.mem_filter.1 (sv k _ x h)).1
theorem xZ{rs:List aC}{L:List ah}(h:Full rs L):wZ rs L=L:=List.filter_eq_self.2 h
theorem vO{rs:List aC}{L:List ah}(h:Full rs L):∀k,jc rs k L=L
 |0=>rfl
 |k+1=>by rw[jc,xZ h,vO h k]
theorem AJ{rs:List aC}:∀(k:Nat) (L:List ah),Full rs (jc rs k L)\/(jc rs k L).length+k<=L.length
 |0,L=> .inr (Nat.le_refl _)
 |k+1,L=>by
  rw[jc];by_cases h:(wZ rs L).length<L.length
  ·rcases AJ k (wZ rs L)with h1|h1
   ·exact .inl h1
   ·exact .inr oM
  ·have hL:Full rs L:=by
    have:=List.length_filter_le (fun c=>rs.any (ew L c)) L;exact List.length_filter_eq_length_iff.1 (by unfold wZ at h;omega)
   exact .inl (by rw[xZ hL,vO hL];exact hL)
theorem zT(rs:List aC):Full rs []:=fun c h=>by simp at h
theorem xw(g:aO):Full g.rules (jc g.rules g.cats.length g.cats):=by
 rcases AJ (rs:=g.rules) g.cats.length g.cats with h|h
 ·exact h
 ·have:jc g.rules g.cats.length g.cats=[]:=List.eq_nil_of_length_eq_zero oM;rw[this];exact zT _
theorem EU{g:aO}{L:List ah}(h1:∀x∈L,x∈g.cats)(h2:Full g.rules L)(h3:∀F,Full g.rules F->(∀x∈F,x∈g.cats)->∀x∈F,x∈L):kZ g= !L.isEmpty:=by
 unfold kZ;cases hL:L with
 |nil=>
  cases hp:jc g.rules g.cats.length g.cats with
  |nil=>rfl
  |cons y ys=>
   have:=h3 _ (xw g) (sv _ _) y (by rw[hp];simp);rw[hL]at this;simp at this
 |cons x xs=>
  have:=su h2 g.cats.length g.cats h1 x (by rw[hL];simp);cases hp:jc g.rules g.cats.length g.cats with
  |nil=>rw[hp]at this;simp at this
  |cons y ys=>rfl
theorem GN(g:aO):kZ g=true<->∃F,F≠[]/\Full g.rules F/\∀x∈F,x∈g.cats:=by
 constructor
 ·intro h;refine⟨_,?_,xw g,sv _ _⟩;intro e;rw[kZ,e]at h;cases h
 ·rintro⟨F,hne,hF,hs⟩;obtain⟨x,hx⟩:=List.exists_mem_of_ne_nil F hne;have:=su hF g.cats.length g.cats hs x hx;unfold kZ;cases hp:jc g.rules g.cats.length g.cats with
  |nil=>rw[hp]at this;simp at this
  |cons y ys=>rfl
end Go.V.Ty
