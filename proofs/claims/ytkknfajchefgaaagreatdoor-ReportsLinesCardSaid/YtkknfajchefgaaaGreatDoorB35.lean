/- Lemmas on plain data and programs: part B35. -/
import Derived.Test.YtkknfajchefgaaaGreatDoorB20
set_option linter.all false
set_option maxHeartbeats 8000000
set_option maxRecDepth 100000
namespace Go.V.St
open Go.Proofs Go.Proofs.Tryz Go.RowKit Go.V.Lx Go.V.Gr Go.V.Ty
section
variable {f:FuncId} {caps:List D}
def afy{p:Int->Bool}(l:List Int)(hl:l.length<=140737488355328)(hf:∀x∈l,av prog f ((D.int .i64) x::caps) (.bool (p x)))(hp:∀x:Int,D.aH ((D.int .i64) x::caps)=true):
 av prog 149 [.sl 1 (l.map (D.int .i64)),.fn (.func f) caps] (I (j6 p l)):=by
 refine fF f149 [] [.tmp 4] ?_;simp(disch:=omega) only[go_sem];refine bB l.length (fun j σ bx'=>σ 0= .sl 1 (l.map (D.int .i64))/\σ 1= .fn (.func f) caps/\σ 7=I l.length/\σ 8=I j/\(l.take j).any p=false) avB ?_ ?_
 ·rintro j σ bx' hj ⟨h0,h1,h7,h8,hn⟩;obtain⟨x,hx⟩:=bk hj;have au:(j:Int)<(l.length:Int):=oM;simp(disch:=omega) only[go_sem,h0,h1,h7,h8,au,hx];refine aI (hf x (aat hx)) (hp x) ?_;simp(disch:=omega) only[go_sem,h0,h1,h7,h8,au,hx];refine aO (fun hc=>?_) (fun hc=>?_)
  ·exact aqQ
  ·exact aq3
 ·exact IT
def Vp{p:Int->Bool}(l:List Int)(hl:l.length<=140737488355328)(hf:∀x∈l,av prog f ((D.int .i64) x::caps) (.bool (p x)))(hp:∀x:Int,D.aH ((D.int .i64) x::caps)=true)(hq:D.aH [.sl 1 (l.map (D.int .i64)),.fn (.func f) caps]=true):
 av prog 80 [.sl 1 (l.map (D.int .i64)),.fn (.func f) caps] (.bool (l.any p)):=by
 refine fF f80 [] [.tmp 4] ?_;simp(disch:=omega) only[go_sem];refine aI (afy l hl hf hp) hq ?_;exact arK
def acb{p:bn->Bool}(l:List bn)(hl:l.length<=140737488355328)(hf:∀x∈l,av prog f (bn.d x::caps) (.bool (p x)))(hp:∀x:bn,D.aH (bn.d x::caps)=true):
 av prog 252 [.sl 5 (l.map bn.d),.fn (.func f) caps] (I (j6 p l)):=by
 refine fF f252 [] [.tmp 4] ?_;simp(disch:=omega) only[go_sem];refine bB l.length (fun j σ bx'=>σ 0= .sl 5 (l.map bn.d)/\σ 1= .fn (.func f) caps/\σ 7=I l.length/\σ 8=I j/\(l.take j).any p=false) avB ?_ ?_
 ·rintro j σ bx' hj ⟨h0,h1,h7,h8,hn⟩;obtain⟨x,hx⟩:=bk hj;have au:(j:Int)<(l.length:Int):=oM;simp(disch:=omega) only[go_sem,h0,h1,h7,h8,au,hx,bn.d];refine aI (hf x (aat hx)) (hp x) ?_;simp(disch:=omega) only[go_sem,h0,h1,h7,h8,au,hx,bn.d];refine aO (fun hc=>?_) (fun hc=>?_)
  ·exact aqQ
  ·exact aq3
 ·exact IT
def ab3{p:bn->Bool}(l:List bn)(hl:l.length<=140737488355328)(hf:∀x∈l,av prog f (bn.d x::caps) (.bool (p x)))(hp:∀x:bn,D.aH (bn.d x::caps)=true)(hq:D.aH [.sl 5 (l.map bn.d),.fn (.func f) caps]=true):
 av prog 184 [.sl 5 (l.map bn.d),.fn (.func f) caps] (.bool (l.any p)):=by
 refine fF f184 [] [.tmp 4] ?_;simp(disch:=omega) only[go_sem];refine aI (acb l hl hf hp) hq ?_;exact arK
def acd{p:iK->Bool}(l:List iK)(hl:l.length<=140737488355328)(hf:∀x∈l,av prog f (iK.d x::caps) (.bool (p x)))(hp:∀x:iK,D.aH (iK.d x::caps)=true):
 av prog 315 [.sl 4 (l.map iK.d),.fn (.func f) caps] (I (j6 p l)):=by
 refine fF f315 [] [.tmp 4] ?_;simp(disch:=omega) only[go_sem];refine bB l.length (fun j σ bx'=>σ 0= .sl 4 (l.map iK.d)/\σ 1= .fn (.func f) caps/\σ 7=I l.length/\σ 8=I j/\(l.take j).any p=false) avB ?_ ?_
 ·rintro j σ bx' hj ⟨h0,h1,h7,h8,hn⟩;obtain⟨x,hx⟩:=bk hj;have au:(j:Int)<(l.length:Int):=oM;simp(disch:=omega) only[go_sem,h0,h1,h7,h8,au,hx,iK.d];refine aI (hf x (aat hx)) (hp x) ?_;simp(disch:=omega) only[go_sem,h0,h1,h7,h8,au,hx,iK.d];refine aO (fun hc=>?_) (fun hc=>?_)
  ·exact aqQ
  ·exact aq3
 ·exact IT
def ab4{p:iK->Bool}(l:List iK)(hl:l.length<=140737488355328)(hf:∀x∈l,av prog f (iK.d x::caps) (.bool (p x)))(hp:∀x:iK,D.aH (iK.d x::caps)=true)(hq:D.aH [.sl 4 (l.map iK.d),.fn (.func f) caps]=true):
 av prog 302 [.sl 4 (l.map iK.d),.fn (.func f) caps] (.bool (l.any p)):=by
 refine fF f302 [] [.tmp 4] ?_;simp(disch:=omega) only[go_sem];refine aI (acd l hl hf hp) hq ?_;exact arK
end
section
variable {f:FuncId} {caps:List D} {n0 k:Nat} {bx0:ab}
def ace{cX:cJ->Prop}{p:cJ->Bool}(hf:cT f caps n0 k bx0 cJ.d cX p)(hn:n0<=k)(l:List cJ)(hl:l.length<=140737488355328)(hd:∀x∈l,cX x)(bx:ab)(hb:∀s,s<n0->bx s=bx0 s):
 az prog 255 0 [.sl 7 (l.map cJ.d),.fn (.func f) caps] bx (fun d bx'=>d= .int .i64 (j6 p l)/\∀s,s<k->bx' s=bx s) (fun _ _=>False):=by
 refine fB 19 0 f255 [] [.tmp 4] ?_;simp(disch:=omega) only[go_sem];refine bB l.length (fun j σ bx'=>σ 0= .sl 7 (l.map cJ.d)/\σ 1= .fn (.func f) caps/\σ 7= .int .i64 l.length/\σ 8= .int .i64 j/\(l.take j).any p=false/\∀s,s<k->bx' s=bx s)
  ⟨avB,avB,sG,sG,sI,fun _ _=>rfl⟩ ?_ ?_
 ·rintro j σ bx' hj ⟨h0,h1,h7,h8,hp,hk⟩;obtain⟨x,hx⟩:=bk hj;have au:(j:Int)<(l.length:Int):=oM;simp(disch:=omega) only[go_sem,h0,h1,h7,h8,au,hx,cJ.d];refine ao (hf bx' x (fun s hs=>(hk s oM).trans (hb s hs)) (hd x (aat hx))) rfl ?_;rintro d aT ⟨rfl,eQ⟩;simp(disch:=omega) only[go_sem,h0,h1,h7,h8,au,hx,cJ.d];refine aO (fun hc=>?_) (fun hc=>?_)
  ·simp(disch:=omega) only[go_sem,h0,h1,h7,h8]
   grind [pv]
  ·exact aq3
 ·rintro σ bx' ⟨h0,h1,h7,h8,hp,hk⟩;have au:¬(l.length:Int)<(l.length:Int):=oM;simp(disch:=omega) only[go_sem,h0,h1,h7,h8,au]
  grind [m_]
def ab5{cX:cJ->Prop}{p:cJ->Bool}(hf:cT f caps n0 k bx0 cJ.d cX p)(hn:n0<=k)(l:List cJ)(hl:l.length<=140737488355328)(hd:∀x∈l,cX x)(bx:ab)(hb:∀s,s<n0->bx s=bx0 s):
 az prog 189 0 [.sl 7 (l.map cJ.d),.fn (.func f) caps] bx (fun d bx'=>d= .bool (l.any p)/\∀s,s<k->bx' s=bx s) (fun _ _=>False):=by
 refine fB 9 0 f189 [] [.tmp 4] ?_;simp(disch:=omega) only[go_sem];refine ao (ace hf hn l hl hd bx hb) rfl ?_;rintro d aT ⟨rfl,eQ⟩;simp(disch:=omega) only[go_sem]
 grind [lk]
end
def pV(fm:Int->Option D)(es:List D):Prop:=∃l:List (Int×D×Int),es=l.map (fun e=> .aL [.int .i64 e.1,e.2.1,.int .i64 e.2.2])/\∀n,fm n=(l.find? fun e=>e.1==n).map (·.2.1)
theorem pV.nil:pV (fun _=>none) []:=⟨[],rfl,fun _=>rfl⟩
theorem MU(n:Int):∀(l:List (Int×D×Int)) (i:Nat),∃r,dX (.int .i64) (.int .i64 n) (l.map fun e=> .aL [.int .i64 e.1,e.2.1,.int .i64 e.2.2]) i=some r/\r.map (·.2)=(l.find? fun e=>e.1==n).map (·.2.1)/\∀j v,r=some (j,v)->i<=j/\∃e,l[j - i]? =some e/\e.1=n
 |[],i=>⟨none,rfl,rfl,fun _ _ h=>awI⟩
 |e::l,i=>by
  by_cases h:n=e.1
  ·refine⟨some (i,e.2.1),by simp[dX,oq,h],awK,fun j v hj=>?_⟩
   exact awN
  ·have hb:(n==e.1)=false:=awN
   have oe:(e.1==n)=false:=awN
   obtain⟨r,h1,h2,h3⟩:=MU n l (i+1)
   grind [dX,oq]
theorem pV.find{fm:Int->Option D}{es:List D}(h:pV fm es)(n:Int):∃r,dX (.int .i64) (.int .i64 n) es 0=some r/\r.map (·.2)=fm n:=by
 obtain⟨l,rfl,hl⟩:=h;obtain⟨r,h1,h2,_⟩:=MU n l 0
 exact awN
theorem MV(n:Int)(v:D):∀(l:List (Int×D×Int)) (j:Nat) (e:Int×D×Int),l[j]? =some e->e.1=n->(∀i e',i<j->l[i]? =some e'->e'.1≠n)->∀m,((l.modify j fun e=>(n,v,e.2.2)).find? fun e=>e.1==m).map (·.2.1)=if m=n then some v else(l.find? fun e=>e.1==m).map (·.2.1)
 |[],j,e,h,_,_,m=>awv
 |x::l,0,e,h,he,_,m=>awN
 |x::l,j+1,e,h,he,hn,m=>by
  have hx:=hn 0 x oM rfl;have ih:=MV n v l j e awN he (fun i e' hi h'=>hn (i+1) e' oM awN) m
  exact awN
theorem Qj(n:Int)(v:D):∀(l:List (Int×D×Int)) (j:Nat),(l.map fun e=>D.aL [.int .i64 e.1,e.2.1,.int .i64 e.2.2]).modify j (Ft (.int .i64 n) v)=(l.modify j fun e=>(n,v,e.2.2)).map fun e=> .aL [.int .i64 e.1,e.2.1,.int .i64 e.2.2]
 |[],j=>sI
 |e::l,0=>by simp[Ft]
 |e::l,j+1=>by simpa using Qj n v l j
theorem pV.ah{fm:Int->Option D}{es:List D}(h:pV fm es)(n:Int)(v:D)(c:Int):∃es' c',nj (.int .i64) (.int .i64 n) v c es=some (.int .i64 c'::es')/\pV (fun k=>if k=n then some v else fm k) es':=by
 obtain⟨l,rfl,hl⟩:=h;obtain⟨r,h1,h2,h3⟩:=MU n l 0;cases r with
 |none=>
  refine⟨l.map (fun e=> .aL [.int .i64 e.1,e.2.1,.int .i64 e.2.2])++[.aL [.int .i64 n,v,.int .i64 c]],c+1,by simp only[nj,h1],l++[(n,v,c)],sI,fun m=>?_⟩
  exact awN
 |some q=>
  obtain⟨j,v0⟩:=q;obtain⟨_,e,g1,g2⟩:=h3 j v0 rfl;simp only[Nat.sub_zero]at g1;refine⟨_,c,by simp only[nj,h1];rfl,l.modify j fun e=>(n,v,e.2.2),?_,fun m=>?_⟩
  ·exact Qj n v l j
  ·show(if m=n then some v else fm m)=_;rw[hl m];refine(MV n v l j e g1 g2 (fun i e' hi h' bh=>?_) m).symm;have:∀(l:List (Int×D×Int)) (k j i:Nat) (v0:D) (e':Int×D×Int),dX (.int .i64) (.int .i64 n) (l.map fun e=> .aL [.int .i64 e.1,e.2.1,.int .i64 e.2.2]) k=some (some (k+j,v0))->l[i]? =some e'->e'.1=n->j<=i:=by
    intro l;induction l with
    |nil=>grind
    |cons x l ih=>
     intro k j i v0 e' hf hi he;by_cases hx:n=x.1
     ·grind [dX,oq]
     ·have hb:(n==x.1)=false:=awN
      simp only[abk,dX,oq,hb]at hf;cases i with
      |zero=>grind
      |succ i=>
       cases j with
       |zero=>omega
       |succ j=>
        have:=ih (k+1) j i v0 e' awN awN he;exact oM
   have:=this l 0 j i v0 e' awN h' bh;exact oM
end Go.V.St
namespace Go.V.St
open Go.Proofs Go.Proofs.Tryz Go.RowKit Go.V.Lx Go.V.Gr Go.V.Ty
def EC(n:Int):Bool:=aX n 0 1073741824
def k_(b:bn):Bool:=aX b.bH 0 31&&(EC b.m0&&EC b.m1&&EC b.m2&&EC b.m3)
def td(ls:List Int)(x:cJ):Bool:=aX x.no 0 1048576&&aX x.at_ 0 1099511627775&&aX x.known 0 1099511627775&&aX x.LS 0 3&&ls.contains x.from_&&ls.contains x.RI&& !decide (x.from_=x.RI)&&aX x.ms 1 1073741824
def B9(n a b:Int):av prog 253 [I n,I a,I b] (.bool (aX n a b)):=by
 refine fF f253 [] [.tmp 6] ?_;repeat' first|with_reducible apply zJ<;>intro _|simp(disch:=omega) only[go_sem, *]
 all_goals first|exact .refl _|(refine aq (aaR D.bool ?_);first|(simp(disch:=omega) [*,aX];done)|(simp[aX]at *;omega)|(rw[abu];simp[aX]at *;omega))
def Up(n:Int):av prog 254 [I n] (.bool (!EC n)):=by
 refine fF f254 [] [.tmp 2] ?_;repeat' first|with_reducible apply zJ<;>intro _|with_reducible refine pX (B9 _ _ _) sG ?_|simp(disch:=omega) only[go_sem, *]
 all_goals first|exact .refl _|(refine aq (aaR D.bool ?_);first|(simp(disch:=omega) [*,EC];done)|(simp[EC]at *;omega)|(rw[abu];simp[EC]at *;omega))
def Yd(b:bn):av prog 186 [b.d] (.bool (k_ b)):=by
 have hc:=Vp (f:=254) (caps:=[]) (p:=fun n=> !EC n) [b.m0,b.m1,b.m2,b.m3] sI (fun x _=>Up x) (fun x=>rfl) rfl;refine fF f186 [] [.tmp 2] ?_;simp(disch:=omega) only[go_sem,bn.d];refine aI (B9 _ _ _) rfl ?_;simp(disch:=omega) only[go_sem,bn.d];refine aO (fun h1=>?_) (fun h1=>?_)
 ·simp(disch:=omega) only[go_sem,h1,bn.d];refine lx hc arl rfl ?_;simp(disch:=omega) only[go_sem,h1,bn.d];simp_all[aq,k_,alY]
 ·simp(disch:=omega) only[go_sem,h1,bn.d];simp_all[aq,k_]
def Ui(b:bn):av prog 185 [b.d] (.bool (!k_ b)):=by
 refine fF f185 [] [.tmp 2] ?_;repeat' first|with_reducible apply zJ<;>intro _|with_reducible refine pX (Yd b) sG ?_|simp(disch:=omega) only[go_sem, *,bn.d]
 all_goals first|exact .refl _|(refine aq (aaR D.bool ?_);first|(simp(disch:=omega) [*,];done)|(simp[]at *;omega)|(rw[abu];simp[]at *;omega))
def NV(b:bn):av prog 188 [b.d] (I b.bH):=by
 refine fF f188 [] [.tmp 2] ?_;simp(disch:=omega) only[go_sem,bn.d];exact .refl _
def Wq(x:cJ):av prog 193 [x.d] (I x.no):=by
 refine fF f193 [] [.tmp 2] ?_;simp(disch:=omega) only[go_sem,cJ.d];exact .refl _
def Px(l:List bn)(hl:l.length<=140737488355328):av prog 187 [.sl 5 (l.map bn.d),.fn (.func 188) []] (.bool (oX bn.bH l)):=by
 refine fF f187 [(4,[(8,3)])] [.tmp 4] ?_;simp(disch:=omega) only[go_sem];refine bB l.length (fun j σ bx=>σ 0= .sl 5 (l.map bn.d)/\σ 1= .fn (.func 188) []/\σ 7=I l.length/\σ 8=I j/\oX bn.bH (l.take j)=true) ?_ ?_ ?_
 ·simp[go_sem,aM,ah,oX]
 ·rintro j σ bx hj ⟨h0,h1,h7,h8,hn⟩;obtain⟨x,hx⟩:=bk hj;have au:(j:Int)<(l.length:Int):=oM;rcases j with _|j
  ·exact aqp
  ·obtain⟨y,hy⟩:=bk (show j<l.length by omega);have hw:IntKind.i64.wrap (((j+1:Nat):Int) - 1)=(j:Int):=by grind [wr]
   have hp:(0:Int)<((j+1:Nat):Int):=oM;repeat' first|with_reducible apply zJ<;>intro _|with_reducible refine pX (NV y) sG ?_|with_reducible refine pX (NV x) sG ?_|simp(disch:=omega) only[go_sem, *,h0,h1,h7,h8,au,hx,hy,hw,hp,bn.d]
   all_goals first|exact aq (aaR D.bool (Xv hy hx awj).symm)|(rw[aR oM];simp_all[O6])
 ·exact aqj
def SV(l:List cJ)(hl:l.length<=140737488355328):av prog 192 [.sl 7 (l.map cJ.d),.fn (.func 193) []] (.bool (oX cJ.no l)):=by
 refine fF f192 [(4,[(8,3)])] [.tmp 4] ?_;simp(disch:=omega) only[go_sem];refine bB l.length (fun j σ bx=>σ 0= .sl 7 (l.map cJ.d)/\σ 1= .fn (.func 193) []/\σ 7=I l.length/\σ 8=I j/\oX cJ.no (l.take j)=true) ?_ ?_ ?_
 ·simp[go_sem,aM,ah,oX]
 ·rintro j σ bx hj ⟨h0,h1,h7,h8,hn⟩;obtain⟨x,hx⟩:=bk hj;have au:(j:Int)<(l.length:Int):=oM;rcases j with _|j
  ·exact aqp
  ·obtain⟨y,hy⟩:=bk (show j<l.length by omega);have hw:IntKind.i64.wrap (((j+1:Nat):Int) - 1)=(j:Int):=by grind [wr]
   have hp:(0:Int)<((j+1:Nat):Int):=oM;repeat' first|with_reducible apply zJ<;>intro _|with_reducible refine pX (Wq y) sG ?_|with_reducible refine pX (Wq x) sG ?_|simp(disch:=omega) only[go_sem, *,h0,h1,h7,h8,au,hx,hy,hw,hp,cJ.d]
   all_goals first|exact aq (aaR D.bool (Xv hy hx awj).symm)|(rw[aR oM];simp_all[O6])
 ·exact aqj
def FU(fm:Int->Option D):Prop:=∀n v,fm n=some v->∃a b c d:Int,v= .agg [I a,I b,I c,I d]
def aof(l:List bn)(hl:l.length<=32)(bx0:ab):az prog 183 200 [.sl 5 (l.map bn.d)] bx0 (fun d bx'=>∃e c es fm,d= .omap 206 e/\bx' 206=⟨e,3,0,295,I c::es⟩/\pV fm es/\(∀n,(fm n).isSome=(l.map bn.bH).contains n)/\FU fm/\∀s,s<200->bx' s=bx0 s) (fun _ _=>False):=by
 refine fB 20 200 f183 [] [.tmp 2] ?_;simp(disch:=omega) only[go_sem];refine bB l.length (fun j σ bx=>σ 3= .omap 206 ((bx0 206).ep+1)/\σ 7= .sl 5 (l.map bn.d)/\σ 8=I l.length/\σ 9=I j/\(∃c es fm,bx 206=⟨(bx0 206).ep+1,3,0,295,I c::es⟩/\pV fm es/\(∀n,(fm n).isSome=((l.take j).map bn.bH).contains n)/\FU fm)/\∀s,s<200->bx s=bx0 s) ?_ ?_ ?_
 ·simp[go_sem,aM,ah];exact⟨⟨0,[],⟨rfl,rfl⟩,_,pV.nil,(fun n=>rfl),fun n v h=>awI⟩,fun s hs h=>absurd h oM⟩
 ·rintro j σ bx hj ⟨h3,h7,h8,h9,⟨c,es,fm,hb,hm,hf,hv⟩,hs⟩;obtain⟨x,hx⟩:=bk hj;have au:(j:Int)<(l.length:Int):=oM;obtain⟨es',c',hu,Cx⟩:=hm.ah x.bH (.agg [I x.m0,I x.m1,I x.m2,I x.m3]) c;simp(disch:=omega) only[go_sem,h3,h7,h8,h9,au,hx,hb,hu,bn.d,ff];rw[aR oM];refine⟨rfl,⟨_,_,_,rfl,Cx,(fun n=>?_),fun n v h=>?_⟩,fun s dq=>?_⟩
  ·rw[ae2,hx]
   exact awN
  ·by_cases hn:n=x.bH
   ·exact awN
   ·simp only[aaw hn]at h;exact hv n v h
  exact awN
 ·rintro σ bx ⟨h3,h7,h8,h9,⟨c,es,fm,hb,hm,hf,hv⟩,hs⟩;have au:¬(l.length:Int)<(l.length:Int):=oM;simp(disch:=omega) only[go_sem,h3,h8,h9,au]
  exact awN
theorem Kx{r:Option (Nat×D)}{fm:Int->Option D}{n:Int}(h:r.map (·.2)=fm n)(hv:FU fm):∃a b c d,vJ (some (.agg [I 0,I 0,I 0,I 0])) true (some r)=some (.aL [.agg [I a,I b,I c,I d],.bool (fm n).isSome]):=by
 cases r with
 |none=>exact⟨0,0,0,0,by rw[<-h];rfl⟩
 |some q=>
  obtain⟨j,v⟩:=q;obtain⟨a,b,c,d,rfl⟩:=hv n v h.symm;exact⟨a,b,c,d,by rw[<-h];rfl⟩
def aag{bx:ab}{e:Nat}{c:Int}{es:List D}{fm:Int->Option D}{ls:List Int}(hb:bx 206=⟨e,3,0,295,I c::es⟩)(hm:pV fm es)(hf:∀n,(fm n).isSome=ls.contains n)(hv:FU fm)(x:cJ):
 az prog 191 300 [.omap 206 e,x.d] bx (fun d bx'=>d= .bool (td ls x)/\∀s,s<300->bx' s=bx s) (fun _ _=>False):=by
 refine fB 59 300 f191 [] [.tmp 4] ?_;obtain⟨r1,g1,g2⟩:=hm.find x.from_;obtain⟨r2,k1,k2⟩:=hm.find x.RI;obtain⟨a1,b1,c1,d1,v1⟩:=Kx g2 hv;obtain⟨a2,b2,c2,d2,v2⟩:=Kx k2 hv;rw[hf]at v1 v2;repeat' first|with_reducible apply zJ<;>intro _|with_reducible refine pX (B9 _ _ _) sG ?_|simp(disch:=omega) only[go_sem, *,hb,g1,k1,v1,v2,cJ.d]
 all_goals exact⟨aaR D.bool (by simp_all[td]),fun s hs=>by repeat rw[aaw oM]⟩
def Uj{bx0:ab}{e e5:Nat}{c:Int}{es:List D}{fm:Int->Option D}{ls:List Int}(h5:bx0 5=⟨e5,1,1,295,[.omap 206 e]⟩)(hb:bx0 206=⟨e,3,0,295,I c::es⟩)(hm:pV fm es)(hf:∀n,(fm n).isSome=ls.contains n)(hv:FU fm):
 cT 190 [.loc 5 e5 0 0] 207 250 bx0 cJ.d (fun _=>True) (fun x=> !td ls x):=by
 intro bx x hs _;refine fB 8 250 f190 [] [.tmp 3] ?_;have g5:=(hs 5 oM).trans h5;have gb:=(hs 206 oM).trans hb;simp(disch:=omega) only[go_sem,g5,gb,cJ.d];refine ao (aag (c:=c) (ls:=ls) (by simp[ah,gb]) hm hf hv x) rfl ?_;rintro d aT ⟨rfl,hk⟩;simp(disch:=omega) only[go_sem];exact fun s hs=>by rw[hk s oM];simp only[ah];grind
def im(bs:List bn)(ts:List cJ):Int:=if 32<bs.length\/4096<ts.length then 2 else if bs.all k_&&oX bn.bH bs&&ts.all (td (bs.map bn.bH))&&oX cJ.no ts then 0 else 400
def DG{α:Type}(p:α->Bool)(l:List α):(l.any fun x=> !p x)= !l.all p:=awN
def Ur(bs:List bn)(ts:List cJ):az prog 139 0 [.sl 5 (bs.map bn.d),.sl 7 (ts.map cJ.d)] (fun _=> .none) (fun d bx=>d=I (im bs ts)) (fun _ _=>False):=by
 refine fB 33 0 f139 [] [.tmp 4] ?_;simp(disch:=omega) only[go_sem];have big:(32<bs.length\/4096<ts.length)->I 2=I (im bs ts):=fun h=>aaR I (by simp_all[im]);refine aW (fun h1=>?_) (fun h1=>?_)
 ·simp(disch:=omega) only[go_sem,h1,abq]
  exact awN
 simp(disch:=omega) only[go_sem,h1,adX];refine aW (fun h2=>?_) (fun h2=>?_)
 ·simp(disch:=omega) only[go_sem,h2,abq]
  exact awN
 simp(disch:=omega) only[go_sem,h2,adX];have e:im bs ts=if bs.all k_&&oX bn.bH bs&&ts.all (td (bs.map bn.bH))&&oX cJ.no ts then 0 else 400:=by unfold im;grind
 have no:(bs.all k_&&oX bn.bH bs&&ts.all (td (bs.map bn.bH))&&oX cJ.no ts)=false->I 400=I (im bs ts):=fun h=>aaR I awN;refine ao (aof bs oM _) rfl ?_;rintro d bx1 ⟨e1,c,es,fm,rfl,b1,hm,hf,hv,mc⟩;simp(disch:=omega) only[go_sem,b1];refine aI (ab3 (f:=185) (caps:=[]) (p:=fun b=> !k_ b) bs oM (fun b _=>Ui b) (fun b=>rfl) sG) sG ?_;simp(disch:=omega) only[go_sem,DG];refine aO (fun h3=>?_) (fun h3=>?_)
 rotate_left
 ·simp(disch:=omega) only[go_sem,h3]
  exact awN
 simp(disch:=omega) only[go_sem,h3];refine aI (Px bs oM) sG ?_;simp(disch:=omega) only[go_sem,h3];refine aO (fun h4=>?_) (fun h4=>?_)
 rotate_left
 ·simp(disch:=omega) only[go_sem,h3,h4]
  exact awN
 simp(disch:=omega) only[go_sem,h3,h4];refine ao (ab5 (n0:=207) (k:=250) (Uj (e:=e1) (e5:=(bx1 5).ep+1) (c:=c) (bx0:=ah (ah bx1 5 ⟨(bx1 5).ep+1,1,1,295,[.raw (.map none)]⟩) 5 ⟨(bx1 5).ep+1,1,1,295,[.omap 206 e1]⟩) awx (by simp[ah,b1]) hm hf hv) oM ts oM (fun _ _=>trivial) _ (fun _ _=>rfl)) rfl ?_;rintro d aT ⟨rfl,hk⟩;simp(disch:=omega) only[go_sem,DG,h3,h4];refine aO (fun h5=>?_) (fun h5=>?_)
 rotate_left
 ·simp(disch:=omega) only[go_sem,h3,h4,h5]
  exact awN
 simp(disch:=omega) only[go_sem,h3,h4,h5];refine aI (SV ts oM) sG ?_;simp(disch:=omega) only[go_sem,h3,h4,h5];refine aO (fun h6=>?_) (fun h6=>?_)
 rotate_left
 ·simp(disch:=omega) only[go_sem,h3,h4,h5,h6]
  exact awN
 simp(disch:=omega) only[go_sem,h3,h4,h5,h6]
 exact awN
def Uq(bs:List bn)(ts:List cJ):av prog 139 [.sl 5 (bs.map bn.d),.sl 7 (ts.map cJ.d)] (I (im bs ts)):=
 (Ur bs ts).to (fun _ _ h=>h) (fun d' bx' h=>⟨I (im bs ts),aww,.refl _⟩)
end Go.V.St
namespace Go.V.St
open Go.Proofs Go.RowKit Go.V.Lx Go.V.Gr Go.V.Ty
def X9{α:Type}{p:α->Bool}{l:List α}{j:Nat}{x:α}(hx:l[j]? =some x)(h:(l.take j).all p=true)(h1:p x=true):(l.take (j+1)).all p=true:=auJ
def adN{α:Type}{p:α->Bool}{l:List α}{j:Nat}{x:α}(hx:l[j]? =some x)(h1:p x=false):l.all p=false:=av6
end Go.V.St
namespace Go.V.St
open Go.Proofs Go.Proofs.Tryz Go.RowKit Go.V.Lx Go.V.Gr Go.V.Ty
abbrev VS:Type:=Bool×Bool×Int
def lO(jB:Int)(s:VS)(v:bD):VS:=if v.jB=jB then(if v.kind=1 then(true,true,v.bH)else if v.kind=2 then(s.1,s.2.1,v.bH)else if v.kind=3 then(s.1,false,s.2.2)else if v.kind=4 then(s.1,true,s.2.2)else s)else s
def th(l:List bD)(jB:Int):VS:=l.foldl (lO jB) (false,false,0)
def nL(v:bD):Bool:=aX v.at_ 0 1099511627775&&aX v.jB 0 99999&&aX v.kind 1 4&&aX v.bH 0 31&&(decide (v.kind=1)||decide (v.kind=2)||decide (v.bH=0))
def G8(l:List bD):Int:=qO bD.at_ 0 l
def mr(s:VS)(v:bD):Bool:=if v.kind=1 then !s.1 else if v.kind=2 then s.1 else if v.kind=3 then s.2.1 else s.1&& !s.2.1
def v_(l:List bD)(v:bD):Bool:=nL v&&decide (G8 l<=v.at_)&&mr (th l v.jB) v
def DL(l:List bD):Prop:=∀j v,l[j]? =some v->v_ (l.take j) v=true
noncomputable instance(l:List bD):Decidable (DL l):=Classical.propDecidable _
noncomputable def hU(l:List bD):Int:=if 4096<l.length then 2 else if DL l then 0 else 520
def P0{l:List bD}{j:Nat}{v:bD}(h:l[j]? =some v)(n:Int):th (l.take (j+1)) n=lO n (th (l.take j) n) v:=by grind [th,List.take_add_one]
def Xz(n m:Int):av prog 256 [I n,I m] (.bool (aX n 0 (m - 1))):=by
 refine fF f256 [] [.tmp 4] ?_;repeat' first|with_reducible apply zJ<;>intro _|simp(disch:=omega) only[go_sem, *]
 all_goals first|exact .refl _|(refine aq (aaR D.bool ?_);first|(simp(disch:=omega) [*,aX];done)|(simp[aX]at *;omega)|(rw[abu];simp[aX]at *;omega))
def nh(n:Int):Bool:=aX n 1 16384
def A_(w h:Int)(r:iK):Bool:=decide (0<=r.x)&&decide (0<=r.y)&&nh r.w&&nh r.h&&decide (r.x<=w - r.w)&&decide (r.y<=h - r.h)
def rP(s:fb):Int:=if 32<s.bl.length then 2 else if nh s.w&&nh s.h&&s.bl.all (A_ s.w s.h)then 0 else 460
def OB(n:Int):av prog 301 [I n] (.bool (nh n)):=by
 refine fF f301 [] [.tmp 2] ?_;repeat' first|with_reducible apply zJ<;>intro _|simp(disch:=omega) only[go_sem, *]
 all_goals first|exact .refl _|(refine aq (aaR D.bool ?_);first|(simp(disch:=omega) [*,nh,aX];done)|(simp[nh,aX]at *;omega)|(rw[abu];simp[nh,aX]at *;omega))
def acL{w n:Int}(h1:nh w=true)(h2:nh n=true):IntKind.i64.wrap (w - n)=w - n:=by grind [nh,aX,wr]
def WT(s:fb)(r:iK)(h1:nh s.w=true)(h2:nh s.h=true):av prog 300 [r.d,.bR s.d 0] (.bool (!A_ s.w s.h r)):=by
 refine fF f300 [] [.tmp 3] ?_;repeat' first|with_reducible apply zJ<;>intro _|with_reducible refine pX (OB _) sG ?_|simp(disch:=omega) only[go_sem, *,iK.d,fb.d,fb.l]
 all_goals (refine aq (aaR D.bool ?_);rw[abu];simp_all[A_,acL];try omega)
def W0(s:fb):av prog 260 [s.d] (I (rP s)):=by
 refine fF f260 [] [.tmp 2] ?_;simp(disch:=omega) only[go_sem,fb.d,fb.l];refine aW (fun c1=>?_) (fun c1=>?_)
 ·simp(disch:=omega) only[go_sem,c1,abq];exact aq (aaR I (by unfold rP;grind))
 have e:rP s=if nh s.w&&nh s.h&&s.bl.all (A_ s.w s.h)then 0 else 460:=by unfold rP;grind
 simp(disch:=omega) only[go_sem,c1,adX,fb.d,fb.l];refine aI (OB _) sG ?_;simp(disch:=omega) only[go_sem,fb.d,fb.l];refine aO (fun c2=>?_) (fun c2=>?_)
 rotate_left
 ·simp(disch:=omega) only[go_sem,c2];exact av3
 simp(disch:=omega) only[go_sem,c2,fb.d,fb.l];refine aI (OB _) sG ?_;simp(disch:=omega) only[go_sem,c2,fb.d,fb.l];refine aO (fun c3=>?_) (fun c3=>?_)
 rotate_left
 ·simp(disch:=omega) only[go_sem,c2,c3];exact av3
 simp(disch:=omega) only[go_sem,c2,c3,fb.d,fb.l];have hc:=ab4 (f:=300) (caps:=[.bR s.d 0]) (p:=fun r=> !A_ s.w s.h r) s.bl oM (fun r _=>WT s r c2 c3) (fun x=>rfl) rfl;refine lx hc (by simp[go_sem,I1,D.cells,D.aH,D.pure,D.one,jZ,ah,cE,lv,I,fb.d,fb.l]) rfl ?_;simp(disch:=omega) only[go_sem,c2,c3,DG];refine aO (fun c4=>?_) (fun c4=>?_)
 ·exact arv
 ·exact arv
def lQ{α:Type}(r:α->α->Bool):List α->Bool
 |[]=>true
 |[_]=>true
 |x::y::l=>r x y&&lQ r (y::l)
theorem Ab{α:Type}{r:α->α->Bool}:∀ {l:List α},lQ r l=true<->∀i x y,l[i]? =some x->l[i+1]? =some y->r x y=true
 |[]=>⟨fun _ i x y h=>awv,fun _=>rfl⟩
 |[a]=>⟨fun _ i x y _ h=>awv,fun _=>rfl⟩
 |a::b::l=>by
  rw[lQ,aas,Ab (l:=b::l)];constructor
  ·exact awN
  ·exact aqO
def P8{α:Type}{r:α->α->Bool}{l:List α}{j:Nat}{x y:α}(hx:l[j]? =some x)(hy:l[j+1]? =some y)(h:r x y=false):lQ r l=false:=by grind [Ab]
def Ju{α:Type}{r:α->α->Bool}{l:List α}{j:Nat}{x y:α}(hx:l[j]? =some x)(hy:l[j+1]? =some y)(h1:lQ r (l.take (j+1))=true)(h:r x y=true):lQ r (l.take (j+1+1))=true:=by
 refine Ab.2 fun i a b ha hb=>?_;have hl:=(aaL.1 hb).1;rw[afd]at hl;rw[afn oM]at ha hb;by_cases hi:i=j
 ·exact awN
 ·exact Ab.1 h1 i a b awN awN
theorem L4{α:Type}{r:α->α->Bool}(l:List α):lQ r (l.take 1)=true:=by
 cases l with
 |nil=>rfl
 |cons a l=>rfl
def mA(g:ia):Bool:=aX g.f 0 1114111&&aX g.t 0 1114111&&decide (g.f<=g.t)&&aX g.w 0 4096
def uE(k:kj):Bool:=aX k.a 0 1114111&&aX k.b 0 1114111&&aX k.y (-4096) 4096
def y_(x y:ia):Bool:=decide (x.t<y.f)
def AB(x y:kj):Bool:=decide (x.a<y.a)||decide (x.a=y.a)&&decide (x.b<y.b)
def uz(f:ij):Int:=if 1024<f.gs.length\/1024<f.ks.length then 2 else if aX f.o 0 4096&&f.gs.all mA&&lQ y_ f.gs&&f.ks.all uE&&lQ AB f.ks then 0 else 110
def Cn(n a b:Int):av prog 350 [I n,I a,I b] (.bool (aX n a b)):=by
 refine fF f350 [] [.tmp 6] ?_;repeat' first|with_reducible apply zJ<;>intro _|simp(disch:=omega) only[go_sem, *]
 all_goals first|exact .refl _|(refine aq (aaR D.bool ?_);first|(simp(disch:=omega) [*,aX];done)|(simp[aX]at *;omega)|(rw[abu];simp[aX]at *;omega))
def aiQ(n:Int):av prog 357 [I n] (.bool false):=by
 refine fF f357 [] [.tmp 2] ?_;repeat' first|with_reducible apply zJ<;>intro _|simp(disch:=omega) only[go_sem, *]
 exact av3
def Yg(a b:Int):Int:=if a<b then -1 else if b<a then 1 else 0
def UL(a b:Int):av prog 356 [I a,I b] (I (Yg a b)):=by
 refine fF f356 [] [.tmp 4] ?_;repeat' first|with_reducible apply zJ<;>intro _|with_reducible refine pX (aiQ _) sG ?_|simp(disch:=omega) only[go_sem, *]
 all_goals exact aq (aaR I (by unfold Yg;simp[*]))
def aos(a b:Int):av prog 355 [.sl 1 [I a,I b]] (I (if a=0 then b else a)):=by
 refine fF f355 [] [.tmp 2] ?_;simp(disch:=omega) only[go_sem];refine bB 2 (fun j σ bx=>σ 3=I 0/\σ 6= .sl 1 [I a,I b]/\σ 7=I 2/\σ 8=I j/\(0<j->a=0)/\(1<j->b=0)) ?_ ?_ ?_
 ·exact avB
 ·rintro j σ bx hj ⟨h3,h6,h7,h8,ha,hb⟩;obtain rfl|rfl:j=0\/j=1:=oM
  ·have h8:σ 8=I 0:=h8;clear ha hb;repeat' first|with_reducible apply zJ<;>intro _|simp(disch:=omega) only[go_sem, *,h3,h6,h7,h8]
   all_goals simp_all[aq,wr]
  ·have h8:σ 8=I 1:=h8;have ha:=ha oM;clear hb;subst ha;repeat' first|with_reducible apply zJ<;>intro _|simp(disch:=omega) only[go_sem, *,h3,h6,h7,h8]
   all_goals simp_all[aq,wr]
 ·rintro σ bx ⟨h3,h6,h7,h8,ha,hb⟩;have h8:σ 8=I 2:=h8;have ha:=ha oM;have hb:=hb oM;simp(disch:=omega) only[go_sem,h3,h6,h7,h8];exact av3
def UZ(x y:ia):av prog 352 [x.d,y.d] (.bool (y_ x y)):=by
 refine fF f352 [] [.tmp 4] ?_;repeat' first|with_reducible apply zJ<;>intro _|simp(disch:=omega) only[go_sem, *,ia.d]
 exact .refl _
def U0(x y:kj):av prog 354 [x.d,y.d] (.bool (AB x y)):=by
 refine fF f354 [(1,[(9,7),(9,5)])] [.tmp 4] ?_;repeat' first|with_reducible apply zJ<;>intro _|with_reducible refine pX (UL _ _) sG ?_|with_reducible refine pX (aos _ _) sG ?_|simp(disch:=omega) only[go_sem, *,kj.d]
 refine aq (aaR D.bool ?_)
 grind [Yg,AB]
def PJ{f:FuncId}{r:ia->ia->Bool}(l:List ia)(hl:l.length<=140737488355328)(hf:∀x y:ia,av prog f [x.d,y.d] (.bool (r x y))):av prog 351 [.sl 3 (l.map ia.d),.fn (.func f) []] (.bool (lQ r l)):=by
 refine fF f351 [] [.tmp 4] ?_;simp(disch:=omega) only[go_sem];refine bB (l.length - 1) (fun j σ bx=>σ 0= .sl 3 (l.map ia.d)/\σ 1= .fn (.func f) []/\σ 5=I ((j:Int)+1)/\lQ r (l.take (j+1))=true) ?_ ?_ ?_
 ·simp[go_sem,aM,L4]
 ·rintro j σ bx hj ⟨h0,h1,h5,hn⟩;obtain⟨x,hx⟩:=bk (show j<l.length by omega);obtain⟨y,hy⟩:=bk (show j+1<l.length by omega);have au:(j:Int)+1<(l.length:Int):=oM;have hw:IntKind.i64.wrap ((j:Int)+1 - 1)=(j:Int):=by grind [wr]
  have nG:IntKind.i64.wrap ((j:Int)+1+1)=(j:Int)+1+1:=wr _ oM oM;have rG:l[((j:Int)+1).toNat]? =some y:=awN
  have xR:=hf x y;simp(disch:=omega) only[go_sem,h0,h1,h5,au,hw,hx,rG,ia.d];refine aI xR sG ?_;simp(disch:=omega) only[go_sem,h0,h1,h5,au,hw,nG,hx,rG,ia.d];refine aO (fun c=>?_) (fun c=>?_)
  ·exact arf
  ·exact aqV
 ·exact BY
def TH{f:FuncId}{r:kj->kj->Bool}(l:List kj)(hl:l.length<=140737488355328)(hf:∀x y:kj,av prog f [x.d,y.d] (.bool (r x y))):av prog 353 [.sl 3 (l.map kj.d),.fn (.func f) []] (.bool (lQ r l)):=by
 refine fF f353 [] [.tmp 4] ?_;simp(disch:=omega) only[go_sem];refine bB (l.length - 1) (fun j σ bx=>σ 0= .sl 3 (l.map kj.d)/\σ 1= .fn (.func f) []/\σ 5=I ((j:Int)+1)/\lQ r (l.take (j+1))=true) ?_ ?_ ?_
 ·simp[go_sem,aM,L4]
 ·rintro j σ bx hj ⟨h0,h1,h5,hn⟩;obtain⟨x,hx⟩:=bk (show j<l.length by omega);obtain⟨y,hy⟩:=bk (show j+1<l.length by omega);have au:(j:Int)+1<(l.length:Int):=oM;have hw:IntKind.i64.wrap ((j:Int)+1 - 1)=(j:Int):=by grind [wr]
  have nG:IntKind.i64.wrap ((j:Int)+1+1)=(j:Int)+1+1:=wr _ oM oM;have rG:l[((j:Int)+1).toNat]? =some y:=awN
  have xR:=hf x y;simp(disch:=omega) only[go_sem,h0,h1,h5,au,hw,hx,rG,kj.d];refine aI xR sG ?_;simp(disch:=omega) only[go_sem,h0,h1,h5,au,hw,nG,hx,rG,kj.d];refine aO (fun c=>?_) (fun c=>?_)
  ·exact arf
  ·exact aqV
 ·exact BY
def L9{α:Type}{p:α->Bool}{l:List α}{j:Nat}{x:α}(hx:l[j]? =some x):(l.take (j+1)).all p=((l.take j).all p&&p x):=by simp_all[ae2]
def YJ(g:ia):mA g=(aX g.f 0 g.t&&decide (g.t<=1114111)&&aX g.w 0 4096):=by unfold mA aX;grind
def U6(f:ij):av prog 349 [f.d] (I (uz f)):=by
 refine fF f349 [] [.tmp 2] ?_;simp(disch:=omega) only[go_sem,ij.d,ij.l];have big:(1024<f.gs.length\/1024<f.ks.length)->bA (I 2) (I (uz f)):=fun h=>aq (aaR I (by simp_all[uz]));refine aW (fun c1=>?_) (fun c1=>?_)
 ·simp(disch:=omega) only[go_sem,c1,abq]
  exact awN
 simp(disch:=omega) only[go_sem,c1,adX,ij.d,ij.l];refine aW (fun c2=>?_) (fun c2=>?_)
 ·simp(disch:=omega) only[go_sem,c2,abq]
  exact awN
 have e:uz f=if aX f.o 0 4096&&f.gs.all mA&&lQ y_ f.gs&&f.ks.all uE&&lQ AB f.ks then 0 else 110:=by unfold uz;grind
 have no:(aX f.o 0 4096&&f.gs.all mA&&lQ y_ f.gs&&f.ks.all uE&&lQ AB f.ks)=false->bA (I 110) (I (uz f)):=fun h=>aq (aaR I awN);have yes:(aX f.o 0 4096&&f.gs.all mA&&lQ y_ f.gs&&f.ks.all uE&&lQ AB f.ks)=true->bA (I 0) (I (uz f)):=fun h=>aq (aaR I awN);clear e big;generalize uz f=r at *;simp(disch:=omega) only[go_sem,c2,adX,ij.d,ij.l];refine aI (Cn _ _ _) sG ?_;simp(disch:=omega) only[go_sem,c2,adX,ij.d,ij.l];refine bB f.gs.length (fun j σ bx=>σ 1= .loc 1 1 0 0/\bx 1=⟨1,1,3,56,[f.d]⟩/\σ 22= .sl 3 (f.gs.map ia.d)/\σ 23=I f.gs.length/\σ 24=I j/\σ 3= .bool (aX f.o 0 4096&&(f.gs.take j).all mA)) ?_ ?_ ?_
 ·exact auH
 ·rintro j σ bx hj ⟨h1,b1,sx,sy,Vh,h3⟩;obtain⟨x,hx⟩:=bk hj;have au:(j:Int)<(f.gs.length:Int):=oM;have hw:IntKind.i64.wrap ((j:Int)+1)=((j+1:Nat):Int):=aR oM;rw[L9 hx,<-alY];generalize(aX f.o 0 4096&&(f.gs.take j).all mA)=b at *;clear no yes;repeat' first|with_reducible apply zJ<;>intro _|with_reducible refine pX (Cn _ _ _) sG ?_|simp(disch:=omega) only[go_sem, *,ia.d]
  all_goals exact aaR D.bool (by simp_all[YJ]<;>(grind))
 rintro σ bx ⟨h1,b1,sx,sy,Vh,h3⟩;have au:¬(f.gs.length:Int)<(f.gs.length:Int):=oM;rw[aaP]at h3;simp(disch:=omega) only[go_sem,h1,b1,sx,sy,Vh,h3,au,ij.d,ij.l];refine bB f.ks.length (fun j σ bx=>σ 1= .loc 1 1 0 0/\bx 1=⟨1,1,3,56,[f.d]⟩/\σ 48= .sl 3 (f.ks.map kj.d)/\σ 49=I f.ks.length/\σ 50=I j/\σ 3= .bool (aX f.o 0 4096&&f.gs.all mA&&(f.ks.take j).all uE)) ?_ ?_ ?_
 ·simp[go_sem,aM,ah,h1,b1,h3]
 ·rintro j σ bx hj ⟨h1,b1,sx,sy,Vh,h3⟩;obtain⟨x,hx⟩:=bk hj;have au:(j:Int)<(f.ks.length:Int):=oM;have hw:IntKind.i64.wrap ((j:Int)+1)=((j+1:Nat):Int):=aR oM;rw[L9 hx,<-alY];generalize(aX f.o 0 4096&&f.gs.all mA&&(f.ks.take j).all uE)=b at *;clear no yes;repeat' first|with_reducible apply zJ<;>intro _|with_reducible refine pX (Cn _ _ _) sG ?_|simp(disch:=omega) only[go_sem, *,kj.d]
  all_goals simp_all[uE]
 rintro σ bx ⟨h1,b1,sx,sy,Vh,h3⟩;have au:¬(f.ks.length:Int)<(f.ks.length:Int):=oM;rw[aaP]at h3;simp(disch:=omega) only[go_sem,h1,b1,sx,sy,Vh,h3,au,ij.d,ij.l];refine aO (fun c3=>?_) (fun c3=>?_)
 rotate_left
 ·simp(disch:=omega) only[go_sem,c3]
  exact awN
 simp only[aas]at c3;obtain⟨⟨c3,c4⟩,c5⟩:=c3;simp(disch:=omega) only[go_sem,h1,b1,c3,c4,c5,ajH,ij.d,ij.l];refine aI (PJ f.gs oM UZ) sG ?_;simp(disch:=omega) only[go_sem,h1,b1,c3,c4,c5,ajH,ij.d,ij.l];refine aO (fun c6=>?_) (fun c6=>?_)
 rotate_left
 ·simp(disch:=omega) only[go_sem,c3,c4,c5,c6,ajH]
  exact awN
 simp(disch:=omega) only[go_sem,h1,b1,c3,c4,c5,c6,ajH,ij.d,ij.l];refine aI (TH f.ks oM U0) sG ?_;simp(disch:=omega) only[go_sem,h1,b1,c3,c4,c5,c6,ajH,ij.d,ij.l];refine aO (fun c7=>?_) (fun c7=>?_)
 ·simp(disch:=omega) only[go_sem,c3,c4,c5,c6,c7,ajH]
  exact awN
 ·simp(disch:=omega) only[go_sem,c3,c4,c5,c6,c7,ajH]
  exact awN
def agT(n a b:Int):av prog 258 [I n,I a,I b] (.bool (aX n a b)):=by
 refine fF f258 [] [.tmp 6] ?_;repeat' first|with_reducible apply zJ<;>intro _|simp(disch:=omega) only[go_sem, *]
 all_goals first|exact .refl _|(refine aq (aaR D.bool ?_);first|(simp(disch:=omega) [*,aX];done)|(simp[aX]at *;omega)|(rw[abu];simp[aX]at *;omega))
def acj(n:Int):av prog 344 [I n] (.bool (aX n 0 63)):=by
 refine fF f344 [] [.tmp 2] ?_;repeat' first|with_reducible apply zJ<;>intro _|simp(disch:=omega) only[go_sem, *]
 all_goals first|exact .refl _|(refine aq (aaR D.bool ?_);first|(simp(disch:=omega) [*,aX];done)|(simp[aX]at *;omega)|(rw[abu];simp[aX]at *;omega))
def agS(l:List Bool)(hl:l.length<=140737488355328):av prog 259 [.sl 1 (l.map D.bool)] (.bool (l.all id)):=by
 refine fF f259 [] [.tmp 2] ?_;simp(disch:=omega) only[go_sem];refine bB l.length (fun j σ bx=>σ 5= .sl 1 (l.map D.bool)/\σ 6=I l.length/\σ 7=I j/\(l.take j).all id=true) ?_ ?_ ?_
 ·exact avB
 ·rintro j σ bx hj ⟨h5,h6,h7,hn⟩;obtain⟨x,hx⟩:=bk hj;have au:(j:Int)<(l.length:Int):=oM;have hw:IntKind.i64.wrap ((j:Int)+1)=((j+1:Nat):Int):=aR oM;simp(disch:=omega) only[go_sem,h5,h6,h7,au,hx];refine aO (fun c=>?_) (fun c=>?_)
  ·simp(disch:=omega) only[go_sem,h5,h6,h7,hw,c];exact X9 hx hn c
  ·simp(disch:=omega) only[go_sem,c];exact aq (aaR D.bool (adN (p:=id) hx c).symm)
 ·rintro σ bx ⟨h5,h6,h7,hn⟩;have au:¬(l.length:Int)<(l.length:Int):=oM;simp(disch:=omega) only[go_sem,h5,h6,h7,au];exact av3
def abL(n:Int):av prog 345 [I n,.bR (.fn (.func 344) []) 0] (.bool (!aX n 0 63)):=by
 refine fF f345 [] [.tmp 3] ?_;repeat' first|with_reducible apply zJ<;>intro _|with_reducible refine pX (acj _) sG ?_|simp(disch:=omega) only[go_sem, *]
 all_goals first|exact .refl _|(refine aq (aaR D.bool ?_);first|(simp(disch:=omega) [*,];done)|(simp[]at *;omega)|(rw[abu];simp[]at *;omega))
def ad9(l:List Int)(hl:l.length<=140737488355328):av prog 343 [ints l,.fn (.func 344) []] (.bool (l.all fun n=>aX n 0 63)):=by
 have hc:=Vp (f:=345) (caps:=[.bR (.fn (.func 344) []) 0]) (p:=fun n=> !aX n 0 63) l hl (fun n _=>abL n) (fun x=>rfl) rfl;refine fF f343 [] [.tmp 4] ?_;simp(disch:=omega) only[go_sem,ints];refine lx hc arl rfl ?_;simp(disch:=omega) only[go_sem,DG];exact .refl _
def FC(v:aV):Bool:=aX v.room 1 1099511627776&&decide (uz v.bq=0)&&decide (v.cz.length=0)
def Z4(v:aV):av prog 346 [v.d] (.bool (FC v)):=by
 have hc:=U6 v.bq;refine fF f346 [] [.tmp 2] ?_;repeat' first|with_reducible apply zJ<;>intro _|with_reducible refine pX (hc) sG ?_|simp(disch:=omega) only[go_sem, *,aV.d,ij.d,ij.l]
 all_goals (refine aq (aaR D.bool ?_);unfold FC aX;grind)
end Go.V.St
