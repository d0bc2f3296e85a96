/- Lemmas on plain data and programs: part B31. -/
import Derived.Test.YtkknfajchefgaaaGreatDoorB24
import Derived.Test.YtkknfajchefgaaaGreatDoorB30
set_option linter.all false
set_option maxHeartbeats 8000000
set_option maxRecDepth 100000
namespace Go.V.Rp
open Go.Proofs Go.RowKit Go.V.Lx Go.V.Gr Go.V.Ty Go.V.St
noncomputable def rq(g:aA):ae:=(eb (cN g 0)).1
noncomputable def ma(s:ae):Option aA:=open Classical in if(cF s).2.2=0/\eb (cF s).1=(s,0)/\(bF (cF s).1).2=0 then some (bF (cF s).1).1 else none
noncomputable def par:j9:=⟨rq,ma,dG,nI,tc⟩
def Ff{α:Type}{f:α->α}{l:List α}(h:∀x∈l,f x=x):l.map f=l:=by
 conv=>rhs;rw[<-aqx l]
 exact ad8 h
def Jn{g:aA}(h:wf g):cN g 0=g:=by
 obtain⟨_,_,_,h4,h5,h6⟩:=h;have e1:g.entries.map (sg 0)=g.entries:=Ff fun x hx=>by
  have:=(h5 x hx).2.2.1;cases x;simp only at this;subst this;rfl
 have e2:g.rules.map (gj 0)=g.rules:=Ff fun x hx=>by
  have h1:=(h6 x hx).2.1;have h2:x.parts.map (vW 0)=x.parts:=Ff fun q hq=>by
   have:=((h6 x hx).2.2.2.1 q hq).1;cases q;simp only at this;subst this;rfl
  unfold gj;rw[h2];cases x
  exact awN
 unfold cN;rw[e1,e2];cases g
 exact awN
def wY{s:ae}{g:aA}(h:ma s=some g):(cF s).2.2=0/\eb (cF s).1=(s,0)/\(bF (cF s).1).2=0/\g=(bF (cF s).1).1:=by
 unfold ma at h
 exact awN
def WG{s:ae}(h:(cF s).2.2=0):s.length<=65536:=by
 rcases uI s with⟨hs,_⟩|⟨hs,_⟩|⟨a,e,_,he,hp⟩
 ·exact hs
 ·exact hs
 ·rw[hp]at h;exact absurd h he
def aia{s:ae}{g:aA}(h:ma s=some g):rq g=s:=by
 obtain⟨h1,h2,h3,rfl⟩:=wY h;unfold rq;rw[ni h3,Af,Jn (yb h1).1.2,h2]
def ah_{g:aA}(hc:jm g=0)(hp:(eb (cN g 0)).2=0)(hl:(eb (cN g 0)).1.length<=65536):ma (rq g)=some g:=by
 have ok:zL (cN g 0):=ae5 fun h=>by grind [WL]
 have e:=KS ok;rw[e]at hl;have pb:=Tv ok hl;have r0:(bF g).2=0:=ae5 fun h=>h ((Mr h).symm.trans hc);have hs:=(UD r0).1.1 hc;unfold ma rq;rw[e];simp only;rw[pb];simp only;rw[aaO ⟨trivial,e,by rw[De];exact r0⟩,De,ni r0,hs]
theorem Q9{c:UInt8}(hc:c≠32):∀ {l:List ae},(∀x∈l,c∉x)->c∉lF l
 |[],_=>by
  have:lF []=[]:=rfl
  exact awN
 |[x],h=>by simp_all[px]
 |x::y::l,h=>by
  rw[lW,abr,aaQ];rintro(h1|h1|h1)
  ·exact awN
  ·exact hc h1
  ·exact Q9 hc (fun z hz=>h z (aa2 _ hz)) h1
theorem Rq(c:UInt8):(!kC c||(decide (c.toNat<128)&& !qD (c.toNat:Int)))=true:=adH (p:=fun c=> !kC c||(decide (c.toNat<128)&& !qD (c.toNat:Int))) avT c
def KB{s:ae}(h:iP s=true):s≠[]/\s.length<=32/\∀c∈s,kC c=true:=by
 unfold iP at h
 exact awN
def adl{x:Tk}(h:cg x=true):(10:UInt8)∉word x:=by
 unfold cg at h;unfold word;by_cases h2:x.k=2
 ·rw[aaw oM,aaO h2]at h;simp only[aas,aaH]at h;rw[aaO h2];exact Ip (AQ ⟨h.1.2,h.2⟩).2 awL
 rw[aaw h2];rw[aaw h2]at h;by_cases h1:x.k=1
 ·rw[aaO h1]at h;simp only[aas]at h;intro hm;have:=Rq 10;rw[(KB h.1).2.2 10 hm]at this;revert this;exact awL
 ·rw[aaw h1]at h;intro hm;cases ht:x.t with
  |nil=>grind
  |cons c l=>
   cases l<;>grind [pz,ad5]
def aib{s:ae}{g:aA}(h:ma s=some g):(10:UInt8)∉s:=by
 obtain⟨h1,h2,_,_⟩:=wY h;have ok:=(yb h1).1;have e:=KS ok;rw[h2]at e;injection e with e _;rw[e];refine Q9 awL fun x hx=>?_;obtain⟨t,t1,rfl⟩:=aa1.1 hx;exact adl (aaI.1 ok.1 t t1)
theorem mI:par.yQ where
 g1 _ _ h:=aia h
 w1 _ h:=RS h awL awL
 t1 _ _ h:=ajw h
 n1 _ h:=(AQ h).1
 n2 _ h:=Ip (AQ h).2 awL
 g2 _ _ h:=aib h
 w2 _ h:=RS h awL awL
 n3 _ h:=Ip (AQ h).2 awL
theorem JP:∀s:ae,(∀c∈s,c.toNat<128)->enc (s.map fun c=>(c.toNat:Int))=s
 |[],_=>rfl
 |c::s,h=>by
  show bw ((c.toNat:Int).toNat)++enc (s.map fun c=>(c.toNat:Int))=_;rw[JP s fun d hd=>h d (aa2 _ hd),ae3,bw,aaO (h c (aeY ..)),UInt8.ofNat_toNat];rfl
def Wn{s:ae}(h:iP s=true):dG s=true:=by
 obtain⟨h1,h2,h3⟩:=KB h;have fact:∀c∈s,c.toNat<128/\qD (c.toNat:Int)=false:=fun c hc=>by grind [Rq]
 have e:=JP s fun c hc=>(fact c hc).1;have hp:(s.map fun c=>(c.toNat:Int)).all fJ=true:=aaI.2 fun n hn=>by
  obtain⟨c,c1,rfl⟩:=aa1.1 hn
  grind [gH]
 have pe:=I6 _ hp;rw[e]at pe;have hl:0<s.length:=aev.2 h1;have r:iA s=(s.map fun c=>(c.toNat:Int),0):=by rw[yh,aaw oM,pe];rfl
 unfold dG;rw[r];simp only[aas,aaH,ae_]
 exact awN
end Go.V.Rp
