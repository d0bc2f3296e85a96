/- Plain laws: VE. -/
import Derived.Test.YtkgloohlmogakaaGreatDoorVC
import Derived.ChangeSame
import Derived.Below
import Derived.ReadAgain
import Derived.Deep.Slices
import Derived.ProofKit
import Derived.OpenShut
set_option linter.all false
set_option maxHeartbeats 8000000
namespace Go.V
open Go.RowKit Go.WideShapes Go.ChangeShapes
inductive Sh where
 |int (k:IntKind)
 |bool
 |str
 |slice (sz:Nat) (e:Sh)
 |agg (fs:List Sh)
mutual
def Sh.bT:Sh->Nat
 | .agg fs=>Sh.wM fs
 |_=>1
def Sh.wM:List Sh->Nat
 |[]=>0
 |f::fs=>f.bT+Sh.wM fs
end
def BW(P:Program)(sh:TypeId->Option Sh):Nat->List Field->Option (List Sh)
 |_,[]=>some []
 |o,f::fs=>match sh f.type with
  |some s=>if f.offset=o/\P.cellsOf f.type=s.bT then(BW P sh (o+s.bT) fs).map (s::·)else none
  |none=>none
def sj(P:Program):Nat->TypeId->Option Sh
 |0,_=>none
 |n+1,t=>match P.underlying t with
  |some .bool=>some .bool
  |some (.int k)=>some (.int k)
  |some .string=>some .str
  |some (.slice e)=>match sj P n e with
   |some s=>if P.cellsOf e=s.bT/\0<s.bT/\0<P.bytesOf e then some (.slice s.bT s)else none
   |none=>none
  |some (.struct fs)=>match BW P (sj P n) 0 fs.toList with
   |some l=>if P.cellsOf t=Sh.wM l then some (.agg l)else none
   |none=>none
  |some (.array k e)=>match sj P n e with
   |some s=>if P.cellsOf e=s.bT/\P.cellsOf t=k * s.bT then some (.agg (List.replicate k s))else none
   |none=>none
  |_=>none
def DE(P:Program)(n:Nat):List TypeId->Option (List Sh)
 |[]=>some []
 |t::ts=>match sj P n t,DE P n ts with
  |some s,some ss=>some (s::ss)
  |_,_=>none
def Sh.pack:Sh->List D->D
 | .agg _,ys=> .agg ys
 |_,ys=>ys.headD .undef
mutual
def Sh.bX:Sh->List D->Prop
 | .int k,cs=>∃n,cs=[.int k n]/\(Lit.int k n).wf=true
 | .bool,cs=>∃b,cs=[.bool b]
 | .str,cs=>∃s,cs=[.str s]/\s.length<=reachBytes
 | .slice sz e,cs=>∃es,cs=[.sl sz es]/\es.length<=reachBytes/\∀x∈es,∃ys,x=e.pack ys/\e.bX ys
 | .agg fs,cs=>Sh.iz fs cs
def Sh.iz:List Sh->List D->Prop
 |[],cs=>cs=[]
 |f::fs,cs=>∃a b,cs=a++b/\f.bX a/\Sh.iz fs b
end
def Sh.has(s:Sh)(d:D):Prop:=∃ys,d=s.pack ys/\s.bX ys
theorem Sh.xj{s:Sh}{ys:List D}(h:s.bX ys):(s.pack ys).cells=ys:=by
 cases s with
 |agg fs=>rfl
 |int k=>simp only[Sh.bX]at h;obtain⟨n,rfl,_⟩:=h;rfl
 |bool=>simp only[Sh.bX]at h;obtain⟨n,rfl⟩:=h;rfl
 |str=>simp only[Sh.bX]at h;obtain⟨n,rfl,_⟩:=h;rfl
 |slice sz e=>simp only[Sh.bX]at h;obtain⟨n,rfl,_⟩:=h;rfl
mutual
def D.bulk:D->Nat
 | .str s=>s.length+1
 | .sl _ es=>D.dG es+1
 | .agg xs=>D.dG xs
 |_=>1
def D.dG:List D->Nat
 |[]=>0
 |x::xs=>x.bulk+D.dG xs
end
theorem yp:∀a b:List D,D.dG (a++b)=D.dG a+D.dG b
 |[],b=>by simp[D.dG]
 |x::a,b=>by rw[List.cons_append,D.dG,D.dG,yp a b];omega
theorem rC{x:D}:∀ {l:List D},x∈l->x.bulk<=D.dG l
 |y::l,h=>by
  rw[D.dG];rcases List.mem_cons.1 h with rfl|h
  ·omega
  ·have:=rC h;omega
theorem ED{α:Type}{g:α->D}{k:α->Nat}:∀ {l:List α},(∀x∈l,(g x).bulk<=k x)->D.dG (l.map g)<=(l.map k).sum
 |[],_=>Nat.le_refl _
 |x::l,h=>by
  rw[mC,mC,D.dG,List.sum_cons];have:=h x (List.mem_cons_self ..);have:=ED fun y hy=>h y (List.mem_cons_of_mem _ hy);omega
structure Cb{H:Type}(B:DataW H->Nat):Prop where
 one:∀d,1<=B d
 str:∀s,s.length+1<=B (.lit (.string s))
 slice:∀es sp,(es.map B).sum+1<=B (.slice es sp)
 agg:∀ps,(ps.map B).sum<=B (.agg ps)
theorem Sh.Fy{s:Sh}{ys:List D}(h:s.bX ys):(s.pack ys).bulk=D.dG ys:=by
 cases s with
 |agg fs=>rfl
 |int k=>simp only[Sh.bX]at h;obtain⟨n,rfl,_⟩:=h;rfl
 |bool=>simp only[Sh.bX]at h;obtain⟨n,rfl⟩:=h;rfl
 |str=>simp only[Sh.bX]at h;obtain⟨n,rfl,_⟩:=h;rfl
 |slice sz e=>simp only[Sh.bX]at h;obtain⟨n,rfl,_⟩:=h;rfl
section
variable {H:Type} {enc:TypeId×Value->H} {P:Program} {w:World} {base:Nat} {held:Bool} {B:DataW H->Nat}
def jc(w:World)(ds:List D)(cs:List Value):Prop:=
 ds.length=cs.length/\∀(j:Nat) c,ds[j]? =some c->∃u,cs[j]? =some u/\bB w (fun b=>b<w.heap.size) c u/\u.oneCell'=true
theorem jc.one{d:D}{u:Value}(h:bB w (fun b=>b<w.heap.size) d u)(h1:u.oneCell'=true):jc w [d] [u]:=
 ⟨rfl,fun j c hj=>by
  cases j with
  |zero=>simp only[List.getElem?_cons_zero,sJ]at hj;subst hj;exact⟨u,rfl,h,h1⟩
  |succ j=>simp at hj⟩
theorem jc.append{ds es:List D}{cs us:List Value}(h:jc w ds cs)(k:jc w es us):jc w (ds++es) (cs++us):=by
 refine⟨by simp[h.1,k.1],fun j c hj=>?_⟩;by_cases ar:j<ds.length
 ·rw[List.getElem?_append_left ar]at hj;rw[List.getElem?_append_left (by rw[<-h.1];exact ar)];exact h.2 j c hj
 ·rw[List.getElem?_append_right oM]at hj;rw[List.getElem?_append_right (by rw[<-h.1];omega),<-h.1];exact k.2 _ c hj
def wB(P:Program)(t:TypeId)(d:DataW H):Prop:=∀k∈d.weights P t,k<=reachBytes
theorem rb{e:TypeId}{k:Nat}:∀ {l:List (DataW H)} {d:DataW H},d∈l->k∈d.weights P e->k∈DataW.weightsAll P e l
 |x::l,d,h,hk=>by
  simp only[DataW.weightsAll,List.mem_append];rcases List.mem_cons.1 h with rfl|h
  ·exact .inl hk
  ·exact .inr (rb h hk)
theorem qt{k:Nat}:∀ {ts:List TypeId} {ds:List (DataW H)} {i:Nat} {t:TypeId} {d:DataW H},ts[i]? =some t->ds[i]? =some d->k∈d.weights P t->k∈DataW.weightsEach P ts ds
 |[],ds,i,t,d,h,_,_=>by simp at h
 |_::_,[],i,t,d,_,h,_=>by simp at h
 |t'::ts,d'::ds,0,t,d,h1,h2,hk=>by
  simp at h1 h2;subst h1;subst h2;simp only[DataW.weightsEach,List.mem_append];exact .inl hk
 |t'::ts,d'::ds,i+1,t,d,h1,h2,hk=>by
  simp only[DataW.weightsEach,List.mem_append];exact .inr (qt (by simpa using h1) (by simpa using h2) hk)
def H5{r:Reach}{b0 k:Nat}{t e:TypeId}{v:Value}(ht:P.underlying t=some (.array k e))(h:Value.okWide P w r b0 t v):∃cs,v= .agg cs/\cs.size=P.cellsOf t:=by
 simp only[Value.okWide,ht]at h;obtain⟨cs,h1,h2,_⟩:=h;exact⟨cs,h1,h2⟩
theorem GF(s:Sh):∀k,Sh.wM (List.replicate k s)=k * s.bT
 |0=>by simp[Sh.wM]
 |k+1=>by rw[List.replicate_succ,Sh.wM,GF s k,Nat.succ_mul];omega
theorem th(hB:Cb B):∀(n:Nat) (t:TypeId) (s:Sh) (fuel:Nat) (cs:List Value) (x:DataW H×List MemPlace),sj P n t=some s->DataW.trod enc P w base (fun _=>true) held fuel t cs=some x->wB P t x.1->
 ∃ds,s.bX ds/\jc w ds cs/\cs.length=s.bT/\D.dG ds<=B x.1
 |0,_,_,_,_,_,h,_,_=>by simp[sj]at h
 |n+1,t,s,fuel,cs,x,h,ht,uV=>by
  simp only[sj]at h;split at h
  ·rename_i hu;injection h with h;subst h;obtain⟨b,rfl,_⟩:=DataW.trod_bool hu ht;exact⟨[.bool b],⟨b,rfl⟩,.one (.bool b) rfl,rfl,hB.one _⟩
  ·rename_i k hu;injection h with h;subst h;obtain⟨i,rfl,_,hw⟩:=DataW.trod_int hu ht;exact⟨[.int k i],⟨i,rfl,hw⟩,.one (.int k i) rfl,rfl,hB.one _⟩
  ·rename_i hu;injection h with h;subst h;obtain⟨b,rfl,rfl,hl⟩:=DataW.trod_string hu ht;exact⟨[.str b.data.toList],⟨b.data.toList,rfl,uV _ (by simp[DataW.weights])⟩,.one (.str b.data.toList) rfl,rfl,hB.str _⟩
  ·rename_i e hu;split at h
   ·rename_i se gq;split at h
    ·rename_i hc;obtain⟨hce,eM,ZT⟩:=hc;injection h with h;subst h;rcases Go.Deep.open_slice hu ht with⟨rfl,_⟩|⟨a,len,cap,m,nn,Dx,Pl,rfl,hb,rK,pZ,hm,hx,hi⟩
     ·exact⟨[.sl se.bT []],⟨[],rfl,Nat.zero_le _,fun _ h=>by cases h⟩,.one (.sl (b:=0) (off:=0) (us:=fun _ _=>undef) rfl (Nat.le_refl _) (Nat.zero_le _) (fun h=>absurd rfl h) sI sI sI sI) rfl,rfl,hB.one _⟩
     ·simp only[if_true]at hm;subst hm;subst hx;have hlen:len<=reachBytes:=by
       have h1:=uV ((len+(m - len)) * P.bytesOf e) (by simp[DataW.weights,hu]);have h2:(len+(m - len)) * 1<=(len+(m - len)) * P.bytesOf e:=Nat.mul_le_mul_left _ ZT;omega
      have ar:∀i,i<len->wB P e (Dx i):=fun i hi k hk=>uV k (by
       simp only[DataW.weights,hu,List.mem_cons,List.mem_append];exact .inr (.inl (rb (List.mem_map.2 ⟨i,List.mem_range.2 hi,rfl⟩) hk)))
      have er:∀i,i<len->∃ds oK,se.bX ds/\jc w ds oK/\oK.length=se.bT/\(∀j,j<se.bT->w.cell? ((a.add (i * se.bT)).add j)=oK[j]?)/\D.dG ds<=B (Dx i):=by
       intro i jG;obtain⟨oK,eW,htr⟩:=hi i oM;obtain⟨ds,h1,h2,h3,h4⟩:=th hB n e se _ _ _ gq htr (ar i jG);rw[hce]at eW;obtain⟨_,fL,fS⟩:=World.cells?_some eW;exact⟨ds,oK,h1,h2,h3,fS,h4⟩
      have Z2:∃f:Nat->List D,∀i,i<len->∃oK,se.bX (f i)/\jc w (f i) oK/\oK.length=se.bT/\(∀j,j<se.bT->w.cell? ((a.add (i * se.bT)).add j)=oK[j]?)/\D.dG (f i)<=B (Dx i):=by
       refine⟨fun i=>if hl:i<len then Classical.choose (er i hl)else[],fun i hl=>?_⟩;simp only[hl,dif_pos];exact Classical.choose_spec (er i hl)
      obtain⟨f,xU⟩:=Z2;have hf:∀i,i<len->∃oK,se.bX (f i)/\jc w (f i) oK/\oK.length=se.bT/\∀j,j<se.bT->w.cell? ((a.add (i * se.bT)).add j)=oK[j]?:=fun i hi=>by
       obtain⟨oK,h1,h2,h3,h4,_⟩:=xU i hi;exact⟨oK,h1,h2,h3,h4⟩
      have hfb:∀i,i<len->(se.pack (f i)).bulk<=B (Dx i):=fun i hi=>by
       obtain⟨oK,h1,_,_,_,h5⟩:=xU i hi;rw[Sh.Fy h1];exact h5
      have ez:∀(i:Nat) d,((List.range len).map fun i=>se.pack (f i))[i]? =some d->i<len/\d=se.pack (f i):=by
       intro i d hd;rw[gM,mS]at hd;obtain⟨k,hk,rfl⟩:=hd;have ar:=(gS.1 hk).1;rw[List.length_range]at ar;rw[List.getElem?_range ar]at hk;injection hk with hk;subst hk;exact⟨ar,rfl⟩
      have jx:∀(i:Nat) d (j:Nat) c,((List.range len).map fun i=>se.pack (f i))[i]? =some d->d.cells[j]? =some c->∃u,w.cell? ⟨a.block,a.off+i * se.bT+j,Option.none⟩=some u/\a.spot=Option.none/\a.block<w.heap.size/\bB w (fun b=>b<w.heap.size) c u/\u.oneCell'=true:=by
       intro i d j c hd hj;obtain⟨jG,rfl⟩:=ez i d hd;obtain⟨oK,h1,h2,h3,h4⟩:=hf i jG;rw[Sh.xj h1]at hj;obtain⟨u,hu,hp,fj⟩:=h2.2 j c hj;have qa:j<se.bT:=by have:=(gS.1 hu).1;omega
       have hw:=(h4 j qa).trans hu;have vZ:a.spot=Option.none:=by
        obtain⟨cs0,k1,k2,k3,k4⟩:=hf 0 oM;have k5:=k4 0 eM;rw[Nat.zero_mul]at k5;have k6:(a.add 0).add 0=a:=by simp[Addr.add]
        rw[k6,gE (show 0<cs0.length by omega)]at k5;unfold World.cell? at k5;split at k5
        ·split at k5
         ·cases k5
         ·rename_i hs;simpa using hs
        ·cases k5
       have Lu:(a.add (i * se.bT)).add j=⟨a.block,a.off+i * se.bT+j,Option.none⟩:=by
        obtain⟨b,o,sp⟩:=a;simp only at vZ;subst vZ;rw[Addr.ei,Addr.ei]
       rw[Lu]at hw;refine⟨u,hw,vZ,?_,hp,fj⟩;unfold World.cell? at hw;split at hw
       ·rename_i hg;exact(Array.getElem?_eq_some_iff.1 hg).1
       ·cases hw
      have gB:∀(i:Nat) d (j:Nat) c,((List.range len).map fun i=>se.pack (f i))[i]? =some d->d.cells[j]? =some c->w.cell? ⟨a.block,a.off+i * se.bT+j,Option.none⟩=some ((w.cell? ⟨a.block,a.off+i * se.bT+j,Option.none⟩).getD undef)/\
       bB w (fun b=>b<w.heap.size) c ((w.cell? ⟨a.block,a.off+i * se.bT+j,Option.none⟩).getD undef)/\((w.cell? ⟨a.block,a.off+i * se.bT+j,Option.none⟩).getD undef).oneCell'=true:=by
       intro i d j c hd hj;obtain⟨u,h1,_,_,h2,h3⟩:=jx i d j c hd hj;rw[h1];exact⟨rfl,h2,h3⟩
      refine⟨[.sl se.bT ((List.range len).map fun i=>se.pack (f i))],⟨_,rfl,by simpa using hlen,fun y hy=>?_⟩,.one (.sl (b:=a.block) (off:=a.off) (us:=fun i j=>(w.cell? ⟨a.block,a.off+i * se.bT+j,Option.none⟩).getD undef) sI rK pZ (fun bw=>?_) (fun i d hd=>?_) (fun i d j c hi hj=>(gB i d j c hi hj).1) (fun i d j c hi hj=>(gB i d j c hi hj).2.2) (fun i d j c hi hj=>(gB i d j c hi hj).2.1)) rfl,rfl,?_⟩
      ·obtain⟨i,hi,rfl⟩:=List.mem_map.1 hy;obtain⟨oK,h1,_⟩:=hf i (List.mem_range.1 hi);exact⟨f i,rfl,h1⟩
      ·have AR:0<len:=by
        rcases Nat.eq_zero_or_pos len with h0|h0
        ·subst h0;simp at bw
        ·exact h0
       have ni:((List.range len).map fun i=>se.pack (f i))[0]? =some (se.pack (f 0)):=by rw[gM,List.getElem?_range AR];rfl
       obtain⟨oK,h1,h2,h3,_⟩:=hf 0 AR;have hlen:0<(se.pack (f 0)).cells.length:=by rw[Sh.xj h1,h2.1,h3];exact eM
       obtain⟨u,_,vZ,Sa,_⟩:=jx 0 _ 0 _ ni (gE hlen);refine⟨?_,Sa⟩;obtain⟨b,o,sp⟩:=a;simp only at vZ;subst vZ;rfl
      ·obtain⟨jG,rfl⟩:=ez i d hd;obtain⟨oK,h1,h2,h3,_⟩:=hf i jG;rw[Sh.xj h1,h2.1,h3]
      ·refine Nat.le_trans ?_ (hB.slice _ _);have h1:=ED (g:=fun i=>se.pack (f i)) (k:=fun i=>B (Dx i)) (l:=List.range len) fun i hi=>hfb i (List.mem_range.1 hi);rw[List.map_map];simp only[D.dG,D.bulk];exact Nat.succ_le_succ h1
    ·cases h
   ·cases h
  ·rename_i fs hu;split at h
   ·rename_i l hl;split at h
    ·rename_i hc;injection h with h;subst h;obtain⟨xs,m,_,W8,fL,lA,hf⟩:=DataW.trod_struct hu ht;subst W8;have ar:∀(i:Nat) (f:Field) (x:DataW H×List MemPlace),fs[i]? =some f->xs[i]? =some x->wB P f.type x.1:=fun i f x h1 h2 k hk=>uV k (by
      simp only[DataW.weights,hu];exact qt (i:=i) (by rw[gM,aG,h1];rfl) (by rw[gM,h2];rfl) hk)
     have key:∀(F:List Field) (o:Nat) (l:List Sh) (cs:List Value) (X:List (DataW H)),BW P (sj P n) o F=some l->cs.length=Sh.wM l->(∀(i:Nat) (f:Field),F[i]? =some f->∃x,X[i]? =some x.1/\DataW.trod enc P w base (fun _=>true) held m f.type ((cs.drop (f.offset - o)).take (P.cellsOf f.type))=some x/\wB P f.type x.1)->
      ∃ds,Sh.iz l ds/\jc w ds cs/\D.dG ds<=(X.map B).sum:=by
      intro F;induction F with
      |nil=>
       intro o l cs X hl eW _;simp only[BW,sJ]at hl;subst hl;simp only[Sh.wM]at eW;obtain rfl:=List.eq_nil_of_length_eq_zero eW;exact⟨[],rfl,⟨rfl,fun j c hj=>by simp at hj⟩,Nat.zero_le _⟩
      |cons f F ih=>
       intro o l cs X hl eW hf;simp only[BW]at hl;split at hl
       ·rename_i s hs;split at hl
        ·rename_i ho;rw[mS]at hl;obtain⟨l',xX,rfl⟩:=hl;simp only[Sh.wM]at eW;obtain⟨x,hX,hx,QR⟩:=hf 0 f rfl;obtain⟨X',rfl⟩:∃X',X=x.1::X':=by
          cases X with
          |nil=>simp at hX
          |cons y X'=>simp at hX;subst hX;exact⟨X',rfl⟩
         rw[ho.1,Nat.sub_self,List.drop_zero,ho.2]at hx;obtain⟨a,h1,h2,h3,h4⟩:=th hB n f.type s m _ _ hs hx QR;obtain⟨b,k1,k2,k3⟩:=ih (o+s.bT) l' (cs.drop s.bT) X' xX (by simp;omega) (fun i g hg=>by
          obtain⟨y,hY,hy,lB⟩:=hf (i+1) g (by simpa using hg);refine⟨y,by simpa using hY,?_,lB⟩;have dY:o+s.bT<=g.offset:=by
           have:∀(F:List Field) (o:Nat) (l:List Sh),BW P (sj P n) o F=some l->∀g∈F,o<=g.offset:=by
            intro F;induction F with
            |nil=>intro o l _ g hg;cases hg
            |cons f F ih2=>
             intro o l hl g hg;simp only[BW]at hl;split at hl
             ·split at hl
              ·rename_i tV;rw[mS]at hl;obtain⟨l2,kO,_⟩:=hl;rcases List.mem_cons.1 hg with rfl|hg
               ·omega
               ·have:=ih2 _ _ kO g hg;omega
              ·cases hl
             ·cases hl
           exact this F _ _ xX g (mG hg)
          rw[List.drop_drop];have:s.bT+(g.offset - (o+s.bT))=g.offset - o:=oM;rw[this];exact hy)
         refine⟨a++b,⟨a,b,rfl,h1,k1⟩,?_,by rw[yp,mC,List.sum_cons];omega⟩;have:=h2.append k2;rw[List.take_append_drop]at this;exact this
        ·cases hl
       ·cases hl
     obtain⟨ds,h1,h2,h3⟩:=key fs.toList 0 l cs (xs.map (·.1)) hl (by rw[fL,hc]) (fun i f hfi=>by
      rw[Nat.sub_zero];have dN:fs[i]? =some f:=by rw[<-aG];exact hfi
      have Bu:i<xs.length:=by rw[lA];exact(Array.getElem?_eq_some_iff.1 dN).1
      exact⟨xs[i],by rw[gM,gE Bu];rfl,by rw[hf i f dN];exact gE Bu,ar i f xs[i] dN (gE Bu)⟩)
     exact⟨ds,h1,h2,by rw[fL,hc];simp[Sh.bT],Nat.le_trans h3 (hB.agg _)⟩
    ·cases h
   ·cases h
  ·rename_i k e hu;split at h
   ·rename_i se gq;split at h
    ·rename_i hc;injection h with h;subst h;obtain⟨xs,m,_,W8,fL,lA,fS⟩:=DataW.trod_array hu ht;subst W8;rw[hc.2]at fL;have key:∀(X:List (DataW H×List MemPlace)) (cs:List Value),cs.length=X.length * se.bT->(∀(i:Nat) x,X[i]? =some x->DataW.trod enc P w base (fun _=>true) held m e ((cs.drop (i * se.bT)).take se.bT)=some x/\wB P e x.1)->
      ∃ds,Sh.iz (List.replicate X.length se) ds/\jc w ds cs/\D.dG ds<=((X.map (·.1)).map B).sum:=by
      intro X;induction X with
      |nil=>
       intro cs eW _;rw[List.length_nil,Nat.zero_mul]at eW;obtain rfl:=List.eq_nil_of_length_eq_zero eW;exact⟨[],rfl,⟨rfl,fun j c hj=>by simp at hj⟩,Nat.zero_le _⟩
      |cons x X ih=>
       intro cs eW hf;rw[List.length_cons,Nat.succ_mul]at eW;obtain⟨hx,QR⟩:=hf 0 x rfl;rw[Nat.zero_mul,List.drop_zero]at hx;obtain⟨a,h1,h2,h3,h4⟩:=th hB n e se m _ _ gq hx QR;obtain⟨b,k1,k2,k3⟩:=ih (cs.drop se.bT) (by rw[List.length_drop];omega) (fun i y hy=>by
        obtain⟨g1,g2⟩:=hf (i+1) y (by simpa using hy);refine⟨?_,g2⟩;rw[List.drop_drop,show se.bT+i * se.bT=(i+1) * se.bT by rw[Nat.succ_mul];omega];exact g1)
       refine⟨a++b,?_,?_,by rw[yp,mC,mC,List.sum_cons];omega⟩
       ·rw[List.length_cons,List.replicate_succ];exact⟨a,b,rfl,h1,k1⟩
       ·have:=h2.append k2;rw[List.take_append_drop]at this;exact this
     obtain⟨ds,h1,h2,h3⟩:=key xs cs (by rw[fL,lA]) (fun i x hx=>by
      have ar:=(gS.1 hx).1;refine⟨by rw[<-hc.1,fS i oM];exact hx,fun k hk=>uV k ?_⟩;simp only[DataW.weights,hu];exact rb (List.mem_map.2 ⟨x,mG hx,rfl⟩) hk)
     rw[lA]at h1;exact⟨ds,h1,h2,by rw[fL,Sh.bT,GF],Nat.le_trans h3 (hB.agg _)⟩
    ·cases h
   ·cases h
  ·cases h
def Ry(hB:Cb B){r:Reach}{b0:Nat}{n:Nat}{t:TypeId}{s:Sh}{v:Value}{d:DataW H}{ps:List MemPlace}(hs:sj P n t=some s)(bC:Value.okWide P w r b0 t v)(h:DataW.Trod enc P w base (fun _=>true) held t v d ps)(uV:wB P t d):
 ∃x,s.has x/\x.bulk<=B d/\bB w (fun b=>b<w.heap.size) x v:=by
 obtain⟨fuel,hf⟩:=h;obtain⟨ds,h1,h2,h3,h4⟩:=th hB n t s fuel _ _ hs hf uV;refine⟨s.pack ds,⟨ds,rfl,h1⟩,by rw[Sh.Fy h1];exact h4,?_⟩;cases n with
 |zero=>simp[sj]at hs
 |succ n=>
  simp only[sj]at hs;have single:∀y,ds=[y]->v.cells= #[v]->bB w (fun b=>b<w.heap.size) y v:=by
   intro y hy hc;subst hy;obtain⟨u,hu,hp,_⟩:=h2.2 0 y rfl;rw[hc]at hu;simp only[List.getElem?_cons_zero,sJ]at hu;subst hu;exact hp
  split at hs
  ·rename_i hu;injection hs with hs;subst hs;obtain⟨b,rfl⟩:=okWide_bool hu bC;simp only[Sh.bX]at h1;obtain⟨b',rfl⟩:=h1;exact single _ rfl rfl
  ·rename_i k hu;injection hs with hs;subst hs;obtain⟨b,rfl⟩:=okWide_int hu bC;simp only[Sh.bX]at h1;obtain⟨b',rfl,_⟩:=h1;exact single _ rfl rfl
  ·rename_i hu;injection hs with hs;subst hs;obtain⟨b,rfl⟩:=okWide_string hu bC;simp only[Sh.bX]at h1;obtain⟨b',rfl,_⟩:=h1;exact single _ rfl rfl
  ·rename_i e hu;split at hs
   ·split at hs
    ·injection hs with hs;subst hs;obtain⟨a,l,c,rfl⟩:=okWide_slice hu bC;simp only[Sh.bX]at h1;obtain⟨b',rfl,_⟩:=h1;exact single _ rfl rfl
    ·cases hs
   ·cases hs
  ·rename_i fs hu;split at hs
   ·split at hs
    ·injection hs with hs;subst hs;obtain⟨cs,rfl,bP⟩:=okWide_struct hu bC;refine .agg (by have:=h2.1;simp only[Value.cells,Array.length_toList]at this;exact this.symm) fun i x u hx gu=>?_;obtain⟨u',lM,hp,_⟩:=h2.2 i x hx;simp only[Value.cells,aG]at lM;rw[lM]at gu;injection gu with gu;subst gu;exact hp
    ·cases hs
   ·cases hs
  ·rename_i k e hu;split at hs
   ·split at hs
    ·injection hs with hs;subst hs;obtain⟨cs,rfl,bP⟩:=H5 hu bC;refine .agg (by have:=h2.1;simp only[Value.cells,Array.length_toList]at this;exact this.symm) fun i x u hx gu=>?_;obtain⟨u',lM,hp,_⟩:=h2.2 i x hx;simp only[Value.cells,aG]at lM;rw[lM]at gu;injection gu with gu;subst gu;exact hp
    ·cases hs
   ·cases hs
  ·cases hs
end
end Go.V
namespace Go.V
open Go.RowKit Go.WideShapes Go.ChangeShapes Go.ChangeAt
section
variable {H:Type} {enc:TypeId×Value->H} {P:Program} {w w':World} {B:DataW H->Nat}
theorem yi{base:Nat}{sp:Nat->Bool}{held:Bool}(hb:Below w.heap.size w w'):∀ {ts:List TypeId} {vs:List Value} {ds:List (DataW H)} {ps:List MemPlace},DataW.TrodAll enc P w base sp held ts vs ds ps->DataW.TrodAll enc P w' base sp held ts vs ds ps
 |[],vs,ds,ps,h=>by
  obtain⟨rfl,rfl,rfl⟩:=trodAll_nil h;rfl
 |t::ts,vs,ds,ps,h=>by
  obtain⟨v,fi,d,ds',p,q,rfl,rfl,rfl,⟨n,hn⟩,h2⟩:=trodAll_cons h;exact trodAll_cons_mk ⟨n,DataW.trod_carry n _ _ _ hn (fun p hp=>hb.same (DataW.trod_lt n _ _ _ hn p hp))⟩ (yi hb h2)
def qH:List Sh->List D->Prop
 |[],[]=>True
 |s::ss,d::ds=>s.has d/\qH ss ds
 |_,_=>False
theorem Gt(hB:Cb B){b0 n:Nat}:∀ {ts:List TypeId} {vs:List Value} {ds:List (DataW H)} {ps:List MemPlace} {ss:List Sh},DE P n ts=some ss->(∀(j:Nat) t v,ts[j]? =some t->vs[j]? =some v->Value.okWide P w .any b0 t v)->
 DataW.TrodAll enc P w 0 (fun _=>true) true ts vs ds ps->(∀(j:Nat) t d,ts[j]? =some t->ds[j]? =some d->wB P t d)->∃xs,qH ss xs/\D.dG xs<=(ds.map B).sum/\vs.length=xs.length/\ds.length=ts.length/\∀(i:Nat) x v,xs[i]? =some x->vs[i]? =some v->bB w (fun b=>b<w.heap.size) x v
 |[],vs,ds,ps,ss,hs,bC,h,_=>by
  obtain⟨rfl,rfl,rfl⟩:=trodAll_nil h;simp only[DE,sJ]at hs;subst hs;exact⟨[],trivial,Nat.le_refl _,rfl,rfl,fun i x v hx=>by simp at hx⟩
 |t::ts,vs,ds,ps,ss,hs,bC,h,uV=>by
  obtain⟨v,fi,d,ds',p,q,rfl,rfl,rfl,h1,h2⟩:=trodAll_cons h;simp only[DE]at hs;split at hs
  ·rename_i s ss' qE sC;injection hs with hs;subst hs;obtain⟨x,g1,g3,g2⟩:=Ry hB qE (bC 0 t v rfl rfl) h1 (uV 0 t d rfl rfl);obtain⟨xs,k1,k0,k2,k3,k4⟩:=Gt hB sC (fun j t v ht hv=>bC (j+1) t v (by simpa using ht) (by simpa using hv)) h2 (fun j t d ht hd=>uV (j+1) t d (by simpa using ht) (by simpa using hd));refine⟨x::xs,⟨g1,k1⟩,by rw[mC,List.sum_cons,D.dG];omega,by simp[k2],by simp[k3],fun i y u hy hu=>?_⟩;cases i with
   |zero=>simp only[List.getElem?_cons_zero,sJ]at hy hu;subst hy;subst hu;exact g2
   |succ i=>exact k4 i y u (by simpa using hy) (by simpa using hu)
  ·cases hs
end
def Pk(P:Program):Prop:=laidOutB P=true/\mapsRowed P=true/\∀t e,t<P.types.size->P.underlying t=some (.slice e)->0<P.cellsOf e
def On{H:Type}{B:DataW H->Nat}(hB:Cb B){N:Nat}{enc:TypeId×Value->H}{P:Program}(LC:Pk P){f:FuncId}{fn:Func}{c:Code}{s:ChangeSpec}{apart fresh handsOn:Bool}{tb:TypeId}{n:Nat}{ss:List Sh}(hf:P.funcs[f]? =some fn)(ZR:fn.body=some c)
 (eT:(fn.name== "runtime.NumGoroutine")=false) (kQ:∀t∈fn.params.toList,t<P.types.size) (sD:DE P n fn.params.toList=some ss) (Bw:fn.resultTypes= #[tb]) (ZS:P.underlying tb=some .bool) (SF:s.vars=[])
 (N5:∀ds:List (DataW H),ds.length=fn.params.size->s.fn H ds={results:=[.lit (.bool true)],args:=ds}) (eH:∀xs,qH ss xs->D.dG xs<=N->ao P f xs (.bool true))
 (W:World) (Hm:bB W (fun b=>b<W.heap.size) .fK undef) (base:Nat) (args:Array Value) (ds gs:List (DataW H)) (before:List MemPlace)
 (mM:∀(j:Nat) t v,fn.params[j]? =some t->args[j]? =some v->Value.okWide P W .any base t v) (hW:DataW.Whole enc P fn.params.toList s.vars apart W args.toList ds gs before) (uV:(DataW.weightsEach P (fn.params.toList++s.plain.varTypes P) (ds++gs)).all (· <=reachBytes)=true) (hN:((ds++gs).map B).sum<=N):
 Calls P f args W fun e W'=>∃v,e= .returned v/\s.post enc P fn apart fresh handsOn false W args v W':=by
 have hW':=hW;obtain⟨p,q,hA,hV,hp,_,_⟩:=hW;rw[SF]at hV;obtain⟨rfl,rfl⟩:=trodVars_none hV;obtain⟨xs,k1,k0,k2,k3,k4⟩:=Gt hB sD (fun j t v ht hv=>mM j t v (by rw[<-aG];exact ht) (by rw[<-aG];exact hv)) hA (fun j t d ht hd k hk=>by
  have h1:=List.all_eq_true.1 uV k (qt (i:=j) (t:=t) (d:=d) (by rw[List.getElem?_append_left (gS.1 ht).1];exact ht) (by rw[List.append_nil];exact hd) hk);simpa using h1)
 have key:=eH xs k1 (Nat.le_trans k0 (by simpa using hN)) W (fun b=>b<W.heap.size) args (fun b hb=>hb) Hm (by simpa using k2) (fun i x v hx hv=>k4 i x v hx (by rw[aG];exact hv));have bQ:=Go.MuLone.run_callFunc_enter hf eT ZR args W;rcases key with⟨_,key⟩|⟨v,w',h1,_⟩
 ·refine Calls.mono key fun e W' ⟨v,he,Z3⟩=>⟨v,he,?_⟩
  obtain⟨fw,hb⟩:=Z3;obtain rfl:v= .bool true:=by cases fw;rfl
  have hk:Kids P (· <P.types.size):=kids_rows LC.1 LC.2.1;have hlen:ds.length=fn.params.size:=by rw[k3];simp
  have ZQ:∀sp:Nat->Bool,(∀p∈before,sp p.block=true)->DataW.TrodAll enc P W' 0 sp true fn.params.toList args.toList ds p:=fun sp vZ=>yi hb (hA.respare hk (fun t e=>LC.2.2 t e) kQ (fun x hx=>vZ x (by rw[hp];simp[hx])));have hold:∀p∈before,(fun b=>decide (b<W.heap.size)) p.block=true:=fun p hp=>by simpa using hW'.lt p hp
  refine⟨ds,[],before,[],p,[],hW',?_,?_,?_,World.keptBut_mono (fun x hx=>⟨hx,?_⟩) (hb.frame (· ∈before)),fun h=>by cases h⟩
  ·rw[List.append_nil,N5 ds hlen,Bw];exact trodAll_mk1 (shut_bool ZS true)
  ·rw[List.append_nil,N5 ds hlen];exact ZQ _ hold
  ·rw[List.append_nil,N5 ds hlen,SF];rfl
  ·rw[hp,List.append_nil]at hx;exact .inr (.inl hx)
 ·rw[bQ]at h1;cases h1
def TC{P:Program}(h1:laidOutB P=true)(h2:mapsRowed P=true)(h3:((List.range P.types.size).all fun t=>match P.underlying t with|some (.slice e)=>decide (0<P.cellsOf e)|_=>true)=true):Pk P:=by
 refine⟨h1,h2,fun t e ht hu=>?_⟩;rw[List.all_eq_true]at h3;have:=h3 t (List.mem_range.2 ht);rw[hu]at this;simpa using this
def OI{P:Program}{ts:List TypeId}(h:(ts.all fun t=>decide (t<P.types.size))=true):∀t∈ts,t<P.types.size:=by
 intro t ht;rw[List.all_eq_true]at h;simpa using h t ht
theorem Ps{xs:List D}(h:qH [] xs):xs=[]:=by
 cases xs with
 |nil=>rfl
 |cons x xs=>exact h.elim
theorem EC{s:Sh}{ss:List Sh}{xs:List D}(h:qH (s::ss) xs):∃a r,xs=a::r/\s.has a/\qH ss r:=by
 cases xs with
 |nil=>exact h.elim
 |cons x xs=>exact⟨x,xs,rfl,h.1,h.2⟩
end Go.V
