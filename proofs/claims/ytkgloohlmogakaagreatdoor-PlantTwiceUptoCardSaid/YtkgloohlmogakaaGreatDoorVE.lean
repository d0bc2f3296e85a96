/- The arguments of a statement, read as data. From a law's contract on data to its statement. -/
import Derived.Test.YtkgloohlmogakaaGreatDoorVC
import Derived.ChangeSame
import Derived.Below
import Derived.ReadAgain
import Derived.Deep.Slices
import Derived.ProofKit
import Derived.OpenShut
set_option linter.unusedSimpArgs false
set_option linter.unusedVariables false
namespace Go.V
open Go.RowKit Go.WideShapes Go.ChangeShapes
inductive Sh where
 |int (k:IntKind)
 |bool
 |str
 |slice (sz:Nat) (e:Sh)
 |agg (fs:List Sh)
mutual
def Sh.bM:Sh->Nat
 | .agg fs=>Sh.qo fs
 |_=>1
def Sh.qo:List Sh->Nat
 |[]=>0
 |f::fs=>f.bM+Sh.qo fs
end
def uB(P:Program)(sh:TypeId->Option Sh):Nat->List Field->Option (List Sh)
 |_,[]=>some []
 |o,f::fs=>match sh f.type with
  |some s=>if f.offset=o/\P.cellsOf f.type=s.bM then(uB P sh (o+s.bM) fs).map (s::·)else none
  |none=>none
def mV(P:Program):Nat->TypeId->Option Sh
 |0,_=>none
 |n+1,t=>match P.underlying t with
  |some .bool=>some .bool
  |some (.int k)=>some (.int k)
  |some .string=>some .str
  |some (.slice e)=>match mV P n e with
   |some s=>if P.cellsOf e=s.bM/\0<s.bM/\0<P.bytesOf e then some (.slice s.bM s)else none
   |none=>none
  |some (.struct fs)=>match uB P (mV P n) 0 fs.toList with
   |some l=>if P.cellsOf t=Sh.qo l then some (.agg l)else none
   |none=>none
  |some (.array k e)=>match mV P n e with
   |some s=>if P.cellsOf e=s.bM/\P.cellsOf t=k * s.bM then some (.agg (List.replicate k s))else none
   |none=>none
  |_=>none
def wj(P:Program)(n:Nat):List TypeId->Option (List Sh)
 |[]=>some []
 |t::ts=>match mV P n t,wj P n ts with
  |some s,some ss=>some (s::ss)
  |_,_=>none
def Sh.pack:Sh->List D->D
 | .agg _,ys=> .agg ys
 |_,ys=>ys.headD .undef
mutual
def Sh.bB:Sh->List D->Prop
 | .int k,cs=>∃n,cs=[.int k n]/\(Lit.int k n).wf=true
 | .bool,cs=>∃b,cs=[.bool b]
 | .str,cs=>∃s,cs=[.str s]/\s.length<=reachBytes
 | .slice sz e,cs=>∃es,cs=[.sl sz es]/\es.length<=reachBytes/\∀x∈es,∃ys,x=e.pack ys/\e.bB ys
 | .agg fs,cs=>Sh.fI fs cs
def Sh.fI:List Sh->List D->Prop
 |[],cs=>cs=[]
 |f::fs,cs=>∃a b,cs=a++b/\f.bB a/\Sh.fI fs b
end
def Sh.has(s:Sh)(d:D):Prop:=∃ys,d=s.pack ys/\s.bB ys
theorem Sh.qH{s:Sh}{ys:List D}(h:s.bB ys):(s.pack ys).cells=ys:=by
 cases s with
 |agg fs=>rfl
 |int k=>simp only[Sh.bB]at h;obtain⟨n,rfl,_⟩:=h;rfl
 |bool=>simp only[Sh.bB]at h;obtain⟨n,rfl⟩:=h;rfl
 |str=>simp only[Sh.bB]at h;obtain⟨n,rfl,_⟩:=h;rfl
 |slice sz e=>simp only[Sh.bB]at h;obtain⟨n,rfl,_⟩:=h;rfl
mutual
def D.bulk:D->Nat
 | .str s=>s.length+1
 | .sl _ es=>D.bZ es+1
 | .agg xs=>D.bZ xs
 |_=>1
def D.bZ:List D->Nat
 |[]=>0
 |x::xs=>x.bulk+D.bZ xs
end
theorem rK:∀a b:List D,D.bZ (a++b)=D.bZ a+D.bZ b
 |[],b=>by simp[D.bZ]
 |x::a,b=>by rw[List.cons_append,D.bZ,D.bZ,rK a b];omega
theorem kH{x:D}:∀ {l:List D},x∈l->x.bulk<=D.bZ l
 |y::l,h=>by
  rw[D.bZ];rcases List.mem_cons.1 h with rfl|h
  ·omega
  ·have:=kH h;omega
theorem xq{α:Type}{g:α->D}{k:α->Nat}:∀ {l:List α},(∀x∈l,(g x).bulk<=k x)->D.bZ (l.map g)<=(l.map k).sum
 |[],_=>Nat.le_refl _
 |x::l,h=>by
  rw[List.map_cons,List.map_cons,D.bZ,List.sum_cons];have:=h x (List.mem_cons_self ..);have:=xq fun y hy=>h y (List.mem_cons_of_mem _ hy);omega
structure uK{H:Type}(B:DataW H->Nat):Prop where
 one:∀d,1<=B d
 str:∀s,s.length+1<=B (.lit (.string s))
 slice:∀es sp,(es.map B).sum+1<=B (.slice es sp)
 agg:∀ps,(ps.map B).sum<=B (.agg ps)
theorem Sh.xV{s:Sh}{ys:List D}(h:s.bB ys):(s.pack ys).bulk=D.bZ ys:=by
 cases s with
 |agg fs=>rfl
 |int k=>simp only[Sh.bB]at h;obtain⟨n,rfl,_⟩:=h;rfl
 |bool=>simp only[Sh.bB]at h;obtain⟨n,rfl⟩:=h;rfl
 |str=>simp only[Sh.bB]at h;obtain⟨n,rfl,_⟩:=h;rfl
 |slice sz e=>simp only[Sh.bB]at h;obtain⟨n,rfl,_⟩:=h;rfl
section
variable {H:Type} {enc:TypeId×Value->H} {P:Program} {w:World} {base:Nat} {held:Bool} {B:DataW H->Nat}
def fx(w:World)(ds:List D)(cs:List Value):Prop:=
 ds.length=cs.length/\∀(j:Nat) c,ds[j]? =some c->∃u,cs[j]? =some u/\ba w (fun b=>b<w.heap.size) c u/\u.oneCell'=true
theorem fx.one{d:D}{u:Value}(h:ba w (fun b=>b<w.heap.size) d u)(h1:u.oneCell'=true):fx w [d] [u]:=
 ⟨rfl,fun j c hj=>by
  cases j with
  |zero=>simp only[List.getElem?_cons_zero,Option.some.injEq]at hj;subst hj;exact⟨u,rfl,h,h1⟩
  |succ j=>simp at hj⟩
theorem fx.append{ds es:List D}{cs us:List Value}(h:fx w ds cs)(k:fx w es us):fx w (ds++es) (cs++us):=by
 refine⟨by simp[h.1,k.1],fun j c hj=>?_⟩;by_cases hlt:j<ds.length
 ·rw[List.getElem?_append_left hlt]at hj;rw[List.getElem?_append_left (by rw[<-h.1];exact hlt)];exact h.2 j c hj
 ·rw[List.getElem?_append_right oM]at hj;rw[List.getElem?_append_right (by rw[<-h.1];omega),<-h.1];exact k.2 _ c hj
def qa(P:Program)(t:TypeId)(d:DataW H):Prop:=∀k∈d.weights P t,k<=reachBytes
theorem lV{e:TypeId}{k:Nat}:∀ {l:List (DataW H)} {d:DataW H},d∈l->k∈d.weights P e->k∈DataW.weightsAll P e l
 |x::l,d,h,hk=>by
  simp only[DataW.weightsAll,List.mem_append];rcases List.mem_cons.1 h with rfl|h
  ·exact .inl hk
  ·exact .inr (lV h hk)
theorem lE{k:Nat}:∀ {ts:List TypeId} {ds:List (DataW H)} {i:Nat} {t:TypeId} {d:DataW H},ts[i]? =some t->ds[i]? =some d->k∈d.weights P t->k∈DataW.weightsEach P ts ds
 |[],ds,i,t,d,h,_,_=>by simp at h
 |_::_,[],i,t,d,_,h,_=>by simp at h
 |t'::ts,d'::ds,0,t,d,h1,h2,hk=>by
  simp at h1 h2;subst h1;subst h2;simp only[DataW.weightsEach,List.mem_append];exact .inl hk
 |t'::ts,d'::ds,i+1,t,d,h1,h2,hk=>by
  simp only[DataW.weightsEach,List.mem_append];exact .inr (lE (by simpa using h1) (by simpa using h2) hk)
theorem AA{r:Reach}{b0 k:Nat}{t e:TypeId}{v:Value}(ht:P.underlying t=some (.array k e))(h:Value.okWide P w r b0 t v):∃cs,v= .agg cs/\cs.size=P.cellsOf t:=by
 simp only[Value.okWide,ht]at h;obtain⟨cs,h1,h2,_⟩:=h;exact⟨cs,h1,h2⟩
theorem zw(s:Sh):∀k,Sh.qo (List.replicate k s)=k * s.bM
 |0=>by simp[Sh.qo]
 |k+1=>by rw[List.replicate_succ,Sh.qo,zw s k,Nat.succ_mul];omega
theorem nG(hB:uK B):∀(n:Nat) (t:TypeId) (s:Sh) (fuel:Nat) (cs:List Value) (x:DataW H×List MemPlace),mV P n t=some s->DataW.trod enc P w base (fun _=>true) held fuel t cs=some x->qa P t x.1->
 ∃ds,s.bB ds/\fx w ds cs/\cs.length=s.bM/\D.bZ ds<=B x.1
 |0,_,_,_,_,_,h,_,_=>by simp[mV]at h
 |n+1,t,s,fuel,cs,x,h,ht,hwt=>by
  simp only[mV]at h;split at h
  ·rename_i hu;injection h with h;subst h;obtain⟨b,rfl,_⟩:=DataW.trod_bool hu ht;exact⟨[.bool b],⟨b,rfl⟩,.one (.bool b) rfl,rfl,hB.one _⟩
  ·rename_i k hu;injection h with h;subst h;obtain⟨i,rfl,_,hw⟩:=DataW.trod_int hu ht;exact⟨[.int k i],⟨i,rfl,hw⟩,.one (.int k i) rfl,rfl,hB.one _⟩
  ·rename_i hu;injection h with h;subst h;obtain⟨b,rfl,rfl,hl⟩:=DataW.trod_string hu ht;exact⟨[.str b.data.toList],⟨b.data.toList,rfl,hwt _ (by simp[DataW.weights])⟩,.one (.str b.data.toList) rfl,rfl,hB.str _⟩
  ·rename_i e hu;split at h
   ·rename_i se hse;split at h
    ·rename_i hc;obtain⟨hce,hpos,hbpos⟩:=hc;injection h with h;subst h;rcases Go.Deep.open_slice hu ht with⟨rfl,_⟩|⟨a,len,cap,m,nn,Dx,Pl,rfl,hb,hlc,hcm,hm,hx,hi⟩
     ·exact⟨[.sl se.bM []],⟨[],rfl,Nat.zero_le _,fun _ h=>by cases h⟩,.one (.sl (b:=0) (off:=0) (us:=fun _ _=>undef) rfl (Nat.le_refl _) (Nat.zero_le _) (fun h=>absurd rfl h) sI sI sI sI) rfl,rfl,hB.one _⟩
     ·simp only[if_true]at hm;subst hm;subst hx;have hlen:len<=reachBytes:=by
       have h1:=hwt ((len+(m - len)) * P.bytesOf e) (by simp[DataW.weights,hu]);have h2:(len+(m - len)) * 1<=(len+(m - len)) * P.bytesOf e:=Nat.mul_le_mul_left _ hbpos;omega
      have hlt:∀i,i<len->qa P e (Dx i):=fun i hi k hk=>hwt k (by
       simp only[DataW.weights,hu,List.mem_cons,List.mem_append];exact .inr (.inl (lV (List.mem_map.2 ⟨i,List.mem_range.2 hi,rfl⟩) hk)))
      have hel:∀i,i<len->∃ds cs',se.bB ds/\fx w ds cs'/\cs'.length=se.bM/\(∀j,j<se.bM->w.cell? ((a.add (i * se.bM)).add j)=cs'[j]?)/\D.bZ ds<=B (Dx i):=by
       intro i hil;obtain⟨cs',hcs,htr⟩:=hi i oM;obtain⟨ds,h1,h2,h3,h4⟩:=nG hB n e se _ _ _ hse htr (hlt i hil);rw[hce]at hcs;obtain⟨_,hcl,hat⟩:=World.cells?_some hcs;exact⟨ds,cs',h1,h2,h3,hat,h4⟩
      have hpick:∃f:Nat->List D,∀i,i<len->∃cs',se.bB (f i)/\fx w (f i) cs'/\cs'.length=se.bM/\(∀j,j<se.bM->w.cell? ((a.add (i * se.bM)).add j)=cs'[j]?)/\D.bZ (f i)<=B (Dx i):=by
       refine⟨fun i=>if hl:i<len then Classical.choose (hel i hl)else[],fun i hl=>?_⟩;simp only[hl,dif_pos];exact Classical.choose_spec (hel i hl)
      obtain⟨f,hf0⟩:=hpick;have hf:∀i,i<len->∃cs',se.bB (f i)/\fx w (f i) cs'/\cs'.length=se.bM/\∀j,j<se.bM->w.cell? ((a.add (i * se.bM)).add j)=cs'[j]?:=fun i hi=>by
       obtain⟨cs',h1,h2,h3,h4,_⟩:=hf0 i hi;exact⟨cs',h1,h2,h3,h4⟩
      have hfb:∀i,i<len->(se.pack (f i)).bulk<=B (Dx i):=fun i hi=>by
       obtain⟨cs',h1,_,_,_,h5⟩:=hf0 i hi;rw[Sh.xV h1];exact h5
      have hget:∀(i:Nat) d,((List.range len).map fun i=>se.pack (f i))[i]? =some d->i<len/\d=se.pack (f i):=by
       intro i d hd;rw[List.getElem?_map,Option.map_eq_some_iff]at hd;obtain⟨k,hk,rfl⟩:=hd;have hlt:=(List.getElem?_eq_some_iff.1 hk).1;rw[List.length_range]at hlt;rw[List.getElem?_range hlt]at hk;injection hk with hk;subst hk;exact⟨hlt,rfl⟩
      have hcell:∀(i:Nat) d (j:Nat) c,((List.range len).map fun i=>se.pack (f i))[i]? =some d->d.cells[j]? =some c->∃u,w.cell? ⟨a.block,a.off+i * se.bM+j,Option.none⟩=some u/\a.spot=Option.none/\a.block<w.heap.size/\ba w (fun b=>b<w.heap.size) c u/\u.oneCell'=true:=by
       intro i d j c hd hj;obtain⟨hil,rfl⟩:=hget i d hd;obtain⟨cs',h1,h2,h3,h4⟩:=hf i hil;rw[Sh.qH h1]at hj;obtain⟨u,hu,hp,hone⟩:=h2.2 j c hj;have hjl:j<se.bM:=by have:=(List.getElem?_eq_some_iff.1 hu).1;omega
       have hw:=(h4 j hjl).trans hu;have hsp:a.spot=Option.none:=by
        obtain⟨cs0,k1,k2,k3,k4⟩:=hf 0 oM;have k5:=k4 0 hpos;rw[Nat.zero_mul]at k5;have k6:(a.add 0).add 0=a:=by simp[Addr.add]
        rw[k6,List.getElem?_eq_getElem (show 0<cs0.length by omega)]at k5;unfold World.cell? at k5;split at k5
        ·split at k5
         ·cases k5
         ·rename_i hs;simpa using hs
        ·cases k5
       have hadd:(a.add (i * se.bM)).add j=⟨a.block,a.off+i * se.bM+j,Option.none⟩:=by
        obtain⟨b,o,sp⟩:=a;simp only at hsp;subst hsp;rw[Addr.cz,Addr.cz]
       rw[hadd]at hw;refine⟨u,hw,hsp,?_,hp,hone⟩;unfold World.cell? at hw;split at hw
       ·rename_i hg;exact(Array.getElem?_eq_some_iff.1 hg).1
       ·cases hw
      have hus:∀(i:Nat) d (j:Nat) c,((List.range len).map fun i=>se.pack (f i))[i]? =some d->d.cells[j]? =some c->w.cell? ⟨a.block,a.off+i * se.bM+j,Option.none⟩=some ((w.cell? ⟨a.block,a.off+i * se.bM+j,Option.none⟩).getD undef)/\
       ba w (fun b=>b<w.heap.size) c ((w.cell? ⟨a.block,a.off+i * se.bM+j,Option.none⟩).getD undef)/\((w.cell? ⟨a.block,a.off+i * se.bM+j,Option.none⟩).getD undef).oneCell'=true:=by
       intro i d j c hd hj;obtain⟨u,h1,_,_,h2,h3⟩:=hcell i d j c hd hj;rw[h1];exact⟨rfl,h2,h3⟩
      refine⟨[.sl se.bM ((List.range len).map fun i=>se.pack (f i))],⟨_,rfl,by simpa using hlen,fun y hy=>?_⟩,.one (.sl (b:=a.block) (off:=a.off) (us:=fun i j=>(w.cell? ⟨a.block,a.off+i * se.bM+j,Option.none⟩).getD undef) sI hlc hcm (fun hne=>?_) (fun i d hd=>?_) (fun i d j c hi hj=>(hus i d j c hi hj).1) (fun i d j c hi hj=>(hus i d j c hi hj).2.2) (fun i d j c hi hj=>(hus i d j c hi hj).2.1)) rfl,rfl,?_⟩
      ·obtain⟨i,hi,rfl⟩:=List.mem_map.1 hy;obtain⟨cs',h1,_⟩:=hf i (List.mem_range.1 hi);exact⟨f i,rfl,h1⟩
      ·have hl0:0<len:=by
        rcases Nat.eq_zero_or_pos len with h0|h0
        ·subst h0;simp at hne
        ·exact h0
       have hd0:((List.range len).map fun i=>se.pack (f i))[0]? =some (se.pack (f 0)):=by rw[List.getElem?_map,List.getElem?_range hl0];rfl
       obtain⟨cs',h1,h2,h3,_⟩:=hf 0 hl0;have hlen:0<(se.pack (f 0)).cells.length:=by rw[Sh.qH h1,h2.1,h3];exact hpos
       obtain⟨u,_,hsp,hbl,_⟩:=hcell 0 _ 0 _ hd0 (List.getElem?_eq_getElem hlen);refine⟨?_,hbl⟩;obtain⟨b,o,sp⟩:=a;simp only at hsp;subst hsp;rfl
      ·obtain⟨hil,rfl⟩:=hget i d hd;obtain⟨cs',h1,h2,h3,_⟩:=hf i hil;rw[Sh.qH h1,h2.1,h3]
      ·refine Nat.le_trans ?_ (hB.slice _ _);have h1:=xq (g:=fun i=>se.pack (f i)) (k:=fun i=>B (Dx i)) (l:=List.range len) fun i hi=>hfb i (List.mem_range.1 hi);rw[List.map_map];simp only[D.bZ,D.bulk];exact Nat.succ_le_succ h1
    ·cases h
   ·cases h
  ·rename_i fs hu;split at h
   ·rename_i l hl;split at h
    ·rename_i hc;injection h with h;subst h;obtain⟨xs,m,_,hxx,hcl,hxl,hf⟩:=DataW.trod_struct hu ht;subst hxx;have hlt:∀(i:Nat) (f:Field) (x:DataW H×List MemPlace),fs[i]? =some f->xs[i]? =some x->qa P f.type x.1:=fun i f x h1 h2 k hk=>hwt k (by
      simp only[DataW.weights,hu];exact lE (i:=i) (by rw[List.getElem?_map,Array.getElem?_toList,h1];rfl) (by rw[List.getElem?_map,h2];rfl) hk)
     have key:∀(F:List Field) (o:Nat) (l:List Sh) (cs:List Value) (X:List (DataW H)),uB P (mV P n) o F=some l->cs.length=Sh.qo l->(∀(i:Nat) (f:Field),F[i]? =some f->∃x,X[i]? =some x.1/\DataW.trod enc P w base (fun _=>true) held m f.type ((cs.drop (f.offset - o)).take (P.cellsOf f.type))=some x/\qa P f.type x.1)->
      ∃ds,Sh.fI l ds/\fx w ds cs/\D.bZ ds<=(X.map B).sum:=by
      intro F;induction F with
      |nil=>
       intro o l cs X hl hcs _;simp only[uB,Option.some.injEq]at hl;subst hl;simp only[Sh.qo]at hcs;obtain rfl:=List.eq_nil_of_length_eq_zero hcs;exact⟨[],rfl,⟨rfl,fun j c hj=>by simp at hj⟩,Nat.zero_le _⟩
      |cons f F ih=>
       intro o l cs X hl hcs hf;simp only[uB]at hl;split at hl
       ·rename_i s hs;split at hl
        ·rename_i ho;rw[Option.map_eq_some_iff]at hl;obtain⟨l',hl',rfl⟩:=hl;simp only[Sh.qo]at hcs;obtain⟨x,hX,hx,hxl2⟩:=hf 0 f rfl;obtain⟨X',rfl⟩:∃X',X=x.1::X':=by
          cases X with
          |nil=>simp at hX
          |cons y X'=>simp at hX;subst hX;exact⟨X',rfl⟩
         rw[ho.1,Nat.sub_self,List.drop_zero,ho.2]at hx;obtain⟨a,h1,h2,h3,h4⟩:=nG hB n f.type s m _ _ hs hx hxl2;obtain⟨b,k1,k2,k3⟩:=ih (o+s.bM) l' (cs.drop s.bM) X' hl' (by simp;omega) (fun i g hg=>by
          obtain⟨y,hY,hy,hyl⟩:=hf (i+1) g (by simpa using hg);refine⟨y,by simpa using hY,?_,hyl⟩;have hoff:o+s.bM<=g.offset:=by
           have:∀(F:List Field) (o:Nat) (l:List Sh),uB P (mV P n) o F=some l->∀g∈F,o<=g.offset:=by
            intro F;induction F with
            |nil=>intro o l _ g hg;cases hg
            |cons f F ih2=>
             intro o l hl g hg;simp only[uB]at hl;split at hl
             ·split at hl
              ·rename_i ho2;rw[Option.map_eq_some_iff]at hl;obtain⟨l2,hl2,_⟩:=hl;rcases List.mem_cons.1 hg with rfl|hg
               ·omega
               ·have:=ih2 _ _ hl2 g hg;omega
              ·cases hl
             ·cases hl
           exact this F _ _ hl' g (List.mem_of_getElem? hg)
          rw[List.drop_drop];have:s.bM+(g.offset - (o+s.bM))=g.offset - o:=oM;rw[this];exact hy)
         refine⟨a++b,⟨a,b,rfl,h1,k1⟩,?_,by rw[rK,List.map_cons,List.sum_cons];omega⟩;have:=h2.append k2;rw[List.take_append_drop]at this;exact this
        ·cases hl
       ·cases hl
     obtain⟨ds,h1,h2,h3⟩:=key fs.toList 0 l cs (xs.map (·.1)) hl (by rw[hcl,hc]) (fun i f hfi=>by
      rw[Nat.sub_zero];have hi':fs[i]? =some f:=by rw[<-Array.getElem?_toList];exact hfi
      have hlt':i<xs.length:=by rw[hxl];exact(Array.getElem?_eq_some_iff.1 hi').1
      exact⟨xs[i],by rw[List.getElem?_map,List.getElem?_eq_getElem hlt'];rfl,by rw[hf i f hi'];exact List.getElem?_eq_getElem hlt',hlt i f xs[i] hi' (List.getElem?_eq_getElem hlt')⟩)
     exact⟨ds,h1,h2,by rw[hcl,hc];simp[Sh.bM],Nat.le_trans h3 (hB.agg _)⟩
    ·cases h
   ·cases h
  ·rename_i k e hu;split at h
   ·rename_i se hse;split at h
    ·rename_i hc;injection h with h;subst h;obtain⟨xs,m,_,hxx,hcl,hxl,hat⟩:=DataW.trod_array hu ht;subst hxx;rw[hc.2]at hcl;have key:∀(X:List (DataW H×List MemPlace)) (cs:List Value),cs.length=X.length * se.bM->(∀(i:Nat) x,X[i]? =some x->DataW.trod enc P w base (fun _=>true) held m e ((cs.drop (i * se.bM)).take se.bM)=some x/\qa P e x.1)->
      ∃ds,Sh.fI (List.replicate X.length se) ds/\fx w ds cs/\D.bZ ds<=((X.map (·.1)).map B).sum:=by
      intro X;induction X with
      |nil=>
       intro cs hcs _;rw[List.length_nil,Nat.zero_mul]at hcs;obtain rfl:=List.eq_nil_of_length_eq_zero hcs;exact⟨[],rfl,⟨rfl,fun j c hj=>by simp at hj⟩,Nat.zero_le _⟩
      |cons x X ih=>
       intro cs hcs hf;rw[List.length_cons,Nat.succ_mul]at hcs;obtain⟨hx,hxl2⟩:=hf 0 x rfl;rw[Nat.zero_mul,List.drop_zero]at hx;obtain⟨a,h1,h2,h3,h4⟩:=nG hB n e se m _ _ hse hx hxl2;obtain⟨b,k1,k2,k3⟩:=ih (cs.drop se.bM) (by rw[List.length_drop];omega) (fun i y hy=>by
        obtain⟨g1,g2⟩:=hf (i+1) y (by simpa using hy);refine⟨?_,g2⟩;rw[List.drop_drop,show se.bM+i * se.bM=(i+1) * se.bM by rw[Nat.succ_mul];omega];exact g1)
       refine⟨a++b,?_,?_,by rw[rK,List.map_cons,List.map_cons,List.sum_cons];omega⟩
       ·rw[List.length_cons,List.replicate_succ];exact⟨a,b,rfl,h1,k1⟩
       ·have:=h2.append k2;rw[List.take_append_drop]at this;exact this
     obtain⟨ds,h1,h2,h3⟩:=key xs cs (by rw[hcl,hxl]) (fun i x hx=>by
      have hlt:=(List.getElem?_eq_some_iff.1 hx).1;refine⟨by rw[<-hc.1,hat i oM];exact hx,fun k hk=>hwt k ?_⟩;simp only[DataW.weights,hu];exact lV (List.mem_map.2 ⟨x,List.mem_of_getElem? hx,rfl⟩) hk)
     rw[hxl]at h1;exact⟨ds,h1,h2,by rw[hcl,Sh.bM,zw],Nat.le_trans h3 (hB.agg _)⟩
    ·cases h
   ·cases h
  ·cases h
theorem Iu(hB:uK B){r:Reach}{b0:Nat}{n:Nat}{t:TypeId}{s:Sh}{v:Value}{d:DataW H}{ps:List MemPlace}(hs:mV P n t=some s)(hok:Value.okWide P w r b0 t v)(h:DataW.Trod enc P w base (fun _=>true) held t v d ps)(hwt:qa P t d):
 ∃x,s.has x/\x.bulk<=B d/\ba w (fun b=>b<w.heap.size) x v:=by
 obtain⟨fuel,hf⟩:=h;obtain⟨ds,h1,h2,h3,h4⟩:=nG hB n t s fuel _ _ hs hf hwt;refine⟨s.pack ds,⟨ds,rfl,h1⟩,by rw[Sh.xV h1];exact h4,?_⟩;cases n with
 |zero=>simp[mV]at hs
 |succ n=>
  simp only[mV]at hs;have single:∀y,ds=[y]->v.cells= #[v]->ba w (fun b=>b<w.heap.size) y v:=by
   intro y hy hc;subst hy;obtain⟨u,hu,hp,_⟩:=h2.2 0 y rfl;rw[hc]at hu;simp only[List.getElem?_cons_zero,Option.some.injEq]at hu;subst hu;exact hp
  split at hs
  ·rename_i hu;injection hs with hs;subst hs;obtain⟨b,rfl⟩:=okWide_bool hu hok;simp only[Sh.bB]at h1;obtain⟨b',rfl⟩:=h1;exact single _ rfl rfl
  ·rename_i k hu;injection hs with hs;subst hs;obtain⟨b,rfl⟩:=okWide_int hu hok;simp only[Sh.bB]at h1;obtain⟨b',rfl,_⟩:=h1;exact single _ rfl rfl
  ·rename_i hu;injection hs with hs;subst hs;obtain⟨b,rfl⟩:=okWide_string hu hok;simp only[Sh.bB]at h1;obtain⟨b',rfl,_⟩:=h1;exact single _ rfl rfl
  ·rename_i e hu;split at hs
   ·split at hs
    ·injection hs with hs;subst hs;obtain⟨a,l,c,rfl⟩:=okWide_slice hu hok;simp only[Sh.bB]at h1;obtain⟨b',rfl,_⟩:=h1;exact single _ rfl rfl
    ·cases hs
   ·cases hs
  ·rename_i fs hu;split at hs
   ·split at hs
    ·injection hs with hs;subst hs;obtain⟨cs,rfl,hsz⟩:=okWide_struct hu hok;refine .agg (by have:=h2.1;simp only[Value.cells,Array.length_toList]at this;exact this.symm) fun i x u hx hu'=>?_;obtain⟨u',hu2,hp,_⟩:=h2.2 i x hx;simp only[Value.cells,Array.getElem?_toList]at hu2;rw[hu2]at hu';injection hu' with hu';subst hu';exact hp
    ·cases hs
   ·cases hs
  ·rename_i k e hu;split at hs
   ·split at hs
    ·injection hs with hs;subst hs;obtain⟨cs,rfl,hsz⟩:=AA hu hok;refine .agg (by have:=h2.1;simp only[Value.cells,Array.length_toList]at this;exact this.symm) fun i x u hx hu'=>?_;obtain⟨u',hu2,hp,_⟩:=h2.2 i x hx;simp only[Value.cells,Array.getElem?_toList]at hu2;rw[hu2]at hu';injection hu' with hu';subst hu';exact hp
    ·cases hs
   ·cases hs
  ·cases hs
end
end Go.V
namespace Go.V
open Go.RowKit Go.WideShapes Go.ChangeShapes Go.ChangeAt
section
variable {H:Type} {enc:TypeId×Value->H} {P:Program} {w w':World} {B:DataW H->Nat}
theorem rF{base:Nat}{sp:Nat->Bool}{held:Bool}(hb:Below w.heap.size w w'):∀ {ts:List TypeId} {vs:List Value} {ds:List (DataW H)} {ps:List MemPlace},DataW.TrodAll enc P w base sp held ts vs ds ps->DataW.TrodAll enc P w' base sp held ts vs ds ps
 |[],vs,ds,ps,h=>by
  obtain⟨rfl,rfl,rfl⟩:=trodAll_nil h;rfl
 |t::ts,vs,ds,ps,h=>by
  obtain⟨v,vs',d,ds',p,q,rfl,rfl,rfl,⟨n,hn⟩,h2⟩:=trodAll_cons h;exact trodAll_cons_mk ⟨n,DataW.trod_carry n _ _ _ hn (fun p hp=>hb.same (DataW.trod_lt n _ _ _ hn p hp))⟩ (rF hb h2)
def kD:List Sh->List D->Prop
 |[],[]=>True
 |s::ss,d::ds=>s.has d/\kD ss ds
 |_,_=>False
theorem zh(hB:uK B){b0 n:Nat}:∀ {ts:List TypeId} {vs:List Value} {ds:List (DataW H)} {ps:List MemPlace} {ss:List Sh},wj P n ts=some ss->(∀(j:Nat) t v,ts[j]? =some t->vs[j]? =some v->Value.okWide P w .any b0 t v)->
 DataW.TrodAll enc P w 0 (fun _=>true) true ts vs ds ps->(∀(j:Nat) t d,ts[j]? =some t->ds[j]? =some d->qa P t d)->∃xs,kD ss xs/\D.bZ xs<=(ds.map B).sum/\vs.length=xs.length/\ds.length=ts.length/\∀(i:Nat) x v,xs[i]? =some x->vs[i]? =some v->ba w (fun b=>b<w.heap.size) x v
 |[],vs,ds,ps,ss,hs,hok,h,_=>by
  obtain⟨rfl,rfl,rfl⟩:=trodAll_nil h;simp only[wj,Option.some.injEq]at hs;subst hs;exact⟨[],trivial,Nat.le_refl _,rfl,rfl,fun i x v hx=>by simp at hx⟩
 |t::ts,vs,ds,ps,ss,hs,hok,h,hwt=>by
  obtain⟨v,vs',d,ds',p,q,rfl,rfl,rfl,h1,h2⟩:=trodAll_cons h;simp only[wj]at hs;split at hs
  ·rename_i s ss' hs1 hs2;injection hs with hs;subst hs;obtain⟨x,g1,g3,g2⟩:=Iu hB hs1 (hok 0 t v rfl rfl) h1 (hwt 0 t d rfl rfl);obtain⟨xs,k1,k0,k2,k3,k4⟩:=zh hB hs2 (fun j t v ht hv=>hok (j+1) t v (by simpa using ht) (by simpa using hv)) h2 (fun j t d ht hd=>hwt (j+1) t d (by simpa using ht) (by simpa using hd));refine⟨x::xs,⟨g1,k1⟩,by rw[List.map_cons,List.sum_cons,D.bZ];omega,by simp[k2],by simp[k3],fun i y u hy hu=>?_⟩;cases i with
   |zero=>simp only[List.getElem?_cons_zero,Option.some.injEq]at hy hu;subst hy;subst hu;exact g2
   |succ i=>exact k4 i y u (by simpa using hy) (by simpa using hu)
  ·cases hs
end
def C0(P:Program):Prop:=laidOutB P=true/\mapsRowed P=true/\∀t e,t<P.types.size->P.underlying t=some (.slice e)->0<P.cellsOf e
theorem xN{H:Type}{B:DataW H->Nat}(hB:uK B){N:Nat}{enc:TypeId×Value->H}{P:Program}(hfine:C0 P){f:FuncId}{fn:Func}{c:Code}{s:ChangeSpec}{apart fresh handsOn:Bool}{tb:TypeId}{n:Nat}{ss:List Sh}(hf:P.funcs[f]? =some fn)(hbody:fn.body=some c)
 (hname:(fn.name== "runtime.NumGoroutine")=false) (hts:∀t∈fn.params.toList,t<P.types.size) (hss:wj P n fn.params.toList=some ss) (hres:fn.resultTypes= #[tb]) (hbool:P.underlying tb=some .bool) (hvars:s.vars=[])
 (hfn:∀ds:List (DataW H),ds.length=fn.params.size->s.fn H ds={results:=[.lit (.bool true)],args:=ds}) (hall:∀xs,kD ss xs->D.bZ xs<=N->aq P f xs (.bool true))
 (W:World) (hglo:ba W (fun b=>b<W.heap.size) .glo undef) (base:Nat) (args:Array Value) (ds gs:List (DataW H)) (before:List MemPlace)
 (hval:∀(j:Nat) t v,fn.params[j]? =some t->args[j]? =some v->Value.okWide P W .any base t v) (hW:DataW.Whole enc P fn.params.toList s.vars apart W args.toList ds gs before) (hwt:(DataW.weightsEach P (fn.params.toList++s.plain.varTypes P) (ds++gs)).all (· <=reachBytes)=true) (hN:((ds++gs).map B).sum<=N):
 Calls P f args W fun e W'=>∃v,e= .returned v/\s.post enc P fn apart fresh handsOn false W args v W':=by
 have hW':=hW;obtain⟨p,q,hA,hV,hp,_,_⟩:=hW;rw[hvars]at hV;obtain⟨rfl,rfl⟩:=trodVars_none hV;obtain⟨xs,k1,k0,k2,k3,k4⟩:=zh hB hss (fun j t v ht hv=>hval j t v (by rw[<-Array.getElem?_toList];exact ht) (by rw[<-Array.getElem?_toList];exact hv)) hA (fun j t d ht hd k hk=>by
  have h1:=List.all_eq_true.1 hwt k (lE (i:=j) (t:=t) (d:=d) (by rw[List.getElem?_append_left (List.getElem?_eq_some_iff.1 ht).1];exact ht) (by rw[List.append_nil];exact hd) hk);simpa using h1)
 have key:=hall xs k1 (Nat.le_trans k0 (by simpa using hN)) W (fun b=>b<W.heap.size) args (fun b hb=>hb) hglo (by simpa using k2) (fun i x v hx hv=>k4 i x v hx (by rw[Array.getElem?_toList];exact hv));have hrun:=Go.MuLone.run_callFunc_enter hf hname hbody args W;rcases key with⟨_,key⟩|⟨v,w',h1,_⟩
 ·refine Calls.mono key fun e W' ⟨v,he,hpost⟩=>⟨v,he,?_⟩
  obtain⟨hrep,hb⟩:=hpost;obtain rfl:v= .bool true:=by cases hrep;rfl
  have hk:Kids P (· <P.types.size):=kids_rows hfine.1 hfine.2.1;have hlen:ds.length=fn.params.size:=by rw[k3];simp
  have hargs:∀sp:Nat->Bool,(∀p∈before,sp p.block=true)->DataW.TrodAll enc P W' 0 sp true fn.params.toList args.toList ds p:=fun sp hsp=>rF hb (hA.respare hk (fun t e=>hfine.2.2 t e) hts (fun x hx=>hsp x (by rw[hp];simp[hx])));have hold:∀p∈before,(fun b=>decide (b<W.heap.size)) p.block=true:=fun p hp=>by simpa using hW'.lt p hp
  refine⟨ds,[],before,[],p,[],hW',?_,?_,?_,World.keptBut_mono (fun x hx=>⟨hx,?_⟩) (hb.frame (· ∈before)),fun h=>by cases h⟩
  ·rw[List.append_nil,hfn ds hlen,hres];exact trodAll_mk1 (shut_bool hbool true)
  ·rw[List.append_nil,hfn ds hlen];exact hargs _ hold
  ·rw[List.append_nil,hfn ds hlen,hvars];rfl
  ·rw[hp,List.append_nil]at hx;exact .inr (.inl hx)
 ·rw[hrun]at h1;cases h1
theorem Ci{P:Program}(h1:laidOutB P=true)(h2:mapsRowed P=true)(h3:((List.range P.types.size).all fun t=>match P.underlying t with|some (.slice e)=>decide (0<P.cellsOf e)|_=>true)=true):C0 P:=by
 refine⟨h1,h2,fun t e ht hu=>?_⟩;rw[List.all_eq_true]at h3;have:=h3 t (List.mem_range.2 ht);rw[hu]at this;simpa using this
theorem xX{P:Program}{ts:List TypeId}(h:(ts.all fun t=>decide (t<P.types.size))=true):∀t∈ts,t<P.types.size:=by
 intro t ht;rw[List.all_eq_true]at h;simpa using h t ht
theorem zg{xs:List D}(h:kD [] xs):xs=[]:=by
 cases xs with
 |nil=>rfl
 |cons x xs=>exact h.elim
theorem kF{s:Sh}{ss:List Sh}{xs:List D}(h:kD (s::ss) xs):∃a r,xs=a::r/\s.has a/\kD ss r:=by
 cases xs with
 |nil=>exact h.elim
 |cons x xs=>exact⟨x,xs,rfl,h.1,h.2⟩
end Go.V
