/- Lemmas on plain data and programs: part VE. -/
import Derived.Test.YtkgloohlmogakaaGreatDoorVC
import Derived.ChangeSame
import Derived.Below
import Derived.ReadAgain
import Derived.Deep.Slices
import Derived.ProofKit
import Derived.OpenShut
set_option linter.all false
set_option maxHeartbeats 8000000
namespace Go.V
open Go.RowKit Go.WideShapes Go.ChangeShapes
inductive Sh where
 |int (k:IntKind)
 |bool
 |str
 |slice (sz:Nat) (e:Sh)
 |agg (fs:List Sh)
mutual
def Sh.bT:Sh->Nat
 | .agg fs=>Sh.wh fs
 |_=>1
def Sh.wh:List Sh->Nat
 |[]=>0
 |f::fs=>f.bT+Sh.wh fs
end
def BG(P:Program)(sh:TypeId->Option Sh):Nat->List Field->Option (List Sh)
 |_,[]=>some []
 |o,f::fs=>match sh f.type with
  |some s=>if f.offset=o/\P.cellsOf f.type=s.bT then(BG P sh (o+s.bT) fs).map (s::·)else none
  |none=>none
def r7(P:Program):Nat->TypeId->Option Sh
 |0,_=>none
 |n+1,t=>match P.underlying t with
  |some .bool=>some .bool
  |some (.int k)=>some (.int k)
  |some .string=>some .str
  |some (.slice e)=>match r7 P n e with
   |some s=>if P.cellsOf e=s.bT/\0<s.bT/\0<P.bytesOf e then some (.slice s.bT s)else none
   |none=>none
  |some (.struct fs)=>match BG P (r7 P n) 0 fs.toList with
   |some l=>if P.cellsOf t=Sh.wh l then some (.agg l)else none
   |none=>none
  |some (.array k e)=>match r7 P n e with
   |some s=>if P.cellsOf e=s.bT/\P.cellsOf t=k * s.bT then some (.agg (List.replicate k s))else none
   |none=>none
  |_=>none
def Dp(P:Program)(n:Nat):List TypeId->Option (List Sh)
 |[]=>some []
 |t::ts=>match r7 P n t,Dp P n ts with
  |some s,some ss=>some (s::ss)
  |_,_=>none
def Sh.pack:Sh->List D->D
 | .agg _,ys=> .agg ys
 |_,ys=>ys.headD .undef
mutual
def Sh.b_:Sh->List D->Prop
 | .int k,cs=>∃n,cs=[.int k n]/\(Lit.int k n).wf=true
 | .bool,cs=>∃b,cs=[.bool b]
 | .str,cs=>∃s,cs=[.str s]/\s.length<=reachBytes
 | .slice sz e,cs=>∃es,cs=[.sl sz es]/\es.length<=reachBytes/\∀x∈es,∃ys,x=e.pack ys/\e.b_ ys
 | .agg fs,cs=>Sh.il fs cs
def Sh.il:List Sh->List D->Prop
 |[],cs=>cs=[]
 |f::fs,cs=>∃a b,cs=a++b/\f.b_ a/\Sh.il fs b
end
def Sh.has(s:Sh)(d:D):Prop:=∃ys,d=s.pack ys/\s.b_ ys
theorem Sh.wR{s:Sh}{ys:List D}(h:s.b_ ys):(s.pack ys).cells=ys:=by
 cases s with
 |agg fs=>rfl
 |int k=>simp only[Sh.b_]at h;obtain⟨n,rfl,_⟩:=h;rfl
 |bool=>simp only[Sh.b_]at h;obtain⟨n,rfl⟩:=h;rfl
 |str=>simp only[Sh.b_]at h;obtain⟨n,rfl,_⟩:=h;rfl
 |slice sz e=>simp only[Sh.b_]at h;obtain⟨n,rfl,_⟩:=h;rfl
mutual
def D.bulk:D->Nat
 | .str s=>s.length+1
 | .sl _ es=>D.dz es+1
 | .agg xs=>D.dz xs
 |_=>1
def D.dz:List D->Nat
 |[]=>0
 |x::xs=>x.bulk+D.dz xs
end
theorem x9:∀a b:List D,D.dz (a++b)=D.dz a+D.dz b
 |[],b=>by simp[D.dz]
 |x::a,b=>by rw[List.cons_append,D.dz,D.dz,x9 a b];omega
theorem rf{x:D}:∀ {l:List D},x∈l->x.bulk<=D.dz l
 |y::l,h=>by
  rw[D.dz];rcases List.mem_cons.1 h with rfl|h
  ·omega
  ·have:=rf h;omega
theorem Eo{α:Type}{g:α->D}{k:α->Nat}:∀ {l:List α},(∀x∈l,(g x).bulk<=k x)->D.dz (l.map g)<=(l.map k).sum
 |[],_=>Nat.le_refl _
 |x::l,h=>by
  rw[mC,mC,D.dz,List.sum_cons];have:=h x (List.mem_cons_self ..);have:=Eo fun y hy=>h y (List.mem_cons_of_mem _ hy);omega
structure BR{H:Type}(B:DataW H->Nat):Prop where
 one:∀d,1<=B d
 str:∀s,s.length+1<=B (.lit (.string s))
 slice:∀es sp,(es.map B).sum+1<=B (.slice es sp)
 agg:∀ps,(ps.map B).sum<=B (.agg ps)
theorem Sh.Fe{s:Sh}{ys:List D}(h:s.b_ ys):(s.pack ys).bulk=D.dz ys:=by
 cases s with
 |agg fs=>rfl
 |int k=>simp only[Sh.b_]at h;obtain⟨n,rfl,_⟩:=h;rfl
 |bool=>simp only[Sh.b_]at h;obtain⟨n,rfl⟩:=h;rfl
 |str=>simp only[Sh.b_]at h;obtain⟨n,rfl,_⟩:=h;rfl
 |slice sz e=>simp only[Sh.b_]at h;obtain⟨n,rfl,_⟩:=h;rfl
section
variable {H:Type} {enc:TypeId×Value->H} {P:Program} {w:World} {base:Nat} {held:Bool} {B:DataW H->Nat}
def i_(w:World)(ds:List D)(cs:List Value):Prop:=
 ds.length=cs.length/\∀(j:Nat) c,ds[j]? =some c->∃u,cs[j]? =some u/\br w (fun b=>b<w.heap.size) c u/\u.oneCell'=true
theorem i_.one{d:D}{u:Value}(h:br w (fun b=>b<w.heap.size) d u)(h1:u.oneCell'=true):i_ w [d] [u]:=
 ⟨rfl,fun j c hj=>by
  cases j with
  |zero=>simp only[List.getElem?_cons_zero,sJ]at hj;subst hj;exact⟨u,rfl,h,h1⟩
  |succ j=>simp at hj⟩
theorem i_.append{ds es:List D}{cs us:List Value}(h:i_ w ds cs)(k:i_ w es us):i_ w (ds++es) (cs++us):=by
 refine⟨by simp[h.1,k.1],fun j c hj=>?_⟩;by_cases ar:j<ds.length
 ·rw[List.getElem?_append_left ar]at hj;rw[List.getElem?_append_left (by rw[<-h.1];exact ar)];exact h.2 j c hj
 ·rw[List.getElem?_append_right oM]at hj;rw[List.getElem?_append_right (by rw[<-h.1];omega),<-h.1];exact k.2 _ c hj
def vS(P:Program)(t:TypeId)(d:DataW H):Prop:=∀k∈d.weights P t,k<=reachBytes
theorem qL{e:TypeId}{k:Nat}:∀ {l:List (DataW H)} {d:DataW H},d∈l->k∈d.weights P e->k∈DataW.weightsAll P e l
 |x::l,d,h,hk=>by
  simp only[DataW.weightsAll,List.mem_append];rcases List.mem_cons.1 h with rfl|h
  ·exact .inl hk
  ·exact .inr (qL h hk)
theorem qc{k:Nat}:∀ {ts:List TypeId} {ds:List (DataW H)} {i:Nat} {t:TypeId} {d:DataW H},ts[i]? =some t->ds[i]? =some d->k∈d.weights P t->k∈DataW.weightsEach P ts ds
 |[],ds,i,t,d,h,_,_=>by simp at h
 |_::_,[],i,t,d,_,h,_=>by simp at h
 |t'::ts,d'::ds,0,t,d,h1,h2,hk=>by
  simp at h1 h2;subst h1;subst h2;simp only[DataW.weightsEach,List.mem_append];exact .inl hk
 |t'::ts,d'::ds,i+1,t,d,h1,h2,hk=>by
  simp only[DataW.weightsEach,List.mem_append];exact .inr (qc (by simpa using h1) (by simpa using h2) hk)
def HK{r:Reach}{b0 k:Nat}{t e:TypeId}{v:Value}(ht:P.underlying t=some (.array k e))(h:Value.okWide P w r b0 t v):∃cs,v= .agg cs/\cs.size=P.cellsOf t:=by
 simp only[Value.okWide,ht]at h;obtain⟨cs,h1,h2,_⟩:=h;exact⟨cs,h1,h2⟩
theorem Gn(s:Sh):∀k,Sh.wh (List.replicate k s)=k * s.bT
 |0=>by simp[Sh.wh]
 |k+1=>by rw[List.replicate_succ,Sh.wh,Gn s k,Nat.succ_mul];omega
theorem sR(hB:BR B):∀(n:Nat) (t:TypeId) (s:Sh) (fuel:Nat) (cs:List Value) (x:DataW H×List MemPlace),r7 P n t=some s->DataW.trod enc P w base (fun _=>true) held fuel t cs=some x->vS P t x.1->
 ∃ds,s.b_ ds/\i_ w ds cs/\cs.length=s.bT/\D.dz ds<=B x.1
 |0,_,_,_,_,_,h,_,_=>by simp[r7]at h
 |n+1,t,s,fuel,cs,x,h,ht,uC=>by
  simp only[r7]at h;split at h
  ·rename_i hu;injection h with h;subst h;obtain⟨b,rfl,_⟩:=DataW.trod_bool hu ht;exact⟨[.bool b],⟨b,rfl⟩,.one (.bool b) rfl,rfl,hB.one _⟩
  ·rename_i k hu;injection h with h;subst h;obtain⟨i,rfl,_,hw⟩:=DataW.trod_int hu ht;exact⟨[.int k i],⟨i,rfl,hw⟩,.one (.int k i) rfl,rfl,hB.one _⟩
  ·rename_i hu;injection h with h;subst h;obtain⟨b,rfl,rfl,hl⟩:=DataW.trod_string hu ht;exact⟨[.str b.data.toList],⟨b.data.toList,rfl,uC _ (by simp[DataW.weights])⟩,.one (.str b.data.toList) rfl,rfl,hB.str _⟩
  ·rename_i e hu;split at h
   ·rename_i se gn;split at h
    ·rename_i hc;obtain⟨hce,eI,Zo⟩:=hc;injection h with h;subst h;rcases Go.Deep.open_slice hu ht with⟨rfl,_⟩|⟨a,len,cap,m,nn,Dx,Pl,rfl,hb,rn,pO,hm,hx,hi⟩
     ·exact⟨[.sl se.bT []],⟨[],rfl,Nat.zero_le _,fun _ h=>by cases h⟩,.one (.sl (b:=0) (off:=0) (us:=fun _ _=>undef) rfl (Nat.le_refl _) (Nat.zero_le _) (fun h=>absurd rfl h) sI sI sI sI) rfl,rfl,hB.one _⟩
     ·simp only[if_true]at hm;subst hm;subst hx;have hlen:len<=reachBytes:=by
       have h1:=uC ((len+(m - len)) * P.bytesOf e) (by simp[DataW.weights,hu]);have h2:(len+(m - len)) * 1<=(len+(m - len)) * P.bytesOf e:=Nat.mul_le_mul_left _ Zo;omega
      have ar:∀i,i<len->vS P e (Dx i):=fun i hi k hk=>uC k (by
       simp only[DataW.weights,hu,List.mem_cons,List.mem_append];exact .inr (.inl (qL (List.mem_map.2 ⟨i,List.mem_range.2 hi,rfl⟩) hk)))
      have eF:∀i,i<len->∃ds ow,se.b_ ds/\i_ w ds ow/\ow.length=se.bT/\(∀j,j<se.bT->w.cell? ((a.add (i * se.bT)).add j)=ow[j]?)/\D.dz ds<=B (Dx i):=by
       intro i jF;obtain⟨ow,eU,htr⟩:=hi i oM;obtain⟨ds,h1,h2,h3,h4⟩:=sR hB n e se _ _ _ gn htr (ar i jF);rw[hce]at eU;obtain⟨_,fJ,fN⟩:=World.cells?_some eU;exact⟨ds,ow,h1,h2,h3,fN,h4⟩
      have Zy:∃f:Nat->List D,∀i,i<len->∃ow,se.b_ (f i)/\i_ w (f i) ow/\ow.length=se.bT/\(∀j,j<se.bT->w.cell? ((a.add (i * se.bT)).add j)=ow[j]?)/\D.dz (f i)<=B (Dx i):=by
       refine⟨fun i=>if hl:i<len then Classical.choose (eF i hl)else[],fun i hl=>?_⟩;simp only[hl,dif_pos];exact Classical.choose_spec (eF i hl)
      obtain⟨f,xG⟩:=Zy;have hf:∀i,i<len->∃ow,se.b_ (f i)/\i_ w (f i) ow/\ow.length=se.bT/\∀j,j<se.bT->w.cell? ((a.add (i * se.bT)).add j)=ow[j]?:=fun i hi=>by
       obtain⟨ow,h1,h2,h3,h4,_⟩:=xG i hi;exact⟨ow,h1,h2,h3,h4⟩
      have hfb:∀i,i<len->(se.pack (f i)).bulk<=B (Dx i):=fun i hi=>by
       obtain⟨ow,h1,_,_,_,h5⟩:=xG i hi;rw[Sh.Fe h1];exact h5
      have eo:∀(i:Nat) d,((List.range len).map fun i=>se.pack (f i))[i]? =some d->i<len/\d=se.pack (f i):=by
       intro i d hd;rw[gM,mS]at hd;obtain⟨k,hk,rfl⟩:=hd;have ar:=(gS.1 hk).1;rw[List.length_range]at ar;rw[List.getElem?_range ar]at hk;injection hk with hk;subst hk;exact⟨ar,rfl⟩
      have jt:∀(i:Nat) d (j:Nat) c,((List.range len).map fun i=>se.pack (f i))[i]? =some d->d.cells[j]? =some c->∃u,w.cell? ⟨a.block,a.off+i * se.bT+j,Option.none⟩=some u/\a.spot=Option.none/\a.block<w.heap.size/\br w (fun b=>b<w.heap.size) c u/\u.oneCell'=true:=by
       intro i d j c hd hj;obtain⟨jF,rfl⟩:=eo i d hd;obtain⟨ow,h1,h2,h3,h4⟩:=hf i jF;rw[Sh.wR h1]at hj;obtain⟨u,hu,hp,fg⟩:=h2.2 j c hj;have pQ:j<se.bT:=by have:=(gS.1 hu).1;omega
       have hw:=(h4 j pQ).trans hu;have yK:a.spot=Option.none:=by
        obtain⟨cs0,k1,k2,k3,k4⟩:=hf 0 oM;have k5:=k4 0 eI;rw[Nat.zero_mul]at k5;have k6:(a.add 0).add 0=a:=by simp[Addr.add]
        rw[k6,gE (show 0<cs0.length by omega)]at k5;unfold World.cell? at k5;split at k5
        ·split at k5
         ·cases k5
         ·rename_i hs;simpa using hs
        ·cases k5
       have K4:(a.add (i * se.bT)).add j=⟨a.block,a.off+i * se.bT+j,Option.none⟩:=by
        obtain⟨b,o,sp⟩:=a;simp only at yK;subst yK;rw[Addr.ea,Addr.ea]
       rw[K4]at hw;refine⟨u,hw,yK,?_,hp,fg⟩;unfold World.cell? at hw;split at hw
       ·rename_i hg;exact(Array.getElem?_eq_some_iff.1 hg).1
       ·cases hw
      have gL:∀(i:Nat) d (j:Nat) c,((List.range len).map fun i=>se.pack (f i))[i]? =some d->d.cells[j]? =some c->w.cell? ⟨a.block,a.off+i * se.bT+j,Option.none⟩=some ((w.cell? ⟨a.block,a.off+i * se.bT+j,Option.none⟩).getD undef)/\
       br w (fun b=>b<w.heap.size) c ((w.cell? ⟨a.block,a.off+i * se.bT+j,Option.none⟩).getD undef)/\((w.cell? ⟨a.block,a.off+i * se.bT+j,Option.none⟩).getD undef).oneCell'=true:=by
       intro i d j c hd hj;obtain⟨u,h1,_,_,h2,h3⟩:=jt i d j c hd hj;rw[h1];exact⟨rfl,h2,h3⟩
      refine⟨[.sl se.bT ((List.range len).map fun i=>se.pack (f i))],⟨_,rfl,by simpa using hlen,fun y hy=>?_⟩,.one (.sl (b:=a.block) (off:=a.off) (us:=fun i j=>(w.cell? ⟨a.block,a.off+i * se.bT+j,Option.none⟩).getD undef) sI rn pO (fun bq=>?_) (fun i d hd=>?_) (fun i d j c hi hj=>(gL i d j c hi hj).1) (fun i d j c hi hj=>(gL i d j c hi hj).2.2) (fun i d j c hi hj=>(gL i d j c hi hj).2.1)) rfl,rfl,?_⟩
      ·obtain⟨i,hi,rfl⟩:=List.mem_map.1 hy;obtain⟨ow,h1,_⟩:=hf i (List.mem_range.1 hi);exact⟨f i,rfl,h1⟩
      ·have AA:0<len:=by
        rcases Nat.eq_zero_or_pos len with h0|h0
        ·subst h0;simp at bq
        ·exact h0
       have nd:((List.range len).map fun i=>se.pack (f i))[0]? =some (se.pack (f 0)):=by rw[gM,List.getElem?_range AA];rfl
       obtain⟨ow,h1,h2,h3,_⟩:=hf 0 AA;have hlen:0<(se.pack (f 0)).cells.length:=by rw[Sh.wR h1,h2.1,h3];exact eI
       obtain⟨u,_,yK,RH,_⟩:=jt 0 _ 0 _ nd (gE hlen);refine⟨?_,RH⟩;obtain⟨b,o,sp⟩:=a;simp only at yK;subst yK;rfl
      ·obtain⟨jF,rfl⟩:=eo i d hd;obtain⟨ow,h1,h2,h3,_⟩:=hf i jF;rw[Sh.wR h1,h2.1,h3]
      ·refine Nat.le_trans ?_ (hB.slice _ _);have h1:=Eo (g:=fun i=>se.pack (f i)) (k:=fun i=>B (Dx i)) (l:=List.range len) fun i hi=>hfb i (List.mem_range.1 hi);rw[List.map_map];simp only[D.dz,D.bulk];exact Nat.succ_le_succ h1
    ·cases h
   ·cases h
  ·rename_i fs hu;split at h
   ·rename_i l hl;split at h
    ·rename_i hc;injection h with h;subst h;obtain⟨xs,m,_,Wy,fJ,lG,hf⟩:=DataW.trod_struct hu ht;subst Wy;have ar:∀(i:Nat) (f:Field) (x:DataW H×List MemPlace),fs[i]? =some f->xs[i]? =some x->vS P f.type x.1:=fun i f x h1 h2 k hk=>uC k (by
      simp only[DataW.weights,hu];exact qc (i:=i) (by rw[gM,aG,h1];rfl) (by rw[gM,h2];rfl) hk)
     have key:∀(F:List Field) (o:Nat) (l:List Sh) (cs:List Value) (X:List (DataW H)),BG P (r7 P n) o F=some l->cs.length=Sh.wh l->(∀(i:Nat) (f:Field),F[i]? =some f->∃x,X[i]? =some x.1/\DataW.trod enc P w base (fun _=>true) held m f.type ((cs.drop (f.offset - o)).take (P.cellsOf f.type))=some x/\vS P f.type x.1)->
      ∃ds,Sh.il l ds/\i_ w ds cs/\D.dz ds<=(X.map B).sum:=by
      intro F;induction F with
      |nil=>
       intro o l cs X hl eU _;simp only[BG,sJ]at hl;subst hl;simp only[Sh.wh]at eU;obtain rfl:=List.eq_nil_of_length_eq_zero eU;exact⟨[],rfl,⟨rfl,fun j c hj=>by simp at hj⟩,Nat.zero_le _⟩
      |cons f F ih=>
       intro o l cs X hl eU hf;simp only[BG]at hl;split at hl
       ·rename_i s hs;split at hl
        ·rename_i ho;rw[mS]at hl;obtain⟨l',xI,rfl⟩:=hl;simp only[Sh.wh]at eU;obtain⟨x,hX,hx,Qq⟩:=hf 0 f rfl;obtain⟨X',rfl⟩:∃X',X=x.1::X':=by
          cases X with
          |nil=>simp at hX
          |cons y X'=>simp at hX;subst hX;exact⟨X',rfl⟩
         rw[ho.1,Nat.sub_self,List.drop_zero,ho.2]at hx;obtain⟨a,h1,h2,h3,h4⟩:=sR hB n f.type s m _ _ hs hx Qq;obtain⟨b,k1,k2,k3⟩:=ih (o+s.bT) l' (cs.drop s.bT) X' xI (by simp;omega) (fun i g hg=>by
          obtain⟨y,hY,hy,ll⟩:=hf (i+1) g (by simpa using hg);refine⟨y,by simpa using hY,?_,ll⟩;have dQ:o+s.bT<=g.offset:=by
           have:∀(F:List Field) (o:Nat) (l:List Sh),BG P (r7 P n) o F=some l->∀g∈F,o<=g.offset:=by
            intro F;induction F with
            |nil=>intro o l _ g hg;cases hg
            |cons f F ih2=>
             intro o l hl g hg;simp only[BG]at hl;split at hl
             ·split at hl
              ·rename_i tE;rw[mS]at hl;obtain⟨l2,pk,_⟩:=hl;rcases List.mem_cons.1 hg with rfl|hg
               ·omega
               ·have:=ih2 _ _ pk g hg;omega
              ·cases hl
             ·cases hl
           exact this F _ _ xI g (mG hg)
          rw[List.drop_drop];have:s.bT+(g.offset - (o+s.bT))=g.offset - o:=oM;rw[this];exact hy)
         refine⟨a++b,⟨a,b,rfl,h1,k1⟩,?_,by rw[x9,mC,List.sum_cons];omega⟩;have:=h2.append k2;rw[List.take_append_drop]at this;exact this
        ·cases hl
       ·cases hl
     obtain⟨ds,h1,h2,h3⟩:=key fs.toList 0 l cs (xs.map (·.1)) hl (by rw[fJ,hc]) (fun i f hfi=>by
      rw[Nat.sub_zero];have dH:fs[i]? =some f:=by rw[<-aG];exact hfi
      have Be:i<xs.length:=by rw[lG];exact(Array.getElem?_eq_some_iff.1 dH).1
      exact⟨xs[i],by rw[gM,gE Be];rfl,by rw[hf i f dH];exact gE Be,ar i f xs[i] dH (gE Be)⟩)
     exact⟨ds,h1,h2,by rw[fJ,hc];simp[Sh.bT],Nat.le_trans h3 (hB.agg _)⟩
    ·cases h
   ·cases h
  ·rename_i k e hu;split at h
   ·rename_i se gn;split at h
    ·rename_i hc;injection h with h;subst h;obtain⟨xs,m,_,Wy,fJ,lG,fN⟩:=DataW.trod_array hu ht;subst Wy;rw[hc.2]at fJ;have key:∀(X:List (DataW H×List MemPlace)) (cs:List Value),cs.length=X.length * se.bT->(∀(i:Nat) x,X[i]? =some x->DataW.trod enc P w base (fun _=>true) held m e ((cs.drop (i * se.bT)).take se.bT)=some x/\vS P e x.1)->
      ∃ds,Sh.il (List.replicate X.length se) ds/\i_ w ds cs/\D.dz ds<=((X.map (·.1)).map B).sum:=by
      intro X;induction X with
      |nil=>
       intro cs eU _;rw[List.length_nil,Nat.zero_mul]at eU;obtain rfl:=List.eq_nil_of_length_eq_zero eU;exact⟨[],rfl,⟨rfl,fun j c hj=>by simp at hj⟩,Nat.zero_le _⟩
      |cons x X ih=>
       intro cs eU hf;rw[List.length_cons,Nat.succ_mul]at eU;obtain⟨hx,Qq⟩:=hf 0 x rfl;rw[Nat.zero_mul,List.drop_zero]at hx;obtain⟨a,h1,h2,h3,h4⟩:=sR hB n e se m _ _ gn hx Qq;obtain⟨b,k1,k2,k3⟩:=ih (cs.drop se.bT) (by rw[List.length_drop];omega) (fun i y hy=>by
        obtain⟨g1,g2⟩:=hf (i+1) y (by simpa using hy);refine⟨?_,g2⟩;rw[List.drop_drop,show se.bT+i * se.bT=(i+1) * se.bT by rw[Nat.succ_mul];omega];exact g1)
       refine⟨a++b,?_,?_,by rw[x9,mC,mC,List.sum_cons];omega⟩
       ·rw[List.length_cons,List.replicate_succ];exact⟨a,b,rfl,h1,k1⟩
       ·have:=h2.append k2;rw[List.take_append_drop]at this;exact this
     obtain⟨ds,h1,h2,h3⟩:=key xs cs (by rw[fJ,lG]) (fun i x hx=>by
      have ar:=(gS.1 hx).1;refine⟨by rw[<-hc.1,fN i oM];exact hx,fun k hk=>uC k ?_⟩;simp only[DataW.weights,hu];exact qL (List.mem_map.2 ⟨x,mG hx,rfl⟩) hk)
     rw[lG]at h1;exact⟨ds,h1,h2,by rw[fJ,Sh.bT,Gn],Nat.le_trans h3 (hB.agg _)⟩
    ·cases h
   ·cases h
  ·cases h
def Q8(hB:BR B){r:Reach}{b0:Nat}{n:Nat}{t:TypeId}{s:Sh}{v:Value}{d:DataW H}{ps:List MemPlace}(hs:r7 P n t=some s)(bD:Value.okWide P w r b0 t v)(h:DataW.Trod enc P w base (fun _=>true) held t v d ps)(uC:vS P t d):
 ∃x,s.has x/\x.bulk<=B d/\br w (fun b=>b<w.heap.size) x v:=by
 obtain⟨fuel,hf⟩:=h;obtain⟨ds,h1,h2,h3,h4⟩:=sR hB n t s fuel _ _ hs hf uC;refine⟨s.pack ds,⟨ds,rfl,h1⟩,by rw[Sh.Fe h1];exact h4,?_⟩;cases n with
 |zero=>simp[r7]at hs
 |succ n=>
  simp only[r7]at hs;have single:∀y,ds=[y]->v.cells= #[v]->br w (fun b=>b<w.heap.size) y v:=by
   intro y hy hc;subst hy;obtain⟨u,hu,hp,_⟩:=h2.2 0 y rfl;rw[hc]at hu;simp only[List.getElem?_cons_zero,sJ]at hu;subst hu;exact hp
  split at hs
  ·rename_i hu;injection hs with hs;subst hs;obtain⟨b,rfl⟩:=okWide_bool hu bD;simp only[Sh.b_]at h1;obtain⟨b',rfl⟩:=h1;exact single _ rfl rfl
  ·rename_i k hu;injection hs with hs;subst hs;obtain⟨b,rfl⟩:=okWide_int hu bD;simp only[Sh.b_]at h1;obtain⟨b',rfl,_⟩:=h1;exact single _ rfl rfl
  ·rename_i hu;injection hs with hs;subst hs;obtain⟨b,rfl⟩:=okWide_string hu bD;simp only[Sh.b_]at h1;obtain⟨b',rfl,_⟩:=h1;exact single _ rfl rfl
  ·rename_i e hu;split at hs
   ·split at hs
    ·injection hs with hs;subst hs;obtain⟨a,l,c,rfl⟩:=okWide_slice hu bD;simp only[Sh.b_]at h1;obtain⟨b',rfl,_⟩:=h1;exact single _ rfl rfl
    ·cases hs
   ·cases hs
  ·rename_i fs hu;split at hs
   ·split at hs
    ·injection hs with hs;subst hs;obtain⟨cs,rfl,bP⟩:=okWide_struct hu bD;refine .agg (by have:=h2.1;simp only[Value.cells,Array.length_toList]at this;exact this.symm) fun i x u hx gp=>?_;obtain⟨u',lF,hp,_⟩:=h2.2 i x hx;simp only[Value.cells,aG]at lF;rw[lF]at gp;injection gp with gp;subst gp;exact hp
    ·cases hs
   ·cases hs
  ·rename_i k e hu;split at hs
   ·split at hs
    ·injection hs with hs;subst hs;obtain⟨cs,rfl,bP⟩:=HK hu bD;refine .agg (by have:=h2.1;simp only[Value.cells,Array.length_toList]at this;exact this.symm) fun i x u hx gp=>?_;obtain⟨u',lF,hp,_⟩:=h2.2 i x hx;simp only[Value.cells,aG]at lF;rw[lF]at gp;injection gp with gp;subst gp;exact hp
    ·cases hs
   ·cases hs
  ·cases hs
end
end Go.V
namespace Go.V
open Go.RowKit Go.WideShapes Go.ChangeShapes Go.ChangeAt
section
variable {H:Type} {enc:TypeId×Value->H} {P:Program} {w w':World} {B:DataW H->Nat}
theorem xU{base:Nat}{sp:Nat->Bool}{held:Bool}(hb:Below w.heap.size w w'):∀ {ts:List TypeId} {vs:List Value} {ds:List (DataW H)} {ps:List MemPlace},DataW.TrodAll enc P w base sp held ts vs ds ps->DataW.TrodAll enc P w' base sp held ts vs ds ps
 |[],vs,ds,ps,h=>by
  obtain⟨rfl,rfl,rfl⟩:=trodAll_nil h;rfl
 |t::ts,vs,ds,ps,h=>by
  obtain⟨v,ff,d,ds',p,q,rfl,rfl,rfl,⟨n,hn⟩,h2⟩:=trodAll_cons h;exact trodAll_cons_mk ⟨n,DataW.trod_carry n _ _ _ hn (fun p hp=>hb.same (DataW.trod_lt n _ _ _ hn p hp))⟩ (xU hb h2)
def qo:List Sh->List D->Prop
 |[],[]=>True
 |s::ss,d::ds=>s.has d/\qo ss ds
 |_,_=>False
theorem Gb(hB:BR B){b0 n:Nat}:∀ {ts:List TypeId} {vs:List Value} {ds:List (DataW H)} {ps:List MemPlace} {ss:List Sh},Dp P n ts=some ss->(∀(j:Nat) t v,ts[j]? =some t->vs[j]? =some v->Value.okWide P w .any b0 t v)->
 DataW.TrodAll enc P w 0 (fun _=>true) true ts vs ds ps->(∀(j:Nat) t d,ts[j]? =some t->ds[j]? =some d->vS P t d)->∃xs,qo ss xs/\D.dz xs<=(ds.map B).sum/\vs.length=xs.length/\ds.length=ts.length/\∀(i:Nat) x v,xs[i]? =some x->vs[i]? =some v->br w (fun b=>b<w.heap.size) x v
 |[],vs,ds,ps,ss,hs,bD,h,_=>by
  obtain⟨rfl,rfl,rfl⟩:=trodAll_nil h;simp only[Dp,sJ]at hs;subst hs;exact⟨[],trivial,Nat.le_refl _,rfl,rfl,fun i x v hx=>by simp at hx⟩
 |t::ts,vs,ds,ps,ss,hs,bD,h,uC=>by
  obtain⟨v,ff,d,ds',p,q,rfl,rfl,rfl,h1,h2⟩:=trodAll_cons h;simp only[Dp]at hs;split at hs
  ·rename_i s ss' qm uA;injection hs with hs;subst hs;obtain⟨x,g1,g3,g2⟩:=Q8 hB qm (bD 0 t v rfl rfl) h1 (uC 0 t d rfl rfl);obtain⟨xs,k1,k0,k2,k3,k4⟩:=Gb hB uA (fun j t v ht hv=>bD (j+1) t v (by simpa using ht) (by simpa using hv)) h2 (fun j t d ht hd=>uC (j+1) t d (by simpa using ht) (by simpa using hd));refine⟨x::xs,⟨g1,k1⟩,by rw[mC,List.sum_cons,D.dz];omega,by simp[k2],by simp[k3],fun i y u hy hu=>?_⟩;cases i with
   |zero=>simp only[List.getElem?_cons_zero,sJ]at hy hu;subst hy;subst hu;exact g2
   |succ i=>exact k4 i y u (by simpa using hy) (by simpa using hu)
  ·cases hs
end
def OW(P:Program):Prop:=laidOutB P=true/\mapsRowed P=true/\∀t e,t<P.types.size->P.underlying t=some (.slice e)->0<P.cellsOf e
def NV{H:Type}{B:DataW H->Nat}(hB:BR B){N:Nat}{enc:TypeId×Value->H}{P:Program}(La:OW P){f:FuncId}{fn:Func}{c:Code}{s:ChangeSpec}{apart fresh handsOn:Bool}{tb:TypeId}{n:Nat}{ss:List Sh}(hf:P.funcs[f]? =some fn)(Zm:fn.body=some c)
 (eM:(fn.name== "runtime.NumGoroutine")=false) (kH:∀t∈fn.params.toList,t<P.types.size) (sd:Dp P n fn.params.toList=some ss) (Bg:fn.resultTypes= #[tb]) (Zn:P.underlying tb=some .bool) (R8:s.vars=[])
 (NB:∀ds:List (DataW H),ds.length=fn.params.size->s.fn H ds={results:=[.lit (.bool true)],args:=ds}) (eG:∀xs,qo ss xs->D.dz xs<=N->ao P f xs (.bool true))
 (W:World) (G6:br W (fun b=>b<W.heap.size) .fI undef) (base:Nat) (args:Array Value) (ds gs:List (DataW H)) (before:List MemPlace)
 (mH:∀(j:Nat) t v,fn.params[j]? =some t->args[j]? =some v->Value.okWide P W .any base t v) (hW:DataW.Whole enc P fn.params.toList s.vars apart W args.toList ds gs before) (uC:(DataW.weightsEach P (fn.params.toList++s.plain.varTypes P) (ds++gs)).all (· <=reachBytes)=true) (hN:((ds++gs).map B).sum<=N):
 Calls P f args W fun e W'=>∃v,e= .returned v/\s.post enc P fn apart fresh handsOn false W args v W':=by
 have hW':=hW;obtain⟨p,q,hA,hV,hp,_,_⟩:=hW;rw[R8]at hV;obtain⟨rfl,rfl⟩:=trodVars_none hV;obtain⟨xs,k1,k0,k2,k3,k4⟩:=Gb hB sd (fun j t v ht hv=>mH j t v (by rw[<-aG];exact ht) (by rw[<-aG];exact hv)) hA (fun j t d ht hd k hk=>by
  have h1:=List.all_eq_true.1 uC k (qc (i:=j) (t:=t) (d:=d) (by rw[List.getElem?_append_left (gS.1 ht).1];exact ht) (by rw[List.append_nil];exact hd) hk);simpa using h1)
 have key:=eG xs k1 (Nat.le_trans k0 (by simpa using hN)) W (fun b=>b<W.heap.size) args (fun b hb=>hb) G6 (by simpa using k2) (fun i x v hx hv=>k4 i x v hx (by rw[aG];exact hv));have bR:=Go.MuLone.run_callFunc_enter hf eM Zm args W;rcases key with⟨_,key⟩|⟨v,w',h1,_⟩
 ·refine Calls.mono key fun e W' ⟨v,he,Zz⟩=>⟨v,he,?_⟩
  obtain⟨fq,hb⟩:=Zz;obtain rfl:v= .bool true:=by cases fq;rfl
  have hk:Kids P (· <P.types.size):=kids_rows La.1 La.2.1;have hlen:ds.length=fn.params.size:=by rw[k3];simp
  have Zl:∀sp:Nat->Bool,(∀p∈before,sp p.block=true)->DataW.TrodAll enc P W' 0 sp true fn.params.toList args.toList ds p:=fun sp yK=>xU hb (hA.respare hk (fun t e=>La.2.2 t e) kH (fun x hx=>yK x (by rw[hp];simp[hx])));have hold:∀p∈before,(fun b=>decide (b<W.heap.size)) p.block=true:=fun p hp=>by simpa using hW'.lt p hp
  refine⟨ds,[],before,[],p,[],hW',?_,?_,?_,World.keptBut_mono (fun x hx=>⟨hx,?_⟩) (hb.frame (· ∈before)),fun h=>by cases h⟩
  ·rw[List.append_nil,NB ds hlen,Bg];exact trodAll_mk1 (shut_bool Zn true)
  ·rw[List.append_nil,NB ds hlen];exact Zl _ hold
  ·rw[List.append_nil,NB ds hlen,R8];rfl
  ·rw[hp,List.append_nil]at hx;exact .inr (.inl hx)
 ·rw[bR]at h1;cases h1
def S9{P:Program}(h1:laidOutB P=true)(h2:mapsRowed P=true)(h3:((List.range P.types.size).all fun t=>match P.underlying t with|some (.slice e)=>decide (0<P.cellsOf e)|_=>true)=true):OW P:=by
 refine⟨h1,h2,fun t e ht hu=>?_⟩;rw[List.all_eq_true]at h3;have:=h3 t (List.mem_range.2 ht);rw[hu]at this;simpa using this
def Od{P:Program}{ts:List TypeId}(h:(ts.all fun t=>decide (t<P.types.size))=true):∀t∈ts,t<P.types.size:=by
 intro t ht;rw[List.all_eq_true]at h;simpa using h t ht
theorem O2{xs:List D}(h:qo [] xs):xs=[]:=by
 cases xs with
 |nil=>rfl
 |cons x xs=>exact h.elim
theorem uq{s:Sh}{ss:List Sh}{xs:List D}(h:qo (s::ss) xs):∃a r,xs=a::r/\s.has a/\qo ss r:=by
 cases xs with
 |nil=>exact h.elim
 |cons x xs=>exact⟨x,xs,rfl,h.1,h.2⟩
end Go.V
