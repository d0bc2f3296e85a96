/- Lemmas on plain data and programs: part VE. -/
import Derived.Test.YtkknfajchefgaaaGreatDoorVC
import Derived.ChangeSame
import Derived.Below
import Derived.ReadAgain
import Derived.Deep.Slices
import Derived.ProofKit
import Derived.OpenShut
set_option linter.all false
set_option maxHeartbeats 8000000
namespace Go.V
open Go.RowKit Go.WideShapes Go.ChangeShapes
inductive Sh where
 |int (k:IntKind)
 |bool
 |str
 |slice (sz:Nat) (e:Sh)
 |agg (fs:List Sh)
mutual
def Sh.eF:Sh->Nat
 | .agg fs=>Sh.Ap fs
 |_=>1
def Sh.Ap:List Sh->Nat
 |[]=>0
 |f::fs=>f.eF+Sh.Ap fs
end
def FE(P:Program)(sh:TypeId->Option Sh):Nat->List Field->Option (List Sh)
 |_,[]=>some []
 |o,f::fs=>match sh f.type with
  |some s=>if f.offset=o/\P.cellsOf f.type=s.eF then(FE P sh (o+s.eF) fs).map (s::·)else none
  |none=>none
def vF(P:Program):Nat->TypeId->Option Sh
 |0,_=>none
 |n+1,t=>match P.underlying t with
  |some .bool=>some .bool
  |some (.int k)=>some (.int k)
  |some .string=>some .str
  |some (.slice e)=>match vF P n e with
   |some s=>if P.cellsOf e=s.eF/\0<s.eF/\0<P.bytesOf e then some (.slice s.eF s)else none
   |none=>none
  |some (.struct fs)=>match FE P (vF P n) 0 fs.toList with
   |some l=>if P.cellsOf t=Sh.Ap l then some (.agg l)else none
   |none=>none
  |some (.array k e)=>match vF P n e with
   |some s=>if P.cellsOf e=s.eF/\P.cellsOf t=k * s.eF then some (.agg (List.replicate k s))else none
   |none=>none
  |_=>none
def HJ(P:Program)(n:Nat):List TypeId->Option (List Sh)
 |[]=>some []
 |t::ts=>match vF P n t,HJ P n ts with
  |some s,some ss=>some (s::ss)
  |_,_=>none
def Sh.pack:Sh->List D->D
 | .agg _,ys=> .agg ys
 |_,ys=>ys.headD .undef
mutual
def Sh.cp:Sh->List D->Prop
 | .int k,cs=>∃n,cs=[.int k n]/\(Lit.int k n).wf=true
 | .bool,cs=>∃b,cs=[.bool b]
 | .str,cs=>∃s,cs=[.str s]/\s.length<=reachBytes
 | .slice sz e,cs=>∃es,cs=[.sl sz es]/\es.length<=reachBytes/\∀x∈es,∃ys,x=e.pack ys/\e.cp ys
 | .agg fs,cs=>Sh.jo fs cs
def Sh.jo:List Sh->List D->Prop
 |[],cs=>cs=[]
 |f::fs,cs=>∃a b,cs=a++b/\f.cp a/\Sh.jo fs b
end
def Sh.has(s:Sh)(d:D):Prop:=∃ys,d=s.pack ys/\s.cp ys
theorem Sh.AZ{s:Sh}{ys:List D}(h:s.cp ys):(s.pack ys).cells=ys:=by
 cases s with
 |agg fs=>rfl
 |int k=>obtain⟨n,rfl,_⟩:=h;rfl
 |bool=>obtain⟨n,rfl⟩:=h;rfl
 |str=>obtain⟨n,rfl,_⟩:=h;rfl
 |slice sz e=>obtain⟨n,rfl,_⟩:=h;rfl
mutual
def D.bulk:D->Nat
 | .str s=>s.length+1
 | .sl _ es=>D.jY es+1
 | .agg xs=>D.jY xs
 |_=>1
def D.jY:List D->Nat
 |[]=>0
 |x::xs=>x.bulk+D.jY xs
end
theorem Jz:∀a b:List D,D.jY (a++b)=D.jY a+D.jY b
 :=by intro a;induction a<;>grind [D.jY]
theorem JA{α:Type}{g:α->D}{k:α->Nat}:∀ {l:List α},(∀x∈l,(g x).bulk<=k x)->D.jY (l.map g)<=(l.map k).sum
 |[],_=>aaN _
 |x::l,h=>by
  rw[abk,abk,D.jY,aqf];have:=h x (aeY ..);have:=JA fun y hy=>h y (aa2 _ hy);omega
structure FP{H:Type}(B:DataW H->Nat):Prop where
 one:∀d,1<=B d
 str:∀s,s.length+1<=B (.lit (.string s))
 slice:∀es sp,(es.map B).sum+1<=B (.slice es sp)
 agg:∀ps,(ps.map B).sum<=B (.agg ps)
theorem Sh.KJ{s:Sh}{ys:List D}(h:s.cp ys):(s.pack ys).bulk=D.jY ys:=by
 cases s with
 |agg fs=>rfl
 |int k=>obtain⟨n,rfl,_⟩:=h;rfl
 |bool=>obtain⟨n,rfl⟩:=h;rfl
 |str=>obtain⟨n,rfl,_⟩:=h;rfl
 |slice sz e=>obtain⟨n,rfl,_⟩:=h;rfl
section
variable {H:Type} {enc:TypeId×Value->H} {P:Program} {w:World} {base:Nat} {held:Bool} {B:DataW H->Nat}
def jM(w:World)(ds:List D)(cs:List Value):Prop:=
 ds.length=cs.length/\∀(j:Nat) c,ds[j]? =some c->∃u,cs[j]? =some u/\bc w (fun b=>b<w.heap.size) c u/\u.oneCell'=true
theorem jM.one{d:D}{u:Value}(h:bc w (fun b=>b<w.heap.size) d u)(h1:u.oneCell'=true):jM w [d] [u]:=
 ⟨rfl,fun j c hj=>awN⟩
theorem jM.append{ds es:List D}{cs us:List Value}(h:jM w ds cs)(k:jM w es us):jM w (ds++es) (cs++us):=by
 refine⟨by simp[h.1,k.1],fun j c hj=>?_⟩;by_cases au:j<ds.length
 ·rw[aeU au]at hj;rw[aeU (by rw[<-h.1];exact au)];exact h.2 j c hj
 ·rw[abn oM]at hj;rw[abn (by rw[<-h.1];omega),<-h.1];exact k.2 _ c hj
def Aa(P:Program)(t:TypeId)(d:DataW H):Prop:=∀k∈d.weights P t,k<=reachBytes
theorem uw{e:TypeId}{k:Nat}:∀ {l:List (DataW H)} {d:DataW H},d∈l->k∈d.weights P e->k∈DataW.weightsAll P e l
 |x::l,d,h,hk=>by
  simp[DataW.weightsAll,abr];rcases aaQ.1 h with rfl|h
  ·exact awN
  ·exact .inr (uw h hk)
theorem tq{k:Nat}:∀ {ts:List TypeId} {ds:List (DataW H)} {i:Nat} {t:TypeId} {d:DataW H},ts[i]? =some t->ds[i]? =some d->k∈d.weights P t->k∈DataW.weightsEach P ts ds
 |[],ds,i,t,d,h,_,_=>awv
 |_::_,[],i,t,d,_,h,_=>awv
 |t'::ts,d'::ds,0,t,d,h1,h2,hk=>by grind [DataW.weightsEach]
 |t'::ts,d'::ds,i+1,t,d,h1,h2,hk=>by
  simp[DataW.weightsEach,abr];exact .inr (tq (by simpa using h1) awN hk)
def Oe{r:Reach}{b0 k:Nat}{t e:TypeId}{v:Value}(ht:P.underlying t=some (.array k e))(h:Value.okWide P w r b0 t v):∃cs,v= .agg cs/\cs.size=P.cellsOf t:=by grind [Value.okWide]
theorem My(s:Sh):∀k,Sh.Ap (List.replicate k s)=k * s.eF
 |0=>by simp[Sh.Ap]
 |k+1=>by rw[akq,Sh.Ap,My s k,ak6];omega
theorem wy(hB:FP B):∀(n:Nat) (t:TypeId) (s:Sh) (fuel:Nat) (cs:List Value) (x:DataW H×List MemPlace),vF P n t=some s->DataW.trod enc P w base (fun _=>true) held fuel t cs=some x->Aa P t x.1->
 ∃ds,s.cp ds/\jM w ds cs/\cs.length=s.eF/\D.jY ds<=B x.1
 |0,_,_,_,_,_,h,_,_=>by simp[vF]at h
 |n+1,t,s,fuel,cs,x,h,ht,tD=>by
  simp only[vF]at h;split at h
  ·rename_i hu;injection h with h;subst h;obtain⟨b,rfl,_⟩:=DataW.trod_bool hu ht;exact⟨[.bool b],⟨b,rfl⟩,.one (.bool b) rfl,rfl,hB.one _⟩
  ·rename_i k hu;injection h with h;subst h;obtain⟨i,rfl,_,hw⟩:=akR hu ht;exact⟨[.int k i],⟨i,rfl,hw⟩,.one (.int k i) rfl,rfl,hB.one _⟩
  ·rename_i hu;injection h with h;subst h;obtain⟨b,rfl,rfl,hl⟩:=DataW.trod_string hu ht;exact⟨[.str b.data.toList],⟨b.data.toList,rfl,tD _ (by simp[DataW.weights])⟩,.one (.str b.data.toList) rfl,rfl,hB.str _⟩
  ·rename_i e hu;split at h
   ·rename_i se kd;split at h
    ·rename_i hc;obtain⟨hce,fR,aih⟩:=hc;injection h with h;subst h;rcases Go.Deep.open_slice hu ht with⟨rfl,_⟩|⟨a,len,cap,m,nn,Dx,Pl,rfl,hb,uV,tw,hm,hx,hi⟩
     ·exact⟨[.sl se.eF []],⟨[],rfl,aes _,fun _ h=>awI⟩,.one (.sl (b:=0) (off:=0) (us:=fun _ _=>undef) rfl (aaN _) (aes _) (fun h=>absurd rfl h) sI sI sI sI) rfl,rfl,hB.one _⟩
     ·simp only[abo]at hm;subst hm;subst hx;have hlen:len<=reachBytes:=by
       have h1:=tD ((len+(m - len)) * P.bytesOf e) (by simp[DataW.weights,hu]);have h2:(len+(m - len)) * 1<=(len+(m - len)) * P.bytesOf e:=Nat.mul_le_mul_left _ aih;exact awO
      have au:∀i,i<len->Aa P e (Dx i):=fun i hi k hk=>tD k (by
       simp only[DataW.weights,hu,aaQ,abr];exact .inr (.inl (uw (aa1.2 ⟨i,af_.2 hi,rfl⟩) hk)))
      have fO:∀i,i<len->∃ds vK,se.cp ds/\jM w ds vK/\vK.length=se.eF/\(∀j,j<se.eF->w.cell? ((a.add (i * se.eF)).add j)=vK[j]?)/\D.jY ds<=B (Dx i):=by
       intro i qv;obtain⟨vK,gz,htr⟩:=hi i oM;obtain⟨ds,h1,h2,h3,h4⟩:=wy hB n e se _ _ _ kd htr (au i qv);rw[hce]at gz;obtain⟨_,bS,iu⟩:=World.cells?_some gz
       exact awN
      have aiu:∃f:Nat->List D,∀i,i<len->∃vK,se.cp (f i)/\jM w (f i) vK/\vK.length=se.eF/\(∀j,j<se.eF->w.cell? ((a.add (i * se.eF)).add j)=vK[j]?)/\D.jY (f i)<=B (Dx i):=by
       refine⟨fun i=>if hl:i<len then Classical.choose (fO i hl)else[],fun i hl=>?_⟩
       exact awN
      obtain⟨f,Nr⟩:=aiu;have hf:∀i,i<len->∃vK,se.cp (f i)/\jM w (f i) vK/\vK.length=se.eF/\∀j,j<se.eF->w.cell? ((a.add (i * se.eF)).add j)=vK[j]?:=fun i hi=>awN
      have hfb:∀i,i<len->(se.pack (f i)).bulk<=B (Dx i):=fun i hi=>by grind [Sh.KJ]
      have eC:∀(i:Nat) d,((List.range len).map fun i=>se.pack (f i))[i]? =some d->i<len/\d=se.pack (f i):=awN
      have iO:∀(i:Nat) d (j:Nat) c,((List.range len).map fun i=>se.pack (f i))[i]? =some d->d.cells[j]? =some c->∃u,w.cell? ⟨a.block,a.off+i * se.eF+j,Option.none⟩=some u/\a.spot=Option.none/\a.block<w.heap.size/\bc w (fun b=>b<w.heap.size) c u/\u.oneCell'=true:=by
       intro i d j c hd hj;obtain⟨qv,rfl⟩:=eC i d hd;obtain⟨vK,h1,h2,h3,h4⟩:=hf i qv;rw[Sh.AZ h1]at hj;obtain⟨u,hu,hp,fQ⟩:=h2.2 j c hj;have xc:j<se.eF:=awN
       have hw:=(h4 j xc).trans hu;have V0:a.spot=Option.none:=by
        obtain⟨cs0,k1,k2,k3,k4⟩:=hf 0 oM;have k5:=k4 0 fR;rw[akF]at k5;have k6:(a.add 0).add 0=a:=by simp[Addr.add]
        rw[k6,aaS (show 0<cs0.length by omega)]at k5;unfold World.cell? at k5;split at k5
        ·exact awy
        ·cases k5
       have aeJ:(a.add (i * se.eF)).add j=⟨a.block,a.off+i * se.eF+j,Option.none⟩:=by
        obtain⟨b,o,sp⟩:=a
        grind [Addr.ei]
       exact avc
      have ke:∀(i:Nat) d (j:Nat) c,((List.range len).map fun i=>se.pack (f i))[i]? =some d->d.cells[j]? =some c->w.cell? ⟨a.block,a.off+i * se.eF+j,Option.none⟩=some ((w.cell? ⟨a.block,a.off+i * se.eF+j,Option.none⟩).getD undef)/\
       bc w (fun b=>b<w.heap.size) c ((w.cell? ⟨a.block,a.off+i * se.eF+j,Option.none⟩).getD undef)/\((w.cell? ⟨a.block,a.off+i * se.eF+j,Option.none⟩).getD undef).oneCell'=true:=by
       exact awN
      refine⟨[.sl se.eF ((List.range len).map fun i=>se.pack (f i))],⟨_,rfl,awN,fun y hy=>?_⟩,.one (.sl (b:=a.block) (off:=a.off) (us:=fun i j=>(w.cell? ⟨a.block,a.off+i * se.eF+j,Option.none⟩).getD undef) sI uV tw (fun bh=>?_) (fun i d hd=>?_) (fun i d j c hi hj=>(ke i d j c hi hj).1) (fun i d j c hi hj=>(ke i d j c hi hj).2.2) (fun i d j c hi hj=>(ke i d j c hi hj).2.1)) rfl,rfl,?_⟩
      ·exact awN
      ·have jX:0<len:=awN
       have tz:((List.range len).map fun i=>se.pack (f i))[0]? =some (se.pack (f 0)):=awN
       obtain⟨vK,h1,h2,h3,_⟩:=hf 0 jX;have hlen:0<(se.pack (f 0)).cells.length:=by rw[Sh.AZ h1,h2.1,h3];exact fR
       obtain⟨u,_,V0,hbl,_⟩:=iO 0 _ 0 _ tz (aaS hlen);refine⟨?_,hbl⟩;obtain⟨b,o,sp⟩:=a
       exact awN
      ·obtain⟨qv,rfl⟩:=eC i d hd;obtain⟨vK,h1,h2,h3,_⟩:=hf i qv;rw[Sh.AZ h1,h2.1,h3]
      ·refine adz ?_ (hB.slice _ _);have h1:=JA (g:=fun i=>se.pack (f i)) (k:=fun i=>B (Dx i)) (l:=List.range len) fun i hi=>hfb i (af_.1 hi);rw[agw];simp only[D.jY,D.bulk];exact Nat.succ_le_succ h1
    ·exact awI
   ·exact awI
  ·rename_i fs hu;split at h
   ·rename_i l hl;split at h
    ·rename_i hc;injection h with h;subst h;obtain⟨xs,m,_,hxx,bS,rF,hf⟩:=DataW.trod_struct hu ht;subst hxx;have au:∀(i:Nat) (f:Field) (x:DataW H×List MemPlace),fs[i]? =some f->xs[i]? =some x->Aa P f.type x.1:=fun i f x h1 h2 k hk=>tD k (by
      simp only[DataW.weights,hu];exact tq (i:=i) awN awN hk)
     have key:∀(F:List Field) (o:Nat) (l:List Sh) (cs:List Value) (X:List (DataW H)),FE P (vF P n) o F=some l->cs.length=Sh.Ap l->(∀(i:Nat) (f:Field),F[i]? =some f->∃x,X[i]? =some x.1/\DataW.trod enc P w base (fun _=>true) held m f.type ((cs.drop (f.offset - o)).take (P.cellsOf f.type))=some x/\Aa P f.type x.1)->
      ∃ds,Sh.jo l ds/\jM w ds cs/\D.jY ds<=(X.map B).sum:=by
      intro F;induction F with
      |nil=>
       intro o l cs X hl gz _;simp only[FE,aaM]at hl;subst hl;simp only[Sh.Ap]at gz;exact aqZ
      |cons f F ih=>
       intro o l cs X hl gz hf;simp only[FE]at hl;split at hl
       ·rename_i s hs;split at hl
        ·rename_i ho;rw[aav]at hl;obtain⟨l',eh,rfl⟩:=hl;simp only[Sh.Ap]at gz;obtain⟨x,hX,hx,Zf⟩:=hf 0 f rfl;obtain⟨X',rfl⟩:∃X',X=x.1::X':=by cases X<;>grind
         rw[ho.1,Nat.sub_self,agW,ho.2]at hx;obtain⟨a,h1,h2,h3,h4⟩:=wy hB n f.type s m _ _ hs hx Zf;obtain⟨b,k1,k2,k3⟩:=ih (o+s.eF) l' (cs.drop s.eF) X' eh awe (fun i g hg=>by
          obtain⟨y,hY,hy,oN⟩:=hf (i+1) g awN;refine⟨y,awN,?_,oN⟩;have ek:o+s.eF<=g.offset:=by
           have:∀(F:List Field) (o:Nat) (l:List Sh),FE P (vF P n) o F=some l->∀g∈F,o<=g.offset:=by
            intro F;induction F with
            |nil=>grind
            |cons f F ih2=>
             intro o l hl g hg;simp only[FE]at hl;split at hl
             ·split at hl
              ·rename_i GQ;rw[aav]at hl
               exact awN
              ·exact awB
             ·exact awB
           exact this F _ _ eh g (aat hg)
          grind [List.drop_drop])
         refine⟨a++b,⟨a,b,rfl,h1,k1⟩,?_,by grind [Jz]⟩;have:=h2.append k2;exact awy
        ·exact awB
       ·exact awB
     obtain⟨ds,h1,h2,h3⟩:=key fs.toList 0 l cs (xs.map (·.1)) hl (by rw[bS,hc]) (fun i f hfi=>awN);exact⟨ds,h1,h2,by grind [Sh.eF],adz h3 (hB.agg _)⟩
    ·exact awI
   ·exact awI
  ·rename_i k e hu;split at h
   ·rename_i se kd;split at h
    ·rename_i hc;injection h with h;subst h;obtain⟨xs,m,_,hxx,bS,rF,iu⟩:=DataW.trod_array hu ht;subst hxx;rw[hc.2]at bS;have key:∀(X:List (DataW H×List MemPlace)) (cs:List Value),cs.length=X.length * se.eF->(∀(i:Nat) x,X[i]? =some x->DataW.trod enc P w base (fun _=>true) held m e ((cs.drop (i * se.eF)).take se.eF)=some x/\Aa P e x.1)->
      ∃ds,Sh.jo (List.replicate X.length se) ds/\jM w ds cs/\D.jY ds<=((X.map (·.1)).map B).sum:=by
      intro X;induction X with
      |nil=>
       intro cs gz _;rw[aeW,akF]at gz;exact aqZ
      |cons x X ih=>
       intro cs gz hf;rw[aa5,ak6]at gz;obtain⟨hx,Zf⟩:=hf 0 x rfl;rw[akF,agW]at hx;obtain⟨a,h1,h2,h3,h4⟩:=wy hB n e se m _ _ kd hx Zf;obtain⟨b,k1,k2,k3⟩:=ih (cs.drop se.eF) awN (fun i y hy=>by
        obtain⟨g1,g2⟩:=hf (i+1) y awN
        grind [List.drop_drop,Nat.succ_mul])
       refine⟨a++b,?_,?_,by grind [Jz]⟩
       ·rw[aa5,akq];exact⟨a,b,rfl,h1,k1⟩
       ·have:=h2.append k2;exact awy
     obtain⟨ds,h1,h2,h3⟩:=key xs cs (by rw[bS,rF]) (fun i x hx=>by
      have au:=(aaL.1 hx).1;refine⟨awN,fun k hk=>tD k ?_⟩;simp only[DataW.weights,hu];exact uw (aa1.2 ⟨x,aat hx,rfl⟩) hk)
     rw[rF]at h1;exact⟨ds,h1,h2,by rw[bS,Sh.eF,My],adz h3 (hB.agg _)⟩
    ·exact awI
   ·exact awI
  ·exact awI
def aah(hB:FP B){r:Reach}{b0:Nat}{n:Nat}{t:TypeId}{s:Sh}{v:Value}{d:DataW H}{ps:List MemPlace}(hs:vF P n t=some s)(bm:Value.okWide P w r b0 t v)(h:DataW.Trod enc P w base (fun _=>true) held t v d ps)(tD:Aa P t d):
 ∃x,s.has x/\x.bulk<=B d/\bc w (fun b=>b<w.heap.size) x v:=by
 obtain⟨fuel,hf⟩:=h;obtain⟨ds,h1,h2,h3,h4⟩:=wy hB n t s fuel _ _ hs hf tD;refine⟨s.pack ds,⟨ds,rfl,h1⟩,by grind [Sh.KJ],?_⟩;cases n with
 |zero=>simp[vF]at hs
 |succ n=>
  simp only[vF]at hs;have single:∀y,ds=[y]->v.cells= #[v]->bc w (fun b=>b<w.heap.size) y v:=by
   intro y hy hc;subst hy;obtain⟨u,hu,hp,_⟩:=h2.2 0 y rfl
   exact awN
  split at hs
  ·rename_i hu;injection hs with hs;subst hs;obtain⟨b,rfl⟩:=okWide_bool hu bm;simp only[Sh.cp]at h1;obtain⟨b',rfl⟩:=h1;exact single _ rfl rfl
  ·rename_i k hu;injection hs with hs;subst hs;obtain⟨b,rfl⟩:=okWide_int hu bm;exact aq8
  ·rename_i hu;injection hs with hs;subst hs;obtain⟨b,rfl⟩:=okWide_string hu bm;exact aq8
  ·rename_i e hu;split at hs
   ·split at hs
    ·injection hs with hs;subst hs;obtain⟨a,l,c,rfl⟩:=okWide_slice hu bm;exact aq8
    ·cases hs
   ·cases hs
  ·rename_i fs hu;split at hs
   ·split at hs
    ·injection hs with hs;subst hs;obtain⟨cs,rfl,bz⟩:=okWide_struct hu bm;refine .agg auC fun i x u hx xj=>?_;obtain⟨u',CE,hp,_⟩:=h2.2 i x hx
     grind [Value.cells]
    ·cases hs
   ·cases hs
  ·rename_i k e hu;split at hs
   ·split at hs
    ·injection hs with hs;subst hs;obtain⟨cs,rfl,bz⟩:=Oe hu bm;refine .agg auC fun i x u hx xj=>?_;obtain⟨u',CE,hp,_⟩:=h2.2 i x hx
     grind [Value.cells]
    ·cases hs
   ·cases hs
  ·cases hs
end
end Go.V
namespace Go.V
open Go.RowKit Go.WideShapes Go.ChangeShapes Go.ChangeAt
section
variable {H:Type} {enc:TypeId×Value->H} {P:Program} {w w':World} {B:DataW H->Nat}
theorem BQ{base:Nat}{sp:Nat->Bool}{held:Bool}(hb:Below w.heap.size w w'):∀ {ts:List TypeId} {vs:List Value} {ds:List (DataW H)} {ps:List MemPlace},DataW.TrodAll enc P w base sp held ts vs ds ps->DataW.TrodAll enc P w' base sp held ts vs ds ps
 |[],vs,ds,ps,h=>by
  obtain⟨rfl,rfl,rfl⟩:=trodAll_nil h;rfl
 |t::ts,vs,ds,ps,h=>by
  obtain⟨v,fM,d,ds',p,q,rfl,rfl,rfl,⟨n,hn⟩,h2⟩:=trodAll_cons h;exact trodAll_cons_mk ⟨n,DataW.trod_carry n _ _ _ hn (fun p hp=>hb.same (DataW.trod_lt n _ _ _ hn p hp))⟩ (BQ hb h2)
def oZ:List Sh->List D->Prop
 |[],[]=>True
 |s::ss,d::ds=>s.has d/\oZ ss ds
 |_,_=>False
theorem Mh(hB:FP B){b0 n:Nat}:∀ {ts:List TypeId} {vs:List Value} {ds:List (DataW H)} {ps:List MemPlace} {ss:List Sh},HJ P n ts=some ss->(∀(j:Nat) t v,ts[j]? =some t->vs[j]? =some v->Value.okWide P w .any b0 t v)->
 DataW.TrodAll enc P w 0 (fun _=>true) true ts vs ds ps->(∀(j:Nat) t d,ts[j]? =some t->ds[j]? =some d->Aa P t d)->∃xs,oZ ss xs/\D.jY xs<=(ds.map B).sum/\vs.length=xs.length/\ds.length=ts.length/\∀(i:Nat) x v,xs[i]? =some x->vs[i]? =some v->bc w (fun b=>b<w.heap.size) x v
 |[],vs,ds,ps,ss,hs,bm,h,_=>by
  obtain⟨rfl,rfl,rfl⟩:=trodAll_nil h;simp only[HJ,aaM]at hs;subst hs;exact⟨[],trivial,aaN _,rfl,rfl,fun i x v hx=>awP⟩
 |t::ts,vs,ds,ps,ss,hs,bm,h,tD=>by
  obtain⟨v,fM,d,ds',p,q,rfl,rfl,rfl,h1,h2⟩:=trodAll_cons h;simp only[HJ]at hs;split at hs
  ·rename_i s ss' mc tB;injection hs with hs;subst hs;obtain⟨x,g1,g3,g2⟩:=aah hB mc (bm 0 t v rfl rfl) h1 (tD 0 t d rfl rfl);obtain⟨xs,k1,k0,k2,k3,k4⟩:=Mh hB tB (fun j t v ht hv=>bm (j+1) t v awN awN) h2 (fun j t d ht hd=>tD (j+1) t d awN awN);refine⟨x::xs,⟨g1,k1⟩,by grind [D.jY],by simp[k2],by simp[k3],fun i y u hy hu=>?_⟩
   exact awN
  ·cases hs
end
def LZ(P:Program):Prop:=laidOutB P=true/\mapsRowed P=true/\∀t e,t<P.types.size->P.underlying t=some (.slice e)->0<P.cellsOf e
def CT{H:Type}{B:DataW H->Nat}(hB:FP B){N:Nat}{enc:TypeId×Value->H}{P:Program}(SQ:LZ P){f:FuncId}{fn:Func}{c:Code}{s:ChangeSpec}{apart fresh handsOn:Bool}{tb:TypeId}{n:Nat}{ss:List Sh}(hf:P.funcs[f]? =some fn)(aie:fn.body=some c)
 (dJ:(fn.name== "runtime.NumGoroutine")=false) (pR:∀t∈fn.params.toList,t<P.types.size) (CD:HJ P n fn.params.toList=some ss) (Az:fn.resultTypes= #[tb]) (aif:P.underlying tb=some .bool) (aa8:s.vars=[])
 (Ka:∀ds:List (DataW H),ds.length=fn.params.size->s.fn H ds={results:=[.lit (.bool true)],args:=ds}) (eB:∀xs,oZ ss xs->D.jY xs<=N->av P f xs (.bool true))
 (W:World) (Ns:bc W (fun b=>b<W.heap.size) .fN undef) (base:Nat) (args:Array Value) (ds gs:List (DataW H)) (before:List MemPlace)
 (kY:∀(j:Nat) t v,fn.params[j]? =some t->args[j]? =some v->Value.okWide P W .any base t v) (hW:DataW.Whole enc P fn.params.toList s.vars apart W args.toList ds gs before) (tD:(DataW.weightsEach P (fn.params.toList++s.plain.varTypes P) (ds++gs)).all (· <=reachBytes)=true) (hN:((ds++gs).map B).sum<=N):
 Calls P f args W fun e W'=>∃v,e= .returned v/\s.post enc P fn apart fresh handsOn false W args v W':=by
 have hW':=hW;obtain⟨p,q,hA,hV,hp,_,_⟩:=hW;rw[aa8]at hV;obtain⟨rfl,rfl⟩:=trodVars_none hV;obtain⟨xs,k1,k0,k2,k3,k4⟩:=Mh hB CD (fun j t v ht hv=>kY j t v awN awN) hA (fun j t d ht hd k hk=>by
  have h1:=aaI.1 tD k (tq (i:=j) (t:=t) (d:=d) awN awN hk)
  grind)
 have key:=eB xs k1 (adz k0 awN) W (fun b=>b<W.heap.size) args (fun b hb=>hb) Ns awN (fun i x v hx hv=>k4 i x v hx awN);have bZ:=Go.MuLone.run_callFunc_enter hf dJ aie args W;rcases key with⟨_,key⟩|⟨v,w',h1,_⟩
 ·refine Calls.mono key fun e W' ⟨v,he,aiv⟩=>⟨v,he,?_⟩
  obtain⟨gR,hb⟩:=aiv;obtain rfl:v= .bool true:=by cases gR;rfl
  have hk:Kids P (· <P.types.size):=kids_rows SQ.1 SQ.2.1;have hlen:ds.length=fn.params.size:=awN
  have hargs:∀sp:Nat->Bool,(∀p∈before,sp p.block=true)->DataW.TrodAll enc P W' 0 sp true fn.params.toList args.toList ds p:=fun sp V0=>BQ hb (hA.respare hk (fun t e=>SQ.2.2 t e) pR (fun x hx=>V0 x awN));have hold:∀p∈before,(fun b=>decide (b<W.heap.size)) p.block=true:=fun p hp=>by simpa using hW'.lt p hp
  refine⟨ds,[],before,[],p,[],hW',?_,?_,?_,World.keptBut_mono (fun x hx=>⟨hx,?_⟩) (hb.frame (· ∈before)),fun h=>awI⟩
  ·rw[aez,Ka ds hlen,Az];exact trodAll_mk1 (shut_bool aif true)
  ·exact awN
  ·rw[aez,Ka ds hlen,aa8];rfl
  exact awN
 exact awN
def Iq{P:Program}(h1:laidOutB P=true)(h2:mapsRowed P=true)(h3:((List.range P.types.size).all fun t=>match P.underlying t with|some (.slice e)=>decide (0<P.cellsOf e)|_=>true)=true):LZ P:=by
 refine⟨h1,h2,fun t e ht hu=>?_⟩
 exact awN
def Da{P:Program}{ts:List TypeId}(h:(ts.all fun t=>decide (t<P.types.size))=true):∀t∈ts,t<P.types.size:=awN
theorem EP{xs:List D}(h:oZ [] xs):xs=[]:=by
 cases xs with
 |nil=>rfl
 |cons x xs=>exact h.elim
theorem ox{s:Sh}{ss:List Sh}{xs:List D}(h:oZ (s::ss) xs):∃a r,xs=a::r/\s.has a/\oZ ss r:=by
 cases xs with
 |nil=>exact h.elim
 |cons x xs=>exact⟨x,xs,rfl,h.1,h.2⟩
end Go.V
