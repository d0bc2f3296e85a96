/- Each operation that yields a datum, the fourth part: structs and slices built, and all of them together. The operations that lay, write or lengthen a variable of the activation's own. append. append onto a slice that begins behind its variable's beginning: in place, or in a new place. Appending so many zero values: onto a slice of the activation's own, and onto nil. append onto a slice of another's, or of a string's bytes; copy. Calls: the contract of a function on data, and how a call of it stands in for one step. -/
import Derived.Test.YtkgloohlmogakaaGreatDoorVA
import Derived.Laws.BytesArg
import Derived.Maps.AppendAt
import Derived.Deep.AppendSrc
import Derived.Lib.AppendZerosOnto
import Derived.Laws.CopyRow
import Derived.Laws.IdiomCopy
set_option linter.unusedSimpArgs false
set_option linter.unusedVariables false
namespace Go.V
open Go.RowKit
variable {P:Program} {X:Ctx} {ρ:bN} {σ:Env} {bx:ae} {a:Act} {w:World}
variable {dst:Option Tmp} {ty:TypeId} {pos:String} {af:Array Edge} {g:Option (Nat×Bool)}
theorem zS:∀(vs:List Value) (k off:Nat) (cs:Array Value),(((vs.zipIdx k).foldl (fun(cs:Array Value) (x:Value×Nat)=>cs.setIfInBounds (off+x.2) x.1) cs).size=cs.size)/\
 ∀i,((vs.zipIdx k).foldl (fun(cs:Array Value) (x:Value×Nat)=>cs.setIfInBounds (off+x.2) x.1) cs)[i]? =if off+k<=i/\i<off+k+vs.length/\i<cs.size then vs[i - (off+k)]? else cs[i]?
 |[],k,off,cs=>by
  refine⟨rfl,fun i=>?_⟩;simp only[List.zipIdx_nil,List.foldl_nil,List.length_nil,Nat.add_zero];rw[if_neg oM]
 |v::vs,k,off,cs=>by
  obtain⟨h1,h2⟩:=zS vs (k+1) off (cs.setIfInBounds (off+k) v);simp only[List.zipIdx_cons,List.foldl_cons];refine⟨by rw[h1];simp,fun i=>?_⟩;rw[h2];simp only[Array.size_setIfInBounds,List.length_cons];by_cases hi:i=off+k
  ·subst hi;rw[if_neg oM];by_cases hs:off+k<cs.size
   ·rw[if_pos oM];simp[hs]
   ·rw[if_neg oM];simp[hs]
  ·rw[Array.getElem?_setIfInBounds_ne (Ne.symm hi)];by_cases hc:off+(k+1)<=i/\i<off+(k+1)+vs.length/\i<cs.size
   ·rw[if_pos hc,if_pos oM];have:i - (off+k)=(i - (off+(k+1)))+1:=oM;rw[this,List.getElem?_cons_succ]
   ·rw[if_neg hc,if_neg oM]
def tW(w:World)(S:Nat->Prop)(ρ:bN)(cs:List D)(vs:Array Value):Prop:=vs.size=cs.length/\∀(i:Nat) c u,cs[i]? =some c->vs[i]? =some u->aE w S ρ c u
theorem Hf{S:Nat->Prop}{cs:List D}{vs:Array Value}{d:D}{v:Value}{off:Nat}(h:tW w S ρ cs vs)(hd:aE w S ρ d v)(h1:d.cells.all D.one=true)(hl:off+d.cells.length<=cs.length):
 v.cells.size=d.cells.length/\tW w S ρ (cs.take off++d.cells++cs.drop (off+d.cells.length)) (v.cells.zipIdx.foldl (fun(cs:Array Value) (x:Value×Nat)=>cs.setIfInBounds (off+x.2) x.1) vs):=by
 obtain⟨hs,hc⟩:=hd.cells h1;refine⟨hs,?_⟩;have e:v.cells.zipIdx.foldl (fun(cs:Array Value) (x:Value×Nat)=>cs.setIfInBounds (off+x.2) x.1) vs=(v.cells.toList.zipIdx 0).foldl (fun(cs:Array Value) (x:Value×Nat)=>cs.setIfInBounds (off+x.2) x.1) vs:=by rw[<-Array.foldl_toList,Array.toList_zipIdx]
 rw[e];obtain⟨f1,f2⟩:=zS v.cells.toList 0 off vs;refine⟨by rw[f1,h.1];simp;omega,fun i c u hi hu=>?_⟩;rw[f2]at hu;simp only[Nat.add_zero,Array.length_toList,Array.getElem?_toList]at hu;by_cases ho:i<off
 ·rw[if_neg oM]at hu;rw[List.append_assoc,List.getElem?_append_left (by simp;omega),List.getElem?_take_of_lt ho]at hi;exact h.2 i c u hi hu
 ·by_cases hm:i<off+d.cells.length
  ·have hv:i<vs.size:=by rw[h.1];omega
   rw[if_pos oM]at hu;have hl2:(cs.take off).length=off:=by simp;omega
   rw[List.append_assoc,List.getElem?_append_right oM,hl2,List.getElem?_append_left oM]at hi;obtain⟨u',hu',hr,_⟩:=hc _ _ hi;rw[hu']at hu;injection hu with hu;subst hu;exact hr
  ·rw[if_neg oM]at hu;have hl2:(cs.take off++d.cells).length=off+d.cells.length:=by simp;omega
   rw[List.getElem?_append_right oM,hl2,List.getElem?_drop]at hi;have:off+d.cells.length+(i - (off+d.cells.length))=i:=oM;rw[this]at hi;exact h.2 i c u hi hu
theorem nc{S:Nat->Prop}{fs:List (Nat×Nat×Bool)}{places:Nat->Option (Nat×Nat)}(hpl:∀(i:Nat) x,fs[i]? =some x->places i=some (x.1,x.2.1)):∀(ps:List (Nat×D)) (vps:List (Nat×Value)) (cs r:List D) (vs:Array Value),
 fz fs cs ps=some r->ps.length=vps.length->(∀(i:Nat) p q,ps[i]? =some p->vps[i]? =some q->p.1=q.1/\aE w S ρ p.2 q.2)->tW w S ρ cs vs->
 ∃vs',Instr.fill places vs vps=some vs'/\tW w S ρ r vs'
 |[],vps,cs,r,vs,hb,hl,_,h=>by
  cases vps with
  |nil=>simp only[fz,Option.some.injEq]at hb;subst hb;exact⟨vs,rfl,h⟩
  |cons q vps=>simp at hl
 |(i,d)::ps,vps,cs,r,vs,hb,hl,hr,h=>by
  cases vps with
  |nil=>simp at hl
  |cons q vps=>
  obtain⟨j,v⟩:=q;obtain⟨hij,hd⟩:=hr 0 _ _ rfl rfl;simp only at hij hd;subst hij;simp only[fz]at hb;cases hf:fs[i]? with
  |none=>simp[hf]at hb
  |some f=>
   obtain⟨off,sz,gg⟩:=f;simp only[hf]at hb;split at hb
   ·rename_i hc;obtain⟨h1,h2,h3⟩:=hc;rw[<-h1]at hb h2;obtain⟨g1,g2⟩:=Hf h hd h3 h2;obtain⟨vs',k1,k2⟩:=nc hpl ps vps _ r _ hb (by simpa using hl) (fun i p q hp hq=>hr (i+1) p q (by simpa using hp) (by simpa using hq)) g2;refine⟨vs',?_,k2⟩;have hle:¬(v.cells.size≠sz\/off+v.cells.size>vs.size):=by rw[h.1];omega
    simp only[Instr.fill,hpl i _ hf];rw[if_neg (by simpa using hle)];exact k1
   ·cases hb
theorem run_places:∀(L:List Field),(∀f∈L,0<bI P f.type)->(L.mapM fun f=>(do pure (f.offset,<-sizeOf f.type):Sem (Nat×Nat))).run P w= .ok (L.map fun f=>(f.offset,bI P f.type)) w
 |[],_=>by simp
 |f::L,h=>by
  have ih:=run_places L (fun f hf=>h f (List.mem_cons_of_mem _ hf));simp only[List.mapM_cons,Sem.run_bind,bW (h f (List.mem_cons_self ..)),Result.andThen_ok,Sem.run_pure,ih,List.map_cons]
theorem Di{t:TypeId}(h:mX (ak P t) (zeroV P t)=true):(ak P t).size=0/\P.underlying t=some (.struct #[])/\∃i z,P.info? t=some i/\i.zero=some z/\ry z= .agg []/\i.size=0:=by
 unfold mX at h;split at h
 ·rename_i q hk hz;obtain⟨F,hu,hfs,_⟩:=kV hk;have hF:F= #[]:=by apply Array.toList_inj.1;simpa using hfs
  have h0:(ak P t).size=0:=by simpa using h
  refine⟨h0,by rw[hu,hF],?_⟩;unfold zeroV at hz;cases hi:P.info? t with
  |none=>simp[hi]at hz
  |some i=>
   cases h1:i.zero with
   |none=>simp[hi,h1]at hz
   |some z=>
    simp only[hi,h1,Option.bind_some,Option.map_some,Option.some.injEq]at hz;refine⟨i,z,rfl,h1,hz,?_⟩;simpa[ak,bI,hu,hi]using h0
 ·cases h
theorem FN{z:Value}(h:ry z= .agg []):z.cells= #[]:=by
 have:=w_ (w:=default) (S:=fun _=>False) z;rw[h]at this;cases this with
 |agg hl _=>exact Array.eq_empty_of_size_eq_zero hl
theorem zm(h:az X ρ σ bx a w){t:TypeId}{ps:Array (Nat×Operand)}{d:D}(hv:iH (ak P t) (ps.toList.map fun p=>(p.1,ev σ p.2))=some d):Yields P X ρ bx a w ⟨dst,.build t ps,ty,pos,af,g⟩ d:=by
 unfold iH at hv;split at hv
 ·rename_i fs eq hk;split at hv
  ·rename_i hz;obtain⟨F,hu,hfs,_⟩:=kV hk;subst hfs;rw[Option.map_eq_some_iff]at hv;obtain⟨r,hb,rfl⟩:=hv;have hzero:∃z,(zeroValue t).run P w= .ok z w/\(ak P t).zero=z.cells.toList.map tM:=by
    have h2:(ak P t).zero.length≠0:=oM;simp only[ak]at h2⊢;cases hi:P.info? t with
    |none=>simp[hi]at h2
    |some i=>
     cases hz:i.zero with
     |none=>simp[hi,hz]at h2
     |some z=>exact⟨z,by simp[zeroValue,typeInfo,hi,hz,go_sem],by simp[hz]⟩
   obtain⟨z,hz1,hz2⟩:=hzero;have hpos:∀f∈F.toList,0<bI P f.type:=by
    intro f hf;have:=List.all_eq_true.1 hz.2.2 _ (List.mem_map.2 ⟨f,hf,rfl⟩);simpa using this
   have hrun:(F.mapM fun f=>(do pure (f.offset,<-sizeOf f.type):Sem (Nat×Nat))).run P w= .ok (F.map fun f=>(f.offset,bI P f.type)) w:=by
    rw[Array.mapM_eq_mapM_toList,Sem.run_map,run_places F.toList hpos,Result.andThen_ok]
    congr 1
    apply Array.toList_inj.1;simp
   obtain⟨vs',k1,k2⟩:=nc (S:=ay X ρ bx w) (ρ:=ρ) (w:=w) (places:=fun i=>(F.map fun f=>(f.offset,bI P f.type))[i]?) (fun i x hx=>by
    simp only[List.getElem?_map,Array.getElem?_toList,Option.map_eq_some_iff]at hx;obtain⟨f,hf,rfl⟩:=hx;simp[hf]) _
    (ps.toList.map fun p=>(p.1,a.eval p.2)) _ _ z.cells hb sI (fun i p q hp hq=>by
     simp only[List.getElem?_map,Option.map_eq_some_iff]at hp hq;obtain⟨y,hy,rfl⟩:=hp;obtain⟨y',hy',rfl⟩:=hq;rw[hy]at hy';injection hy' with hy';subst hy';exact⟨rfl,h.ev _⟩) ⟨by rw[hz2];simp,fun i c u hc hu=>by
      rw[hz2,List.getElem?_map,Array.getElem?_toList,hu]at hc;simp only[Option.map_some,Option.some.injEq]at hc;subst hc;exact .pure (iS u)⟩
   refine aM (.agg vs') ?_ (.agg k2.1 k2.2);have hpm:(ps.map fun(x:Nat×Operand)=>(x.1,a.eval x.2)).toList=ps.toList.map fun p=>(p.1,a.eval p.2):=by simp
   simp only[execOp,Instr.build,Sem.run_bind,Sem.run_pure,Result.andThen_ok,run_underlying hu,hz1,hrun,hpm,k1]
  ·cases hv
 ·rename_i n esz ag hk;split at hv
  ·rename_i hz;obtain⟨e,hu,hse,_⟩:=pY hk;rw[Option.map_eq_some_iff]at hv;obtain⟨r,hb,rfl⟩:=hv;have hzero:∃z,(zeroValue t).run P w= .ok z w/\(ak P t).zero=z.cells.toList.map tM:=by
    have h2:(ak P t).zero.length≠0:=oM;simp only[ak]at h2⊢;cases hi:P.info? t with
    |none=>simp[hi]at h2
    |some i=>
     cases hz:i.zero with
     |none=>simp[hi,hz]at h2
     |some z=>exact⟨z,by simp[zeroValue,typeInfo,hi,hz,go_sem],by simp[hz]⟩
   obtain⟨z,hz1,hz2⟩:=hzero;obtain⟨vs',k1,k2⟩:=nc (S:=ay X ρ bx w) (ρ:=ρ) (w:=w) (places:=fun i=>some (i * esz,esz)) (fun i x hx=>by
    simp only[List.getElem?_map,Option.map_eq_some_iff]at hx;obtain⟨y,hy,rfl⟩:=hx;have:=(List.getElem?_eq_some_iff.1 hy).2;simp at this;subst this;rfl) _
    (ps.toList.map fun p=>(p.1,a.eval p.2)) _ _ z.cells hb sI (fun i p q hp hq=>by
     simp only[List.getElem?_map,Option.map_eq_some_iff]at hp hq;obtain⟨y,hy,rfl⟩:=hp;obtain⟨y',hy',rfl⟩:=hq;rw[hy]at hy';injection hy' with hy';subst hy';exact⟨rfl,h.ev _⟩) ⟨by rw[hz2];simp,fun i c u hc hu=>by
      rw[hz2,List.getElem?_map,Array.getElem?_toList,hu]at hc;simp only[Option.map_some,Option.some.injEq]at hc;subst hc;exact .pure (iS u)⟩
   refine aM (.agg vs') ?_ (.agg k2.1 k2.2);have hpm:(ps.map fun(x:Nat×Operand)=>(x.1,a.eval x.2)).toList=ps.toList.map fun p=>(p.1,a.eval p.2):=by simp
   simp only[execOp,Instr.build,Sem.run_bind,Sem.run_pure,Result.andThen_ok,run_underlying hu,hz1,bW (hse▸hz.2.2),<-hse,hpm,k1]
  ·cases hv
 ·cases hv
theorem tD{fs:List (Nat×Nat×Bool)}{esz:Nat}{ag:Bool}:∀(ps:List (Nat×D)) (k:Nat) (done:List D),done.length=k * esz->ps.map (·.1)=List.range' k ps.length->ps.all (fun p=>p.2.cells.length==esz&&p.2.cells.all D.one)=true->
 (∀i,i<k+ps.length->fs[i]? =some (i * esz,esz,ag))->fz fs (done++List.replicate (ps.length * esz) .undef) ps=some (done++(ps.map (·.2)).flatMap D.cells)
 |[],k,done,_,_,_,_=>by simp[fz]
 |(i,d)::ps,k,done,hd,hm,ha,hf=>by
  simp only[List.map_cons,List.length_cons,List.range'_succ,List.cons.injEq]at hm;obtain⟨rfl,hm⟩:=hm;simp only[List.all_cons,Bool.and_eq_true,beq_iff_eq]at ha;obtain⟨⟨h1,h2⟩,h3⟩:=ha;simp only[fz,hf i sI];have hlen:(done++List.replicate (((i,d)::ps).length * esz) D.undef).length=i * esz+(ps.length+1) * esz:=by simp[hd]
  rw[if_pos ⟨h1,by rw[hlen,Nat.add_mul];omega,h2⟩];have e1:(done++List.replicate (((i,d)::ps).length * esz) D.undef).take (i * esz)=done:=by rw[<-hd];exact List.take_left
  have e2:(done++List.replicate (((i,d)::ps).length * esz) D.undef).drop (i * esz+esz)=List.replicate (ps.length * esz) D.undef:=by
   rw[<-hd,<-List.drop_drop,List.drop_left,List.drop_replicate]
   congr 1
   simp only[List.length_cons,Nat.add_mul];omega
  rw[e1,e2,tD ps (i+1) (done++d.cells) (by simp[hd,h1,Nat.add_mul]) hm h3 (fun j hj=>hf j (by simp;omega))];simp
theorem zO{sz:Nat}:∀(ds:List D),(∀x∈ds,x.cells.length=sz)->(ds.flatMap D.cells).length=ds.length * sz
 |[],_=>by simp
 |x::ds,h=>by
  rw[List.flatMap_cons,List.length_append,h x (List.mem_cons_self ..),zO ds (fun y hy=>h y (List.mem_cons_of_mem _ hy)),List.length_cons,Nat.add_mul];omega
theorem ud{sz:Nat}:∀(ds:List D) (i j:Nat) (d:D),(∀x∈ds,x.cells.length=sz)->ds[i]? =some d->j<sz->(ds.flatMap D.cells)[i * sz+j]? =d.cells[j]?
 |[],i,j,d,_,hd,_=>by simp at hd
 |x::ds,i,j,d,hs,hd,hj=>by
  have hx:=hs x (List.mem_cons_self ..);simp only[List.flatMap_cons];cases i with
  |zero=>
   simp at hd;subst hd;rw[Nat.zero_mul,Nat.zero_add,List.getElem?_append_left oM]
  |succ i=>
   rw[Nat.add_mul,List.getElem?_append_right oM,hx];have:i * sz+1 * sz+j - sz=i * sz+j:=oM;rw[this];exact ud ds i j d (fun y hy=>hs y (List.mem_cons_of_mem _ hy)) (by simpa using hd) hj
theorem az.fresh(h:az X ρ σ bx a w)(o:Obj):ay X ρ bx (w.alloc o) w.heap.size:=by
 refine⟨by simp,.inr (Nat.le_trans h.nb h.fr.size),fun t hk p hp=>?_⟩;obtain⟨p',hp',_,_,_,hh⟩:=h.box t (by rw[hk];decide);rw[hp]at hp';injection hp' with hp';subst hp';have:=hh.lt;omega
theorem CB(h:az X ρ σ bx a w){t e:TypeId}{n esz:Nat}{ag:Bool}{ps:Array (Nat×Operand)}{dps:List (Nat×D)}(hu:P.underlying t=some (.slice e))(hse:esz=bI P e)(hds:(ps.toList.map fun p=>(p.1,ev σ p.2))=dps)(hm:dps.map (·.1)=List.range n)
 (ha:dps.all (fun p=>p.2.cells.length==esz&&p.2.cells.all D.one)=true) (hpos:0<esz) (hbig:n * esz<=65536) (hzl:(ak P e).zero.length=esz):
 ∃vs',(Instr.buildSlice t n (ps.map fun(x:Nat×Operand)=>(x.1,a.eval x.2))).run P w= .ok (.slice (some ⟨w.heap.size,0,none⟩) n n) (w.alloc (.cells vs' e))/\tW w (ay X ρ bx w) ρ ((dps.map (·.2)).flatMap D.cells) vs':=by
 have hlen:dps.length=n:=by have:=congrArg List.length hm;simpa using this
 have hzero:∃z,(zeroValue e).run P w= .ok z w/\z.cells.size=esz:=by
  have h2:(ak P e).zero.length≠0:=oM;simp only[ak]at h2 hzl;cases hi:P.info? e with
  |none=>simp[hi]at h2
  |some i=>
   cases hz:i.zero with
   |none=>simp[hi,hz]at h2
   |some z=>exact⟨z,by simp[zeroValue,typeInfo,hi,hz,go_sem],by simpa[hi,hz]using hzl⟩
 obtain⟨z,hz1,hz2⟩:=hzero;have hbl:=tD (fs:=(List.range n).map fun i=>(i * esz,esz,ag)) (esz:=esz) (ag:=ag) dps 0 [] sI (by rw[hm,List.range_eq_range',hlen]) ha (fun i hi=>by
  have hi:i<n:=oM;simp[List.getElem?_range hi])
 simp only[List.nil_append,hlen]at hbl;have go:∀zc:Array Value,(n * esz=0\/zc=z.cells)->∃vs',Instr.fill (fun i=>some (i * esz,esz)) ((Array.range (n * esz)).map (zc[· % zc.size]!)) (ps.toList.map fun p=>(p.1,a.eval p.2))=some vs'/\tW w (ay X ρ bx w) ρ ((dps.map (·.2)).flatMap D.cells) vs':=by
  intro zc _;refine nc (S:=ay X ρ bx w) (ρ:=ρ) (w:=w) (places:=fun i=>some (i * esz,esz)) (fun i x hx=>?_) _ _ _ _ ((Array.range (n * esz)).map (zc[· % zc.size]!)) hbl (by rw[<-hds];simp) (fun i p q hp hq=>?_) ⟨by simp,fun i c u hc _=>?_⟩
  ·simp only[List.getElem?_map,Option.map_eq_some_iff]at hx;obtain⟨y,hy,rfl⟩:=hx;have:=(List.getElem?_eq_some_iff.1 hy).2;simp at this;subst this;rfl
  ·rw[<-hds]at hp;simp only[List.getElem?_map,Option.map_eq_some_iff]at hp hq;obtain⟨y,hy,rfl⟩:=hp;obtain⟨y',hy',rfl⟩:=hq;rw[hy]at hy';injection hy' with hy';subst hy';exact⟨rfl,h.ev _⟩
  ·have:=List.mem_of_getElem? hc;have:=List.eq_of_mem_replicate this;subst this;exact .pure (.undef u)
 have main:∃vs',(Instr.buildSlice t n (ps.map fun(x:Nat×Operand)=>(x.1,a.eval x.2))).run P w= .ok (.slice (some ⟨w.heap.size,0,none⟩) n n) (w.alloc (.cells vs' e))/\tW w (ay X ρ bx w) ρ ((dps.map (·.2)).flatMap D.cells) vs':=by
  have hpm:(ps.map fun(x:Nat×Operand)=>(x.1,a.eval x.2)).toList=ps.toList.map fun p=>(p.1,a.eval p.2):=by simp
  have hnb:¬n * bI P e>2 ^ 24:=by rw[<-hse];omega
  by_cases hn0:n * esz=0
  ·obtain⟨vs',k1,k2⟩:=go #[] (.inl hn0);refine⟨vs',?_,k2⟩;rw[hn0]at k1;have hnb0:¬0>2 ^ 24:=oM;simp only[Instr.buildSlice,Sem.run_bind,run_underlying hu,Result.andThen_ok,bW (hse▸hpos),<-hse,hn0,hnb0,if_false,if_true,Sem.run_pure,hpm,k1,newRow,newObj,Sem.run,World.alloc]
  ·obtain⟨vs',k1,k2⟩:=go z.cells (.inr rfl);refine⟨vs',?_,k2⟩;rw[<-hse]at hnb;simp only[Instr.buildSlice,Sem.run_bind,run_underlying hu,Result.andThen_ok,bW (hse▸hpos),<-hse,hnb,if_false,hn0,Sem.run_pure,hpm,hz1,k1,newRow,newObj,Sem.run,World.alloc]
 exact main
theorem ua(h:az X ρ σ bx a w){t:TypeId}{n:Nat}{ps:Array (Nat×Operand)}{d:D}(hv:iM (ak P) (ak P t) n (ps.toList.map fun p=>(p.1,ev σ p.2))=some d):Yields P X ρ bx a w ⟨dst,.buildSlice t n ps,ty,pos,af,g⟩ d:=by
 unfold iM at hv;split at hv
 ·rename_i e esz b ag hk;split at hv
  ·rename_i hc;obtain⟨hm,ha,hpos,hbig,hzl⟩:=hc;injection hv with hv;subst hv;obtain⟨hu,hse,_,_⟩:=bY hk;generalize hds:(ps.toList.map fun p=>(p.1,ev σ p.2))=dps at hm ha;have hlen:dps.length=n:=by have:=congrArg List.length hm;simpa using this
   have ha':dps.all (fun p=>p.2.cells.length==esz&&p.2.cells.all D.one)=true:=by
    rw[List.all_eq_true]at ha⊢;intro p hp;have:=ha p hp;simp only[Bool.and_eq_true]at this⊢;exact this.1
   obtain⟨vs',hrun,hrep⟩:=CB (ag:=ag) h hu hse hds hm ha' hpos hbig hzl;have hb:=(Below.refl w.heap.size w).alloc (Nat.le_refl _) (.cells vs' e);have hel:∀x∈dps.map (·.2),x.cells.length=esz/\x.cells.all D.one=true/\x.pure=true:=by
    intro x hx;obtain⟨p,hp,rfl⟩:=List.mem_map.1 hx;have:=List.all_eq_true.1 ha p hp;simp only[Bool.and_eq_true,beq_iff_eq]at this;exact⟨this.1.1,this.1.2,this.2⟩
   have hcell:∀(i:Nat) d (j:Nat) c,(dps.map (·.2))[i]? =some d->d.cells[j]? =some c->∃u,vs'[i * esz+j]? =some u/\aE w (ay X ρ bx w) ρ c u:=by
    intro i d j c hi hj;have hd:=hel d (List.mem_of_getElem? hi);have hj':j<esz:=by have:=(List.getElem?_eq_some_iff.1 hj).1;omega
    have hf:=ud (sz:=esz) (dps.map (·.2)) i j d (fun x hx=>(hel x hx).1) hi hj';rw[hj]at hf;have hlt:=(List.getElem?_eq_some_iff.1 hf).1;have hlt':i * esz+j<vs'.size:=by rw[hrep.1];exact hlt
    have hu':vs'[i * esz+j]? =some vs'[i * esz+j]:=Array.getElem?_eq_getElem hlt';exact⟨_,hu',hrep.2 _ _ _ hf hu'⟩
   have hgd:∀(i:Nat) d (j:Nat) c,(dps.map (·.2))[i]? =some d->d.cells[j]? =some c->vs'[i * esz+j]? =some (vs'.getD (i * esz+j) undef)/\aE w (ay X ρ bx w) ρ c (vs'.getD (i * esz+j) undef):=by
    intro i d j c hi hj;obtain⟨u,hu',hr⟩:=hcell i d j c hi hj;have:vs'.getD (i * esz+j) undef=u:=by rw[Array.getD_eq_getD_getElem?,hu'];rfl
    rw[this];exact⟨hu',hr⟩
   refine⟨.slice (some ⟨w.heap.size,0,none⟩) n n,w.alloc (.cells vs' e),?_,hb,.pure (.sl (b:=w.heap.size) (off:=0) (us:=fun i j=>vs'.getD (i * esz+j) undef) (by simp[hlen]) (Nat.le_refl _) ?_ (fun _=>⟨rfl,h.fresh _⟩)
    (fun i d hi=>(hel d (List.mem_of_getElem? hi)).1) (fun i d j c hi hj=>?_) (fun i d j c hi hj=>?_) (fun i d j c hi hj=>?_))⟩
   ·simp only[execOp,Sem.run_bind,hrun,Result.andThen_ok,Sem.run_pure]
   ·have:n<=n * esz:=Nat.le_mul_of_pos_right n hpos;simp only[maxLen];omega
   ·rw[Nat.zero_add];have hn:=heap_alloc_new w (.cells vs' e);simp only[World.cell?,hn,Option.isSome_none,Bool.false_eq_true,if_false];exact(hgd i d j c hi hj).1
   ·exact(hgd i d j c hi hj).2.one (List.all_eq_true.1 (hel d (List.mem_of_getElem? hi)).2.1 c (List.mem_of_getElem? hj))
   ·refine((hgd i d j c hi hj).2.mono (fun b hb'=>?_) (fun b hb'=>?_) (fun _ _ _ h=>h)).dK (nr (hel d (List.mem_of_getElem? hi)).2.2 c (List.mem_of_getElem? hj))
    ·exact hb.block b hb'.1
    ·exact⟨Nat.lt_of_lt_of_le hb'.1 hb.size,hb'.2⟩
  ·cases hv
 ·cases hv
theorem jX{b:Builtin}{ats:Array TypeId}{args:Array Operand}{v:Value}{f:Array TypeId->TypeId->Array Value->Sem Value}(hb:∀ts t cs vs,builtin b ts t cs vs=(do pure (.value (<-f ts t vs))))(hr:(f ats ty (args.map a.eval)).run P w= .ok v w):
 (execOp a.eval ⟨dst,.call {callee:=.builtin b,args,argTypes:=ats},ty,pos,af,g⟩).run P w= .ok (.value v) w:=by
 simp only[execOp,resolve,invoke,Sem.run_bind,Sem.run_pure,Result.andThen_ok,hb,hr]
theorem FD(h:az X ρ σ bx a w){ats:Array TypeId}{args:Array Operand}{d:D}(hv:i_ .len (ats.toList.map (ak P)) (args.toList.map (ev σ))=some d):Yields P X ρ bx a w ⟨dst,.call {callee:=.builtin .len,args,argTypes:=ats},ty,pos,af,g⟩ d:=by
 obtain⟨ats⟩:=ats;obtain⟨args⟩:=args;cases ats with
 |nil=>simp[i_]at hv
 |cons T ats=>
 cases ats with
 |cons T' ats=>simp[i_]at hv
 |nil=>
 cases args with
 |nil=>simp[i_]at hv
 |cons x args=>
 cases args with
 |cons y args=>simp[i_]at hv
 |nil=>
 simp only[List.map_cons,List.map_nil,i_,Option.map_eq_some_iff]at hv;obtain⟨n,hn,rfl⟩:=hv;have hx:=h.ev x;generalize ev σ x=dx at hn hx;refine aM _ (jX (f:=Builtin.len_) (fun _ _ _ _=>rfl) (v:=.int .i64 (n:Int)) ?_) (.pure (.int _ _));simp only[List.map_toArray,List.map_cons,List.map_nil];unfold mO at hn;split at hn<;>try (cases hn;done)
 all_goals injection hn with hn;subst hn
 ·rename_i s hk;have hsz:(⟨s.toArray⟩:ByteArray).size=s.length:=by simp[ByteArray.size]
  simp only[Builtin.len_,List.getElem?_toArray,List.getElem?_cons_zero,hx.fl,Sem.run_bind,run_underlying (lC hk),Result.andThen_ok,Sem.run_pure,goInt,hsz]
 ·rename_i hk;have hx2:=hx.dK rfl;generalize hax:a.eval x=vx at hx2;cases hx2 with
  |sl hn _ _ _ _ _ _ _=>subst hn;simp[Builtin.len_,run_underlying (bY hk).1,goInt]
 ·rename_i hk;simp[Builtin.len_,hx.ei,run_underlying (bY hk).1,goInt]
 ·rename_i hk;generalize hax:a.eval x=vx at hx;cases hx with
  |pure h=>cases h
  |osl=>simp[Builtin.len_,run_underlying (bY hk).1,goInt]
 ·rename_i hk;obtain⟨A,hax⟩:=(hx.dK rfl).pK;simp[Builtin.len_,hax,run_underlying (bY hk).1,goInt]
 ·rename_i hk;generalize hax:a.eval x=vx at hx;cases hx with
  |pure h=>cases h
  |csl=>simp[Builtin.len_,run_underlying (bY hk).1,goInt]
 ·rename_i hk;obtain⟨e,hu,_⟩:=pY hk;simp[Builtin.len_,run_underlying hu,goInt]
theorem EP(h:az X ρ σ bx a w){ats:Array TypeId}{args:Array Operand}{d:D}(hv:i_ .cap (ats.toList.map (ak P)) (args.toList.map (ev σ))=some d):Yields P X ρ bx a w ⟨dst,.call {callee:=.builtin .cap,args,argTypes:=ats},ty,pos,af,g⟩ d:=by
 obtain⟨ats⟩:=ats;obtain⟨args⟩:=args;cases ats with
 |nil=>simp[i_]at hv
 |cons T ats=>
 cases ats with
 |cons T' ats=>simp[i_]at hv
 |nil=>
 cases args with
 |nil=>simp[i_]at hv
 |cons x args=>
 cases args with
 |cons y args=>simp[i_]at hv
 |nil=>
 simp only[List.map_cons,List.map_nil]at hv;have hx:=h.ev x;generalize hti:ak P T=ti at hv;generalize ev σ x=dx at hv hx;obtain⟨k,size,ag,z⟩:=ti;cases k<;>try (simp[i_]at hv;done)
 cases dx<;>try (simp[i_]at hv;done)
 simp only[i_,Option.some.injEq]at hv;subst hv;rename_i e esz b g;have hk:(ak P T).k= .slice e esz b g:=by rw[hti]
 refine aM _ (jX (f:=Builtin.cap_) (fun _ _ _ _=>rfl) (v:=.int .i64 0) ?_) (.pure (.int _ _));simp only[List.map_toArray,List.map_cons,List.map_nil];simp[Builtin.cap_,hx.ei,run_underlying (bY hk).1,goInt]
theorem FI(h:az X ρ σ bx a w){ats:Array TypeId}{args:Array Operand}{d:D}(hv:minD (args.toList.map (ev σ))=some d):Yields P X ρ bx a w ⟨dst,.call {callee:=.builtin .min,args,argTypes:=ats},ty,pos,af,g⟩ d:=by
 obtain⟨args⟩:=args;unfold minD at hv;split at hv
 ·rename_i k m k' n he;cases args with
  |nil=>simp at he
  |cons x args=>
  cases args with
  |nil=>simp at he
  |cons y args=>
  cases args with
  |cons z args=>simp at he
  |nil=>
  simp only[List.map_cons,List.map_nil,List.cons.injEq,and_true]at he;split at hv
  ·injection hv with hv;subst hv;have hx:=h.ev x;have hy:=h.ev y;rw[he.1]at hx;rw[he.2]at hy;refine aM _ (jX (f:=Builtin.min_) (fun _ _ _ _=>rfl) (v:=.int k (if n<m then n else m)) ?_) (.pure (.int _ _));simp[Builtin.min_,Builtin.min2,hx.cy,hy.cy]
  ·cases hv
 ·cases hv
theorem uj{S:Nat->Prop}{x y d:D}{u v:Value}(h:qB x y=some d)(hx:aE w S ρ x u)(hy:aE w S ρ y v):∃k n,d= .int k n/\(Builtin.max2 u v).run P w= .ok (.int k n) w:=by
 unfold qB at h;split at h
 ·rename_i k m k' n;split at h
  ·injection h with h;subst h;rw[hx.cy,hy.cy];exact⟨_,_,rfl,by simp[Builtin.max2]⟩
  ·cases h
 ·cases h
theorem FF(h:az X ρ σ bx a w){ats:Array TypeId}{args:Array Operand}{d:D}(hv:maxD (args.toList.map (ev σ))=some d):Yields P X ρ bx a w ⟨dst,.call {callee:=.builtin .max,args,argTypes:=ats},ty,pos,af,g⟩ d:=by
 obtain⟨args⟩:=args
 match args,hv with
 |[x,y],hv=>
  obtain⟨k,n,rfl,h1⟩:=uj (P:=P) hv (h.ev x) (h.ev y);refine aM _ (jX (f:=Builtin.max_) (fun _ _ _ _=>rfl) (v:=.int k n) ?_) (.pure (.int _ _));simp[Builtin.max_,h1]
 |[x,y,z],hv=>
  obtain⟨m,hm,hv⟩:=Option.bind_eq_some_iff.1 hv;obtain⟨k,n,rfl,h1⟩:=uj (P:=P) hm (h.ev x) (h.ev y);obtain⟨k',n',rfl,h2⟩:=uj (P:=P) hv (.pure (.int k n)) (h.ev z);refine aM _ (jX (f:=Builtin.max_) (fun _ _ _ _=>rfl) (v:=.int k' n') ?_) (.pure (.int _ _));simp[Builtin.max_,h1,h2]
 |[],hv=>cases hv
 |[_],hv=>cases hv
 |_::_::_::_::_,hv=>cases hv
theorem xr:∀(es:List D) (l:List UInt8),fA es=some l->∃ns:List Int,es=ns.map (D.int .u8)/\l=ns.map fun n=>UInt8.ofNat n.toNat
 |[],l,h=>by simp only[fA,Option.some.injEq]at h;subst h;exact⟨[],rfl,rfl⟩
 |x::es,l,h=>by
  unfold fA at h;split at h
  ·rename_i heq;cases heq
  ·rename_i n es' heq;injection heq with h1 h2;subst h1;subst h2;rw[Option.map_eq_some_iff]at h;obtain⟨l',h',rfl⟩:=h;obtain⟨ns,rfl,rfl⟩:=xr _ _ h';exact⟨n::ns,rfl,rfl⟩
  ·cases h
theorem EL{S:Nat->Prop}{es:List D}{A:Option Addr}{n cap:Nat}{l:List UInt8}(hx:ba w S (.sl 1 es) (.slice A n cap))(hl:fA es=some l):(Conv.bytesToString (.slice A n cap)).run P w= .ok (.string ⟨l.toArray⟩) w:=by
 obtain⟨ns,rfl,rfl⟩:=xr es l hl;cases hx with
 |@sl _ _ _ _ _ b off us hn hcap hmax hA hsz hc h1 hr=>
  by_cases hne:ns=[]
  ·subst hne;simp only[List.map_nil,List.length_nil]at hn;subst hn;cases A with
   |none=>rw[Conv.bytesToString,Sem.run_pure];rfl
   |some ad=>
    rw[run_bytesToString w ad 0 cap [] (run_loadCells_list (P:=P) (w:=w) ad [] (fun j v hj=>by simp at hj))];rfl
  ·obtain⟨rfl,_⟩:=hA (by simpa using hne);have hl:(loadCells ⟨b,off,none⟩ n).run P w= .ok (ns.map (Value.int .u8)).toArray w:=by
    have:=run_loadCells_list (P:=P) (w:=w) ⟨b,off,none⟩ (ns.map (Value.int .u8)) (fun j v hj=>by
     rw[List.getElem?_map,Option.map_eq_some_iff]at hj;obtain⟨m,hm,rfl⟩:=hj;have h0:=hc j (.int .u8 m) 0 (.int .u8 m) (by simp[hm]) rfl;have h2:=hr j (.int .u8 m) 0 (.int .u8 m) (by simp[hm]) rfl;have e:us j 0= .int .u8 m:=(aE.pure (ρ:=⟨fun _ _=>none,fun _=>none⟩) h2).cy;rw[e]at h0;rw[Addr.cz];simpa using h0)
    rw[List.length_map]at this;rw[List.length_map]at hn;rw[hn];exact this
   rw[run_bytesToString w _ n cap ns hl,foldl_push_bytes]
   congr 2
   simp[ByteArray.empty,ByteArray.emptyWithCapacity];rfl
theorem Df(h:az X ρ σ bx a w){s t:TypeId}{x:Operand}{d:D}(hv:lW (ak P) (ak P s) (ak P t) (ev σ x)=some d):Yields P X ρ bx a w ⟨dst,.convert s t x,ty,pos,af,g⟩ d:=by
 have hx:=h.ev x;generalize ev σ x=dx at hv hx;have key:∀(sz:Nat) (es:List D) (e z0 b0:Nat) (g0:Bool),(ak P s).k= .slice e z0 b0 g0->(ak P t).k= .str->(sz=1/\(ak P e).k.lN=true)->ba w (ay X ρ bx w) (.sl sz es) (a.eval x)->(fA es).map D.str=some d->Yields P X ρ bx a w ⟨dst,.convert s t x,ty,pos,af,g⟩ d:=by
  intro sz es e z0 b0 g0 h1 h2 hsz hx2 hv2;obtain⟨hsz,hu8⟩:=hsz;subst hsz;have hu:P.underlying e=some (.int .u8):=by
   unfold TK.lN at hu8;split at hu8
   ·rename_i hk;exact oE hk
   ·cases hu8
  rw[Option.map_eq_some_iff]at hv2;obtain⟨l,hl,rfl⟩:=hv2;refine aM (.string ⟨l.toArray⟩) ?_ (.pure (.str _));generalize hax:a.eval x=vx at hx2;have hsl:∃A n cap,vx= .slice A n cap:=by cases hx2;exact⟨_,_,_,rfl⟩
  obtain⟨A,n,cap,rfl⟩:=hsl;have hrun:=EL (P:=P) hx2 hl;simp only[execOp,convert,hax,Sem.run_bind,run_underlying (bY h1).1,run_underlying (lC h2),run_underlying hu,Result.andThen_ok,hrun,Sem.run_pure]
 unfold lW at hv;split at hv
 ·rename_i k n;split at hv
  ·rename_i k1 k2 h1 h2;injection hv with hv;subst hv;refine aM (.int k2 (k2.wrap n)) ?_ (.pure (.int _ _));simp[execOp,convert,run_underlying (oE h1),run_underlying (oE h2),hx.cy,Conv.intToInt]
  ·cases hv
 ·rename_i l;split at hv
  ·rename_i h1 h2;injection hv with hv;subst hv;refine aM (.string ⟨l.toArray⟩) ?_ (.pure (.str _));simp[execOp,convert,run_underlying (lC h1),run_underlying (lC h2),hx.fl]
  ·cases hv
 ·rename_i sz es;split at hv
  ·rename_i e z0 b0 g0 h1 h2;split at hv
   ·rename_i hsz;exact key sz es e z0 b0 g0 h1 h2 hsz (hx.dK rfl) hv
   ·cases hv
  ·cases hv
 ·rename_i sz es;split at hv
  ·rename_i e z0 b0 g0 h1 h2;split at hv
   ·rename_i hsz;exact key sz es e z0 b0 g0 h1 h2 hsz (hx.dK rfl).mG hv
   ·cases hv
  ·cases hv
 ·split at hv
  ·rename_i e z0 b0 g0 h1 h2;split at hv
   ·rename_i hu8;injection hv with hv;subst hv;have hu:P.underlying e=some (.int .u8):=by
     unfold TK.lN at hu8;split at hu8
     ·rename_i hk;exact oE hk
     ·cases hu8
    refine aM (.string ⟨([]:List UInt8).toArray⟩) ?_ (.pure (.str _));simp only[execOp,convert,hx.ei,Sem.run_bind,run_underlying (bY h1).1,run_underlying (lC h2),run_underlying hu,Result.andThen_ok,Conv.bytesToString,Sem.run_pure];rfl
   ·cases hv
  ·cases hv
 ·cases hv
theorem A_(h:az X ρ σ bx a w){t:TypeId}{x m:Operand}{lo hi:Option Operand}{d:D}(hv:AD (ak P t) (ev σ x) (dh σ lo) (dh σ hi) (rZ (ev σ m))=some d):Yields P X ρ bx a w ⟨dst,.slice t x lo hi (some m),ty,pos,af,g⟩ d:=by
 have hx:=h.ev x;have hm:=h.ev m;generalize ev σ x=dx at hv hx;generalize ev σ m=dm at hv hm;unfold AD at hv;split at hv
 ·rename_i l hh mm hl hhi hmm;obtain⟨k,hdm⟩:∃k,dm= .int k mm:=by
   cases dm<;>simp only[rZ]at hmm<;>try (cases hmm;done)
   injection hmm with hmm;injection hmm with hmm;subst hmm;exact⟨_,rfl⟩
  subst hdm;have hmv:=hm.cy;rcases lr h hhi with⟨_,h0⟩|⟨y,k',n',hy1,hy2,hy⟩
  ·cases h0
  injection hy2 with hy2;subst hy2;subst hy1;have bound:∀(p q:Nat) (len cap:Nat),cT len l (some hh)=some (p,q)->mm=hh->len<=cap->(Instr.sliceBounds true len cap (lo.map a.eval) (some (a.eval y)) (some (a.eval m))).run P w= .ok (p,q,q) w/\p<=q/\q<=len:=by
   intro p q len cap hc hmh hle;subst hmh;unfold cT at hc;simp only[Option.getD_some]at hc;split at hc
   ·rename_i hb;injection hc with hc;injection hc with h1 h2;have c1:0<=mm/\mm<=(cap:Int):=⟨by omega,by omega⟩
    have c2:0<=mm/\mm<=((mm.toNat:Nat):Int):=⟨by omega,by omega⟩
    rcases lr h hl with⟨rfl,rfl⟩|⟨z,kz,nz,rfl,rfl,hz⟩<;>simp only[Option.getD_none,Option.getD_some]at hb h1
    ·subst h1;subst h2;refine⟨by simp only[Instr.sliceBounds,Instr.sliceBound,hy,hmv,asIntOf,Option.map_none,Sem.run_bind,Sem.run_pure,Result.andThen_ok,Sem.run_ite,c1,c2,and_self,if_true];rfl,by omega,by omega⟩
    ·subst h1;subst h2;have c3:0<=nz/\nz<=((mm.toNat:Nat):Int):=⟨by omega,by omega⟩
     refine⟨by simp only[Instr.sliceBounds,Instr.sliceBound,hy,hz,hmv,asIntOf,Option.map_some,Sem.run_bind,Sem.run_pure,Result.andThen_ok,Sem.run_ite,c1,c2,c3,and_self,if_true],by omega,by omega⟩
   ·cases hc
  unfold pV at hv;split at hv
  ·rename_i e esz b ag sz es hk;split at hv
   ·rename_i hc0;obtain⟨he,hpos,hmh⟩:=hc0;subst he;obtain⟨hu,hse,_,_⟩:=bY hk;cases hc:cT es.length l (some hh)with
    |none=>simp[hc]at hv
    |some pq=>
     obtain⟨p,q⟩:=pq;simp only[hc,Option.map_some,Option.some.injEq]at hv;subst hv;have hx2:ba w (ay X ρ bx w) (.sl sz es) (a.eval x):=hx.dK rfl;generalize hax:a.eval x=vx at hx2;cases hx2 with
     |@sl _ _ A n cap b' off us hn hcap hmax hA hsz hcc h1 hr=>
      subst hn;obtain⟨hrun,k1,k2⟩:=bound p q _ cap hc hmh hcap;have hel:∀(i:Nat) c,((es.drop p).take (q - p))[i]? =some c->es[p+i]? =some c:=fun i c hi=>by
       have hlt:=(List.getElem?_eq_some_iff.1 hi).1;simp at hlt;rwa[List.getElem?_take_of_lt oM,List.getElem?_drop]at hi
      refine aM (.slice (if q=p then A else A.map (·.add (p * sz))) (q - p) (q - p)) ?_ (.pure (.clp (.sl (b:=b') (off:=off+p * sz) (us:=fun i j=>us (p+i) j) (by simp;omega) oM oM (fun hne=>?_)
       (fun i c hi=>hsz _ _ (hel i c hi)) (fun i c j c' hi hj=>?_) (fun i c j c' hi hj=>h1 _ _ _ _ (hel i c hi) hj) (fun i c j c' hi hj=>hr _ _ _ _ (hel i c hi) hj))))
      ·simp only[execOp,Instr.sliceAt,Instr.slice,hax,Sem.run_bind,Sem.run_pure,Result.andThen_ok,run_underlying hu,Option.map_some,hrun,bW (hse▸hpos),<-hse]
      ·have hlt:p<es.length:=by
        rcases Nat.lt_or_ge p es.length with h'|h'
        ·exact h'
        ·exfalso;apply hne;rw[List.drop_eq_nil_of_le h'];simp
       have hqp:q≠p:=by rintro rfl;apply hne;simp
       obtain⟨rfl,hb⟩:=hA (by rintro rfl;simp at hlt);rw[if_neg hqp];exact⟨by simp[Addr.cz],hb⟩
      ·have:=hcc _ _ _ _ (hel i c hi) hj;rwa[Nat.add_mul,<-Nat.add_assoc]at this
   ·cases hv
  ·rename_i e esz b ag hk;split at hv
   ·rename_i hc0;obtain⟨h1,h2,h3,hpos⟩:=hc0;injection hv with hv;subst hv;obtain⟨hu,hse,_,_⟩:=bY hk;have hax:=hx.ei;obtain⟨hrun,_,_⟩:=bound 0 0 0 0 (by unfold cT;rw[h2,h3];rfl) (h1.trans h2.symm) (Nat.le_refl _);refine aM (.slice none 0 0) ?_ (.pure .nilsl);simp only[execOp,Instr.sliceAt,Instr.slice,hax,Sem.run_bind,Sem.run_pure,Result.andThen_ok,run_underlying hu,Option.map_some,hrun,bW (hse▸hpos),if_true,Nat.sub_self]
   ·cases hv
  ·cases hv
 ·cases hv
theorem DW(h:az X ρ σ bx a w){c x y:Operand}{d:D}(hv:me (ev σ c) (ev σ x) (ev σ y)=some d):Yields P X ρ bx a w ⟨dst,.pick c x y,ty,pos,af,g⟩ d:=by
 have hc:=h.ev c;generalize ev σ c=dc at hv hc;cases dc<;>simp only[me]at hv<;>try (cases hv;done)
 rename_i t;injection hv with hv;subst hv;refine aM (if t then a.eval x else a.eval y) ?_ ?_
 ·simp[execOp,asBool,hc.fX]
 ·cases t
  ·exact h.ev y
  ·exact h.ev x
theorem FL(h:az X ρ σ bx a w){op:BinOp}{t t':TypeId}{x:Operand}{d:D}(hv:HM (ak P t) op (ev σ x)=some d):Yields P X ρ bx a w ⟨dst,.binOp op t x (.const .nilIface) t',ty,pos,af,g⟩ d:=by
 have hx:=h.ev x;generalize ev σ x=dx at hv hx;have key:∀b ms,P.underlying t=some (.interface ms)->sg dx=some b->(Op.equal t (a.eval x) .nilIface).run P w= .ok b w/\(∀op,(eqGuard op t x (.const .nilIface) (a.eval x) .nilIface).run P w= .ok () w)/\((∃t v,a.eval x= .iface t v)\/a.eval x= .nilIface):=by
  intro b ms hu hb;unfold sg at hb;split at hb
  ·injection hb with hb;subst hb;generalize a.eval x=vx at hx;have:∃t v,vx= .iface t v:=by cases hx with
    |pure h=>cases h with|ifc h=>exact⟨_,_,rfl⟩
    |ifc h=>exact⟨_,_,rfl⟩
   obtain⟨t1,v1,rfl⟩:=this;have e1:∀n,(Op.equalIn (n+1) t (.iface t1 v1) .nilIface).run P w= .ok false w:=fun n=>by simp[Op.equalIn,run_underlying hu]
   exact⟨e1 9999,fun op=>by cases op<;>simp[eqGuard],.inl ⟨_,_,rfl⟩⟩
  ·injection hb with hb;subst hb;have hx:=hx.wQ;rw[hx];have e1:∀n,(Op.equalIn (n+1) t .nilIface .nilIface).run P w= .ok true w:=fun n=>by simp[Op.equalIn,run_underlying hu]
   exact⟨e1 9999,fun op=>by cases op<;>simp[eqGuard],.inr rfl⟩
  ·cases hb
 unfold HM at hv;split at hv
 ·rename_i hk;obtain⟨ms,hu⟩:=Gj hk;rw[Option.map_eq_some_iff]at hv;obtain⟨b,hb,rfl⟩:=hv;obtain⟨h1,h2,h3⟩:=key b ms hu hb;refine aM (.bool b) ?_ (.pure (.bool _));have he:a.eval (.const .nilIface)= .nilIface:=rfl;have:(binOp .eql t (a.eval x) .nilIface).run P w= .ok (.bool b) w:=by rcases h3 with⟨t1,v1,e⟩|e<;>rw[e]at h1⊢ <;>simp[binOp,h1]
  simp only[execOp,he,Sem.run_bind,h2,this,Result.andThen_ok,Sem.run_pure]
 ·rename_i hk;obtain⟨ms,hu⟩:=Gj hk;rw[Option.map_eq_some_iff]at hv;obtain⟨b,hb,rfl⟩:=hv;obtain⟨h1,h2,h3⟩:=key b ms hu hb;refine aM (.bool (!b)) ?_ (.pure (.bool _));have he:a.eval (.const .nilIface)= .nilIface:=rfl;have:(binOp .neq t (a.eval x) .nilIface).run P w= .ok (.bool (!b)) w:=by rcases h3 with⟨t1,v1,e⟩|e<;>rw[e]at h1⊢ <;>simp[binOp,h1]
  simp only[execOp,he,Sem.run_bind,h2,this,Result.andThen_ok,Sem.run_pure]
 ·cases hv
theorem BF(h:az X ρ σ bx a w){t:TypeId}{x:Operand}{d:D}(hv:vE (ak P t) t (ev σ x)=some d):Yields P X ρ bx a w ⟨dst,.makeInterface t x,ty,pos,af,g⟩ d:=by
 unfold vE at hv;split at hv
 ·cases hv
 ·cases hv
 ·rename_i h1 h2;injection hv with hv;subst hv;obtain⟨dd,hu,hn⟩:=Bf h1 h2;refine aM (.iface t (a.eval x)) ?_ (.ifc (h.ev x));simp only[execOp,Instr.makeInterface,Sem.run_bind,run_underlying hu,Result.andThen_ok];cases dd<;>first|(exact absurd rfl (hn _))|simp
theorem El(h:az X ρ σ bx a w){t xt:TypeId}{x:Operand}{ok:Bool}{d:D}(hv:wu (ak P t) t ok (ev σ x)=some d):Yields P X ρ bx a w ⟨dst,.typeAssert x xt t ok,ty,pos,af,g⟩ d:=by
 have hx:=h.ev x;generalize ev σ x=dx at hv hx;have hzero:(ak P t).zero.isEmpty=false->∃z,(zeroValue t).run P w= .ok z w:=by
  intro h2;simp only[ak]at h2;cases hi:P.info? t with
  |none=>simp[hi]at h2
  |some i=>
   cases hz:i.zero with
   |none=>simp[hi,hz]at h2
   |some z=>exact⟨z,by simp[zeroValue,typeInfo,hi,hz,go_sem]⟩
 have htup:∀(v v2:Value) (d d2:D),aE w (ay X ρ bx w) ρ d v->aE w (ay X ρ bx w) ρ d2 v2->aE w (ay X ρ bx w) ρ (.tup [d,d2]) (.tuple #[v,v2]):=by
  intro v v2 d d2 h1 h2;refine .tup rfl fun i dd vv hd hv=>?_;rcases i with _|_|i
  ·simp at hd hv;subst hd;subst hv;exact h1
  ·simp at hd hv;subst hd;subst hv;exact h2
  ·simp at hd
 unfold wu at hv;split at hv
 ·cases hv
 ·cases hv
 ·rename_i h1 h2;obtain⟨dd,hu,hn⟩:=Bf h1 h2;split at hv
  ·rename_i t' v0;generalize hax:a.eval x=vx at hx;have:∃v,vx= .iface t' v/\aE w (ay X ρ bx w) ρ v0 v:=by cases hx with
    |pure h=>cases h with|ifc h=>exact⟨_,rfl,.pure h⟩
    |ifc h=>exact⟨_,rfl,h⟩
   obtain⟨v,rfl,hr⟩:=this;split at hv
   ·rename_i ht;subst ht;injection hv with hv;subst hv;refine aM (if ok then .tuple #[v,.bool true]else v) ?_ ?_
    ·simp only[execOp,Instr.typeAssert,Sem.run_bind,run_underlying hu,Result.andThen_ok,hax];cases dd<;>first|(exact absurd rfl (hn _))|(cases ok<;>simp)
    ·cases ok
     ·exact hr
     ·exact htup _ _ _ _ hr (.pure (.bool _))
   ·rename_i ht;split at hv
    ·rename_i hz;simp only[Bool.and_eq_true,Bool.not_eq_true']at hz;obtain⟨rfl,hz⟩:=hz;injection hv with hv;subst hv;obtain⟨z,hz⟩:=hzero hz;refine aM (.tuple #[z,.bool false]) ?_ (htup _ _ _ _ (.pure (.undef _)) (.pure (.bool _)));simp only[execOp,Instr.typeAssert,Sem.run_bind,run_underlying hu,Result.andThen_ok,hax];cases dd<;>first|(exact absurd rfl (hn _))|simp[ht,hz]
    ·cases hv
  ·split at hv
   ·rename_i hz;simp only[Bool.and_eq_true,Bool.not_eq_true']at hz;obtain⟨rfl,hz⟩:=hz;injection hv with hv;subst hv;obtain⟨z,hz⟩:=hzero hz;refine aM (.tuple #[z,.bool false]) ?_ (htup _ _ _ _ (.pure (.undef _)) (.pure (.bool _)));simp only[execOp,Instr.typeAssert,Sem.run_bind,run_underlying hu,Result.andThen_ok,hx.wQ];cases dd<;>first|(exact absurd rfl (hn _))|simp[hz]
   ·cases hv
  ·cases hv
theorem yo(h:az X ρ σ bx a w)(o:Oper){d:D}(hv:bR P σ bx o.op=some d):Yields P X ρ bx a w o d:=by
 obtain⟨dst,op,ty,pos,af,g⟩:=o;simp only at hv;cases op with
 |move x=>simp only[bR,Option.some.injEq]at hv;subst hv;exact aM (a.eval x) (by simp[execOp]) (h.ev x)
 |assign x=>simp only[bR,Option.some.injEq]at hv;subst hv;exact aM (a.eval x) (by simp[execOp]) (h.ev x)
 |pick c x y=>exact DW h hv
 |binOp op t x y t'=>
  simp only[bR,tZ]at hv;cases hn:isNil y with
  |false=>rw[hn]at hv;exact Br h hv
  |true=>
   rw[hn]at hv;have hy:y= .const .nilIface:=by
    unfold isNil at hn;split at hn
    ·rfl
    ·cases hn
   subst hy;exact FL h hv
 |makeInterface t x=>exact BF h hv
 |typeAssert x xt t ok=>exact El h hv
 |unOp op t x=>exact En h hv
 |fieldAddr t x i=>exact vh h hv
 |field t x i=>exact BA h hv
 |indexAddr t x y=>exact vt h hv
 |index t x y=>exact BD h hv
 |load t x=>exact DF h hv
 |extract x i=>
  simp only[bR]at hv;have hx:=h.ev x;generalize ev σ x=dx at hv hx;cases dx<;>simp only[yF]at hv<;>try (cases hv;done)
  rename_i ds;obtain⟨vs,hax,hl,hr⟩:=hx.Cw;have hi:i<vs.size:=by have:=(List.getElem?_eq_some_iff.1 hv).1;omega
  have hvi:vs[i]? =some vs[i]:=Array.getElem?_eq_getElem hi;exact aM vs[i] (by simp[execOp,Instr.extract,hax,hvi]) (hr _ _ _ hv hvi)
 |slice t x lo hi mx=>
  cases mx with
  |none=>exact BR h hv
  |some m=>exact A_ h hv
 |build t ps=>
  simp only[bR]at hv;cases hb:iH (ak P t) (ps.toList.map fun p=>(p.1,ev σ p.2))with
  |some d'=>rw[hb]at hv;injection hv with hv;subst hv;exact zm h hb
  |none=>
   rw[hb]at hv;simp only[rz]at hv;split at hv
   ·rename_i hc;injection hv with hv;subst hv;rw[Bool.and_eq_true]at hc;obtain⟨h0,hu,i,z,hi,hz,hz2,hsz⟩:=Di hc.2;have hps:ps= #[]:=by apply Array.toList_inj.1;simpa using hc.1
    subst hps;refine aM (.agg #[]) ?_ (.pure (.agg rfl fun i d u hd hu=>by simp at hd));simp[execOp,Instr.build,zeroValue,typeInfo,hi,hz,go_sem,run_underlying hu,Instr.fill];exact FN hz2
   ·cases hv
 |buildSlice t n ps=>exact ua h hv
 |nilCheck x=>
  simp only[bR]at hv;have hx:=h.ev x;generalize ev σ x=dx at hv hx;cases dx<;>simp only[Ao]at hv<;>try (cases hv;done)
  ·injection hv with hv;subst hv;have hx2:=hx.dK rfl;generalize hax:a.eval x=vx at hx hx2;refine aM vx ?_ hx;cases hx2;simp[execOp,hax]
  ·injection hv with hv;subst hv;obtain⟨p,hp,hax⟩:=hx.iq;exact aM (a.eval x) (by simp[execOp,hax]) hx
 |makeFunc f first caps=>
  simp only[bR]at hv;split at hv
  ·rename_i hf;injection hv with hv;subst hv;have hf:first= #[]:=by simpa using hf
   subst hf;refine aM (.func f #[] (caps.map a.eval)) (by simp[execOp,Instr.makeFunc]) (.fn sI fun i d v hd hv=>?_);simp only[List.getElem?_map,Array.getElem?_toList,Array.getElem?_map,Option.map_eq_some_iff]at hd hv;obtain⟨x,hx,rfl⟩:=hd;obtain⟨y,hy,rfl⟩:=hv;rw[hx]at hy;injection hy with hy;subst hy;exact h.ev x
  ·split at hv
   ·rename_i hf;have hf:caps= #[]:=by simpa using hf
    subst hf;unfold Li at hv;split at hv
    ·injection hv with hv;subst hv;refine aM (.func (.func _) (first.map a.eval) #[]) (by simp[execOp,Instr.makeFunc]) (.bfn sI fun i d v hd hv=>?_);simp only[List.getElem?_map,Array.getElem?_toList,Array.getElem?_map,Option.map_eq_some_iff]at hd hv;obtain⟨x,hx,rfl⟩:=hd;obtain⟨y,hy,rfl⟩:=hv;rw[hx]at hy;injection hy with hy;subst hy;exact h.ev x
    ·cases hv
   ·cases hv
 |convert s t x=>exact Df h hv
 |call c=>
  obtain⟨callee,args,ats⟩:=c;cases callee with
  |builtin b=>
   simp only[bR]at hv;cases b with
   |len=>exact FD h hv
   |cap=>exact EP h hv
   |min=>exact FI h (by simpa only[i_]using hv)
   |max=>exact FF h (by simpa only[i_]using hv)
   |_=>simp[i_]at hv
  |_=>simp[bR]at hv
 |_=>simp[bR]at hv
end Go.V
namespace Go.V
open Go.RowKit
variable {P:Program} {X:Ctx} {ρ:bN} {σ:Env} {bx:ae} {a:Act} {w:World}
variable {ty:TypeId} {pos:String} {af:Array Edge} {g:Option (Nat×Bool)}
theorem An(h:az X ρ σ bx a w){T d s:Nat}(hd:d<X.N)(hlo:X.lo<=s){v:Value}{x:D}(hs:v.cells.size=x.cells.length)
 (hc:∀(j:Nat) c,x.cells[j]? =some c->∃u,v.cells[j]? =some u/\aE w (ay X ρ bx w) ρ c u/\u.oneCell'=true):
 ∃ρ',az X ρ' (ao σ d (.loc s ((bx s).ep+1) 0 0)) (ao bx s ⟨(bx s).ep+1,1,x.cells.length,T,[x]⟩) (a.put (some d) (.pointer (some ⟨w.heap.size,0,none⟩))) (w.alloc (.cells v.cells T)):=by
 have hb:=(Below.refl w.heap.size w).alloc (Nat.le_refl _) (.cells v.cells T);have h2:=h.own (w':=w.alloc (.cells v.cells T)) (t:=s) (p:=⟨w.heap.size,1,x.cells.length,T⟩) (es:=[x]) (bx1:=bx) hlo (fun _=> .inl rfl) (Old:=fun _=>False) (.og hb) (fun _ h=>h.elim) (.inl (Nat.le_refl _)) (fun S' ρ' hS hρ=>by
  refine⟨⟨v.cells,heap_alloc_new w _,by simp[hs],fun _ j=>v.cells.getD j undef,fun i y j c hi hj=>?_⟩,by simp,by simp[maxLen],fun i y hi=>?_⟩
  ·cases i with
   |zero=>
    simp only[List.getElem?_cons_zero,Option.some.injEq]at hi;subst hi;dsimp only;obtain⟨u,hu,hr,h1⟩:=hc j c hj;have:v.cells.getD j undef=u:=by rw[Array.getD_eq_getD_getElem?,hu];rfl
    rw[this,Nat.zero_mul,Nat.zero_add];exact⟨hu,hr.mono (fun b hb'=>hb.block b hb'.1) hS hρ,h1⟩
   |succ i=>simp at hi
  ·cases i with
   |zero=>simp only[List.getElem?_cons_zero,Option.some.injEq]at hi;subst hi;rfl
   |succ i=>simp at hi)
 refine⟨_,h2.put (dst:=some d) (fun t ht=>by injection ht with ht;subst ht;exact hd) (.loc (p:=⟨w.heap.size,1,x.cells.length,T⟩) ?_ sI)⟩;simp
theorem nS{t:TypeId}(h:(ak P t).zero.length≠0):∃i z,P.info? t=some i/\i.zero=some z/\(ak P t).zero=z.cells.toList.map tM:=by
 simp only[ak]at h⊢;cases hi:P.info? t with
 |none=>simp[hi]at h
 |some i=>
  cases hz:i.zero with
  |none=>simp[hi,hz]at h
  |some z=>exact⟨i,z,rfl,hz,by simp[hz]⟩
theorem y7(h:az X ρ σ bx a w){T d s:Nat}(hd:d<X.N)(hlo:X.lo<=s){z:D}(hz:fw (ak P T)=some z):
 ∃v w',(execOp a.eval ⟨some d,.alloc T,ty,pos,af,g⟩).run P w= .ok (.value v) w'/\
  ∃ρ',az X ρ' (ao σ d (.loc s ((bx s).ep+1) 0 0)) (ao bx s ⟨(bx s).ep+1,1,(ak P T).size,T,[z]⟩) (a.put (some d) v) w':=by
 unfold fw at hz;split at hz
 ·rename_i hc;obtain⟨hpos,hl,hag,hone⟩:=hc;injection hz with hz;have hzero:∃zv,(zeroValue T).run P w= .ok zv w/\(ak P T).zero=zv.cells.toList.map tM:=by
   have h2:(ak P T).zero.length≠0:=oM;simp only[ak]at h2⊢;cases hi:P.info? T with
   |none=>simp[hi]at h2
   |some i=>
    cases hz:i.zero with
    |none=>simp[hi,hz]at h2
    |some z=>exact⟨z,by simp[zeroValue,typeInfo,hi,hz,go_sem],by simp[hz]⟩
  obtain⟨zv,hz1,hz2⟩:=hzero;have hcells:z.cells=(ak P T).zero:=by
   subst hz;unfold tL;cases hA:(ak P T).agg with
   |true=>rfl
   |false=>
    rcases hag with hag|hag
    ·rw[hA]at hag;cases hag
    ·rw[hag]at hl
     match hzz:(ak P T).zero,hl with
     |[c],_=>
      rw[hzz]at hone;simp only[List.all_cons,List.all_nil,Bool.and_true]at hone;simp[en hone]
  have hlen:z.cells.length=(ak P T).size:=by rw[hcells,hl]
  obtain⟨ρ',h'⟩:=An (T:=T) h hd hlo (v:=zv) (x:=z) (by rw[hcells,hz2];simp) (fun j c hj=>by
   rw[hcells]at hj;have h1:=List.all_eq_true.1 hone c (List.mem_of_getElem? hj);rw[hz2,List.getElem?_map,Option.map_eq_some_iff]at hj;obtain⟨u,hu,rfl⟩:=hj;rw[Array.getElem?_toList]at hu;exact⟨u,hu,.pure (iS u),(aE.pure (w:=w) (S:=ay X ρ bx w) (ρ:=ρ) (iS u)).one h1⟩)
  rw[hlen]at h';refine⟨_,_,?_,ρ',h'⟩;simp only[execOp,Instr.alloc,Sem.run_bind,hz1,Result.andThen_ok,newVar,newRow,newObj,Sem.run_pure,Sem.run,World.alloc]
 ·cases hz
theorem Bq(h:az X ρ σ bx a w){T d s:Nat}(hd:d<X.N)(hlo:X.lo<=s){z:D}(hz:rz (fw (ak P T)) (mX (ak P T) (zeroV P T))=some z):
 ∃v w',(execOp a.eval ⟨some d,.alloc T,ty,pos,af,g⟩).run P w= .ok (.value v) w'/\
  ∃ρ',az X ρ' (ao σ d (.loc s ((bx s).ep+1) 0 0)) (ao bx s ⟨(bx s).ep+1,1,(ak P T).size,T,[z]⟩) (a.put (some d) v) w':=by
 cases hq:fw (ak P T)with
 |some z'=>rw[hq]at hz;injection hz with hz;subst hz;exact y7 h hd hlo hq
 |none=>
  rw[hq]at hz;simp only[rz]at hz;split at hz
  ·rename_i hc;injection hz with hz;subst hz;obtain⟨h0,hu,i,zv,hi,hz1,hz2,hsz⟩:=Di hc;obtain⟨ρ',h'⟩:=An (T:=T) h hd hlo (v:=zv) (x:=.agg []) (by rw[FN hz2];rfl) (fun j c hj=>by simp[D.cells]at hj);rw[h0];refine⟨_,_,?_,ρ',h'⟩;have hz1:(zeroValue T).run P w= .ok zv w:=by simp[zeroValue,typeInfo,hi,hz1,go_sem]
   simp only[execOp,Instr.alloc,Sem.run_bind,hz1,Result.andThen_ok,newVar,newRow,newObj,Sem.run_pure,Sem.run,World.alloc]
  ·cases hz
theorem DN(h:az X ρ σ bx a w){T d s:Nat}(hd:d<X.N)(hlo:X.lo<=s){l c:Operand}{r:Nat×TypeId×List D}(hz:oY (ak P) (ak P T) (ev σ l) (ev σ c)=some r):
 ∃v w',(execOp a.eval ⟨some d,.makeSlice T l c,ty,pos,af,g⟩).run P w= .ok (.value v) w'/\
  ∃ρ',az X ρ' (ao σ d (.osl s ((bx s).ep+1) r.1 0 r.2.2.length)) (ao bx s ⟨(bx s).ep+1,1,r.1,r.2.1,r.2.2⟩) (a.put (some d) v) w':=by
 have hl:=h.ev l;have hc:=h.ev c;generalize ev σ l=dl at hz hl;generalize ev σ c=dc at hz hc;unfold oY at hz;split at hz
 ·rename_i el esz bytes g0 k1 n k2 m hk;split at hz
  ·rename_i hcond;obtain⟨h0,hnm,hby,hez,hb0,hsz⟩:=hcond;rw[Option.map_eq_some_iff]at hz;obtain⟨z,hz,rfl⟩:=hz;obtain⟨hu,he,hbt,_⟩:=bY hk;unfold fw at hz;split at hz
   ·rename_i hcz;obtain⟨hpos,hzl,hag,hone⟩:=hcz;injection hz with hz;obtain⟨i,zv,hi,hz1,hz2⟩:=nS (P:=P) (t:=el) oM;have hcells:z.cells=(ak P el).zero:=by
     subst hz;unfold tL;cases hA:(ak P el).agg with
     |true=>rfl
     |false=>
      rcases hag with hag|hag
      ·rw[hA]at hag;cases hag
      ·rw[hag]at hzl
       match hzz:(ak P el).zero,hzl with
       |[c],_=>
        rw[hzz]at hone;simp only[List.all_cons,List.all_nil,Bool.and_true]at hone;simp[en hone]
    have hbi:i.bytes=bytes:=by rw[hbt,hi];rfl
    have hzs:zv.cells.size=esz:=by
     have:(ak P el).zero.length=zv.cells.size:=by rw[hz2];simp
     omega
    have hmb:m<=m * bytes:=by
     have:m * 1<=m * (bytes:Int):=Int.mul_le_mul_of_nonneg_left oM oM;omega
    have hmz:0<m.toNat * esz\/m.toNat=0:=by
     rcases Nat.eq_zero_or_pos m.toNat with h|h
     ·exact .inr h
     ·exact .inl (Nat.mul_pos h hez)
    generalize harr:((Array.range (m.toNat * esz)).map ((if m.toNat * esz=0 then(#[]:Array Value)else zv.cells)[· % (if m.toNat * esz=0 then(#[]:Array Value)else zv.cells).size]!))=arr;have hsa:arr.size=m.toNat * esz:=by rw[<-harr];simp
    have hget:∀i' j,i'<m.toNat->j<esz->arr[i' * esz+j]? =some (zv.cells.getD j undef):=by
     intro i' j hi' hj;have hlt:i' * esz+j<m.toNat * esz:=by
      have:(i'+1) * esz<=m.toNat * esz:=Nat.mul_le_mul_right _ hi';rw[Nat.add_mul]at this;omega
     rw[<-harr];simp only[Array.getElem?_map,Array.getElem?_range,hlt,if_true,Option.map_some];have hne:¬m.toNat * esz=0:=oM;simp only[hne,if_false,hzs];have:(i' * esz+j) % esz=j:=by rw[Nat.mul_comm,Nat.mul_add_mod,Nat.mod_eq_of_lt hj]
     rw[this,Array.getD_eq_getD_getElem?];have:zv.cells[j]? =some (zv.cells[j]'oM):=Array.getElem?_eq_getElem oM;rw[this,getElem!_pos zv.cells j oM];rfl
    have hb:=(Below.refl w.heap.size w).alloc (Nat.le_refl _) (.cells arr el);have h2:=h.own (w':=w.alloc (.cells arr el)) (t:=s) (p:=⟨w.heap.size,m.toNat,esz,el⟩) (es:=List.replicate n.toNat z) (bx1:=bx) hlo (fun _=> .inl rfl) (Old:=fun _=>False) (.og hb) (fun _ h=>h.elim) (.inl (Nat.le_refl _)) (fun S' ρ' hS hρ=>by
     refine⟨⟨arr,heap_alloc_new w _,hsa,fun _ j=>zv.cells.getD j undef,fun i' y j c hi' hj=>?_⟩,by simp;omega,by simp only[maxLen];omega,fun i' y hi'=>?_⟩
     ·have hi2:=(List.getElem?_eq_some_iff.1 hi').1;simp only[List.length_replicate]at hi2;have hy:y=z:=by
       have:=List.mem_of_getElem? hi';exact List.eq_of_mem_replicate this
      subst hy;rw[hcells]at hj;have hj2:=(List.getElem?_eq_some_iff.1 hj).1;have h1:=List.all_eq_true.1 hone c (List.mem_of_getElem? hj);rw[hz2,List.getElem?_map,Option.map_eq_some_iff]at hj;obtain⟨u,hu,rfl⟩:=hj;rw[Array.getElem?_toList]at hu;have hgd:zv.cells.getD j undef=u:=by rw[Array.getD_eq_getD_getElem?,hu];rfl
      refine⟨hget i' j oM oM,?_,?_⟩
      ·dsimp only;rw[hgd];exact .pure (iS u)
      ·dsimp only;rw[hgd];exact(aE.pure (w:=w) (S:=ay X ρ bx w) (ρ:=ρ) (iS u)).one h1
     ·have hy:y=z:=List.eq_of_mem_replicate (List.mem_of_getElem? hi');subst hy;rw[hcells];show(ak P el).zero.length=esz;omega)
    refine⟨.slice (some ⟨w.heap.size,0,none⟩) n.toNat m.toNat,_,?_,_,h2.put (dst:=some d) (fun t ht=>by injection ht with ht;subst ht;exact hd) ?_⟩
    ·have hby2:(bytes:Int) * m<=140737488355328:=by rw[Int.mul_comm];exact hby
     have hp:(2:Int) ^ 48=281474976710656:=by decide
     have hcond:(decide (m<0)||decide ((bytes:Int) * m>2 ^ 48)||decide (n<0)||decide (n>m))=false:=by
      rw[hp];simp only[Bool.or_eq_false_iff,decide_eq_false_iff_not];omega
     have ha:∀k (n:Int),(asInt (.int k n)).run P w= .ok n w:=fun k n=>by simp[asInt,asIntOf]
     have hw1:IntKind.i64.wrap n=n:=IntWalk.i64_in n ⟨by omega,by omega⟩;have hw2:IntKind.i64.wrap m=m:=IntWalk.i64_in m ⟨by omega,by omega⟩;have hprog:(program).run P w= .ok P w:=by simp[go_sem]
     have hzv:(zeroValue el).run P w= .ok zv w:=by simp[zeroValue,typeInfo,hi,hz1,go_sem]
     simp only[execOp,Instr.makeSlice,hl.cy,hc.cy,Sem.run_bind,run_underlying hu,Sem.run_pure,Result.andThen_ok,ha,typeInfo,hprog,hi,hbi,hw1,hw2,hcond,Bool.false_eq_true,if_false,run_askRoom,bW (P:=P) (t:=el) oM,<-he];by_cases hz0:m.toNat * esz=0
     ·simp only[hz0,if_true]at harr;simp only[hz0,if_true,Sem.run_bind,Sem.run_pure,Result.andThen_ok,newRow,newObj,Sem.run,World.alloc];rw[<-harr]
     ·simp only[hz0,if_false]at harr;simp only[hz0,if_false,Sem.run_bind,Sem.run_pure,Result.andThen_ok,hzv,newRow,newObj,Sem.run,World.alloc];rw[<-harr]
    ·simp only[List.length_replicate];refine .osl (p:=⟨w.heap.size,m.toNat,esz,el⟩) ?_ rfl (fun _=>⟨rfl,rfl⟩) (fun _=>by simp) ?_ ?_
     ·simp
     ·simp;omega
     ·simp only[maxLen];omega
   ·cases hz
  ·cases hz
 ·cases hz
theorem DE(h:az X ρ σ bx a w){T d s n:Nat}(hd:d<X.N)(hlo:X.lo<=s){ps:Array (Nat×Operand)}{r:Nat×TypeId×List D}(hz:oX (ak P) (ak P T) n (ps.toList.map fun p=>(p.1,ev σ p.2))=some r):
 ∃v w',(execOp a.eval ⟨some d,.buildSlice T n ps,ty,pos,af,g⟩).run P w= .ok (.value v) w'/\
  ∃ρ',az X ρ' (ao σ d (.osl s ((bx s).ep+1) r.1 0 r.2.2.length)) (ao bx s ⟨(bx s).ep+1,1,r.1,r.2.1,r.2.2⟩) (a.put (some d) v) w':=by
 unfold oX at hz;split at hz
 ·rename_i e esz b ag hk;split at hz
  ·rename_i hc;obtain⟨hm,ha,hpos,hbig,hzl⟩:=hc;injection hz with hz;subst hz;obtain⟨hu,hse,_,_⟩:=bY hk;generalize hds:(ps.toList.map fun p=>(p.1,ev σ p.2))=dps at hm ha;have hlen:dps.length=n:=by have:=congrArg List.length hm;simpa using this
   obtain⟨vs',hrun,hrep⟩:=CB (ag:=ag) h hu hse hds hm ha hpos hbig hzl;have hel:∀x∈dps.map (·.2),x.cells.length=esz/\x.cells.all D.one=true:=by
    intro x hx;obtain⟨p,hp,rfl⟩:=List.mem_map.1 hx;have:=List.all_eq_true.1 ha p hp;simp only[Bool.and_eq_true,beq_iff_eq]at this;exact this
   have hcell:∀(i:Nat) d (j:Nat) c,(dps.map (·.2))[i]? =some d->d.cells[j]? =some c->∃u,vs'[i * esz+j]? =some u/\aE w (ay X ρ bx w) ρ c u:=by
    intro i d j c hi hj;have hd:=hel d (List.mem_of_getElem? hi);have hj':j<esz:=by have:=(List.getElem?_eq_some_iff.1 hj).1;omega
    have hf:=ud (sz:=esz) (dps.map (·.2)) i j d (fun x hx=>(hel x hx).1) hi hj';rw[hj]at hf;have hlt:=(List.getElem?_eq_some_iff.1 hf).1;have hlt':i * esz+j<vs'.size:=by rw[hrep.1];exact hlt
    have hu':vs'[i * esz+j]? =some vs'[i * esz+j]:=Array.getElem?_eq_getElem hlt';exact⟨_,hu',hrep.2 _ _ _ hf hu'⟩
   have hgd:∀(i:Nat) d (j:Nat) c,(dps.map (·.2))[i]? =some d->d.cells[j]? =some c->vs'[i * esz+j]? =some (vs'.getD (i * esz+j) undef)/\aE w (ay X ρ bx w) ρ c (vs'.getD (i * esz+j) undef):=by
    intro i d j c hi hj;obtain⟨u,hu',hr⟩:=hcell i d j c hi hj;have:vs'.getD (i * esz+j) undef=u:=by rw[Array.getD_eq_getD_getElem?,hu'];rfl
    rw[this];exact⟨hu',hr⟩
   have hsa:vs'.size=n * esz:=by
    rw[hrep.1,zO (dps.map (·.2)) (fun x hx=>(hel x hx).1)];simp[hlen]
   have hb:=(Below.refl w.heap.size w).alloc (Nat.le_refl _) (.cells vs' e);have hmn:n<=n * esz:=Nat.le_mul_of_pos_right n hpos;have h2:=h.own (w':=w.alloc (.cells vs' e)) (t:=s) (p:=⟨w.heap.size,n,esz,e⟩) (es:=dps.map (·.2)) (bx1:=bx) hlo (fun _=> .inl rfl) (Old:=fun _=>False) (.og hb) (fun _ h=>h.elim) (.inl (Nat.le_refl _)) (fun S' ρ' hS hρ=>by
    refine⟨⟨vs',heap_alloc_new w _,hsa,fun i j=>vs'.getD (i * esz+j) undef,fun i' y j c hi' hj=>?_⟩,by simp;omega,by simp only[maxLen];omega,fun i' y hi'=>?_⟩
    ·obtain⟨g1,g2⟩:=hgd i' y j c hi' hj;have h1:=List.all_eq_true.1 (hel y (List.mem_of_getElem? hi')).2 c (List.mem_of_getElem? hj);exact⟨g1,(g2.mono (fun b hb'=>hb.block b hb'.1) (fun b hb'=>hS b hb') hρ),g2.one h1⟩
    ·exact(hel y (List.mem_of_getElem? hi')).1)
   refine⟨.slice (some ⟨w.heap.size,0,none⟩) n n,_,?_,_,h2.put (dst:=some d) (fun t ht=>by injection ht with ht;subst ht;exact hd) ?_⟩
   ·simp only[execOp,Sem.run_bind,hrun,Result.andThen_ok,Sem.run_pure]
   ·simp only[List.length_map,hlen];refine .osl (p:=⟨w.heap.size,n,esz,e⟩) ?_ rfl (fun _=>⟨rfl,rfl⟩) (fun _=>by simp) ?_ ?_
    ·simp
    ·simp
    ·simp only[maxLen];omega
  ·cases hz
 ·cases hz
theorem EH(h:az X ρ σ bx a w){T d s:Nat}(hd:d<X.N)(hlo:X.lo<=s){x:Operand}{z:D}(hz:rJ (ak P T) (ev σ x)=some z):
 ∃v w',(execOp a.eval ⟨some d,.box T x,ty,pos,af,g⟩).run P w= .ok (.value v) w'/\
  ∃ρ',az X ρ' (ao σ d (.loc s ((bx s).ep+1) 0 0)) (ao bx s ⟨(bx s).ep+1,1,(ak P T).size,T,[z]⟩) (a.put (some d) v) w':=by
 have hx:=h.ev x;generalize ev σ x=dx at hz hx;unfold rJ at hz;split at hz
 ·rename_i hc;obtain⟨hpos,hl,hone⟩:=hc;injection hz with hz;subst hz;obtain⟨hs,hcc⟩:=hx.cells hone;obtain⟨ρ',h'⟩:=An (T:=T) h hd hlo (v:=a.eval x) (x:=dx) hs hcc;rw[hl]at h';refine⟨_,_,?_,ρ',h'⟩;simp only[execOp,Instr.box,Sem.run_bind,Result.andThen_ok,newVar,newRow,newObj,Sem.run_pure,Sem.run,World.alloc]
 ·cases hz
theorem Ii{d d':D}{j:Nat}{cs:List D}(h:dz d j cs=some d')(hone:cs.all D.one=true):d'.cells.length=d.cells.length/\j+cs.length<=d.cells.length/\∀(k:Nat) c,d'.cells[k]? =some c->(j<=k/\k<j+cs.length/\cs[k - j]? =some c)\/((k<j\/j+cs.length<=k)/\d.cells[k]? =some c):=by
 unfold dz at h;split at h
 ·rename_i hle;cases d with
  |agg ds=>
   simp only[Option.some.injEq]at h;subst h;simp only[D.cells]at hle⊢;refine⟨by simp;omega,hle,fun k c hk=>?_⟩;by_cases h1:k<j
   ·rw[List.append_assoc,List.getElem?_append_left (by simp;omega),List.getElem?_take_of_lt h1]at hk;exact .inr ⟨.inl h1,hk⟩
   ·have hl:(ds.take j).length=j:=by simp;omega
    by_cases h2:k<j+cs.length
    ·rw[List.append_assoc,List.getElem?_append_right oM,hl,List.getElem?_append_left oM]at hk;exact .inl ⟨by omega,h2,hk⟩
    ·have hl2:(ds.take j++cs).length=j+cs.length:=by simp;omega
     rw[List.getElem?_append_right oM,hl2,List.getElem?_drop]at hk;have:j+cs.length+(k - (j+cs.length))=k:=oM;rw[this]at hk;exact .inr ⟨.inr oM,hk⟩
  |_=>
   all_goals
    match cs,h with
    |[c],h=>
     simp only[Option.some.injEq]at h;subst h;simp only[List.all_cons,List.all_nil,Bool.and_true]at hone;rw[en hone];simp only[D.cells,List.length_cons,List.length_nil]at hle⊢;refine⟨by simp,hle,fun k c' hk=>?_⟩;obtain rfl:j=0:=oM;have hk0:k=0:=by have:=(List.getElem?_eq_some_iff.1 hk).1;simp at this;exact this
     subst hk0;exact .inl ⟨Nat.le_refl _,by omega,hk⟩
 ·cases h
def putRow(cur:Array Value)(o:Nat)(vs:Array Value):Array Value:=
 (cur.toList.take o++vs.toList++cur.toList.drop (o+vs.size)).toArray
theorem BI{cur vs:Array Value}{o:Nat}(h:o+vs.size<=cur.size):(putRow cur o vs).size=cur.size:=by
 unfold putRow;simp only[List.size_toArray,List.length_append,List.length_take,List.length_drop,Array.length_toList];omega
theorem D0{cur vs:Array Value}{o:Nat}(h:o+vs.size<=cur.size)(k:Nat):(putRow cur o vs)[k]? =if o<=k/\k<o+vs.size then vs[k - o]? else cur[k]?:=by
 unfold putRow;rw[List.getElem?_toArray];have hl1:(cur.toList.take o).length=o:=by simp only[List.length_take,Array.length_toList];omega
 by_cases h1:k<o
 ·rw[if_neg oM,List.append_assoc,List.getElem?_append_left oM,List.getElem?_take_of_lt h1,Array.getElem?_toList]
 ·by_cases h2:k<o+vs.size
  ·rw[if_pos oM,List.append_assoc,List.getElem?_append_right oM,hl1,List.getElem?_append_left (by simp only[Array.length_toList];omega),Array.getElem?_toList]
  ·have hl2:(cur.toList.take o++vs.toList).length=o+vs.size:=by simp only[List.length_append,hl1,Array.length_toList]
   rw[if_neg oM,List.getElem?_append_right oM,hl2,List.getElem?_drop,Array.getElem?_toList]
   congr 1
   omega
theorem xI{S:Nat->Prop}{p:Place}{es:List D}{i j:Nat}{d0 d' dy:D}{v:Value}
 (hh:Holds w S ρ p es) (hS:∀b,S b->b≠p.b) (hi:es[i]? =some d0) (hset:dz d0 j dy.cells=some d') (hone:dy.cells.all D.one=true) (hy:aE w S ρ dy v):
 ∃cur,w.heap[p.b]? =some (.cells cur p.ty)/\i * p.sz+j+v.cells.size<=cur.size/\(∀u∈v.cells.toList,u.oneCell'=true)/\
  Holds (w.setRow p.b (putRow cur (i * p.sz+j) v.cells)) S ρ p (es.set i d'):=by
 obtain⟨⟨cur,hcur,hcs,us,hus⟩,hlc,hmx,hsz⟩:=hh;obtain⟨hs,hcc⟩:=hy.cells hone;obtain⟨hlen,hfit,hget⟩:=Ii hset hone;have hd0:=hsz i d0 hi;have hilt:=(List.getElem?_eq_some_iff.1 hi).1;have hmul:i * p.sz+p.sz<=cur.size:=by rw[hcs,<-Nat.succ_mul];exact Nat.mul_le_mul_right _ oM
 have hroom:i * p.sz+j+v.cells.size<=cur.size:=oM;refine⟨cur,hcur,hroom,fun u hu=>?_,?_⟩
 ·obtain⟨k,hk1,hk2⟩:=List.mem_iff_getElem.1 hu;have hkl:k<dy.cells.length:=by rw[<-hs];simpa using hk1
  obtain⟨u',hu',_,h1⟩:=hcc k _ (List.getElem?_eq_getElem hkl);have:u=u':=by
   have h3:v.cells.toList[k]? =some u:=by rw[List.getElem?_eq_getElem hk1,hk2]
   rw[Array.getElem?_toList,hu']at h3;injection h3 with h3;exact h3.symm
  rw[this];exact h1
 ·have hnewsz:=BI hroom;have hnewget:=D0 hroom;generalize putRow cur (i * p.sz+j) v.cells=new at hnewsz hnewget⊢;have hmono:∀c u,aE w S ρ c u->aE (w.setRow p.b new) S ρ c u:=fun c u hr=>hr.mono (fun b hb'=>setRow_other w p.b b new (hS b hb')) (fun _ h=>h) (fun _ _ _ h=>h);have fin:∀c q u,new[q]? =some u->aE w S ρ c u->u.oneCell'=true->new[q]? =some (new.getD q undef)/\aE (w.setRow p.b new) S ρ c (new.getD q undef)/\(new.getD q undef).oneCell'=true:=by
   intro c q u hu hr h1;have:new.getD q undef=u:=by rw[Array.getD_eq_getD_getElem?,hu];rfl
   rw[this];exact⟨hu,hmono _ _ hr,h1⟩
  refine⟨⟨new,setRow_heap w p.b cur new p.ty (0,0) hcur,by rw[hnewsz,hcs],fun i' k=>new.getD (i' * p.sz+k) undef,fun i' d k c hi' hk'=>?_⟩,by simpa using hlc,hmx,fun i' d hi'=>?_⟩
  ·by_cases hii:i'=i
   ·subst hii;rw[List.getElem?_set_self oM]at hi';injection hi' with hi';subst hi';rcases hget k c hk' with⟨k1,k2,k3⟩|⟨k1,k3⟩
    ·obtain⟨u,hu,hr,h1⟩:=hcc _ _ k3;refine fin _ _ u ?_ hr h1;rw[hnewget,if_pos oM];have:i' * p.sz+k - (i' * p.sz+j)=k - j:=oM;rw[this];exact hu
    ·obtain⟨u1,u2,u3⟩:=hus i' d0 k c hi k3;refine fin _ _ _ ?_ u2 u3;rw[hnewget,if_neg oM];exact u1
   ·rw[List.getElem?_set_ne (Ne.symm hii)]at hi';have hkz:k<p.sz:=by have:=(List.getElem?_eq_some_iff.1 hk').1;rw[hsz i' d hi']at this;exact this
    obtain⟨u1,u2,u3⟩:=hus i' d k c hi' hk';refine fin _ _ _ ?_ u2 u3;rw[hnewget,if_neg ?_]
    ·exact u1
    ·rcases Nat.lt_or_gt_of_ne hii with hlt|hgt
     ·have:=Nat.mul_le_mul_right p.sz (show i'+1<=i from hlt);rw[Nat.succ_mul]at this;omega
     ·have:=Nat.mul_le_mul_right p.sz (show i+1<=i' from hgt);rw[Nat.succ_mul]at this;omega
  ·by_cases hii:i'=i
   ·subst hii;rw[List.getElem?_set_self oM]at hi';injection hi' with hi';subst hi';rw[hlen,hd0]
   ·rw[List.getElem?_set_ne (Ne.symm hii)]at hi';exact hsz i' d hi'
theorem Bc(h:az X ρ σ bx a w){T:Nat}{x y:Operand}{dst:Option Tmp}(hdst:∀t,dst=some t->t<X.N){lo:Nat}(hlo:X.lo<=lo){bx':ae}(hv:ez lo (ak P T) bx (ev σ x) (ev σ y)=some bx'):
 ∃w',(execOp a.eval ⟨dst,.store T x y,ty,pos,af,g⟩).run P w= .ok .skip w'/\∃ρ',az X ρ' (put σ dst (.raw undef)) bx' (a.put dst undef) w':=by
 have hx:=h.ev x;have hy:=h.ev y;generalize ev σ x=dx at hv hx;generalize ev σ y=dy at hv hy;unfold ez at hv;split at hv
 ·rename_i t e i j;split at hv
  ·rename_i hc;obtain⟨hlt,hl,hpos,hone⟩:=hc;unfold qi at hv;split at hv
   ·rename_i hk;obtain⟨he,hk⟩:=hk;cases hi:(bx t).es[i]? with
    |none=>simp[hi]at hv
    |some d0=>
     simp only[hi,Option.map_eq_some_iff]at hv;obtain⟨d',hset,rfl⟩:=hv;obtain⟨p,hp,hax⟩:=hx.iq;obtain⟨p',hp',hpz,hpt,hpb,hh⟩:=h.box t (by rw[hk];decide);rw[he,hp]at hp';injection hp' with hp';subst hp';have hrp:ρ t (bx t).ep=some p:=by rw[he];exact hp
     obtain⟨cur,hcur,hroom,hall,hh'⟩:=xI hh (fun b hb e=>hb.2.2 t hk p hrp e.symm) hi hset hone hy;obtain⟨hs,_⟩:=hy.cells hone;have hst:=run_storeCells_at P p.b (i * p.sz+j) p.ty (a.eval y).cells.toList 0 cur w hcur (by simpa using hroom) hall;simp only[Nat.add_zero,Array.length_toList]at hst;have hfr:Fr (fun b=>b=p.b) w (w.setRow p.b (putRow cur (i * p.sz+j) (a.eval y).cells)):=⟨rfl,rfl,rfl,by simp[World.setRow],fun k _ hk=>setRow_other w p.b k _ hk⟩
     refine⟨w.setRow p.b (putRow cur (i * p.sz+j) (a.eval y).cells),?_,ρ,((h.stored (Nat.le_trans hlo hlt) hk hrp hfr hh').put hdst (.pure (.raw _)))⟩;have hsize:=bW (P:=P) (t:=T) hpos w;have hszT:(ak P T).size=bI P T:=rfl;have hne:¬((a.eval y).cells.size≠bI P T):=by rw[hs,hl,hszT];simp
     simp only[execOp,Instr.storeAt,Instr.sureAddr,hax,Sem.run_bind,Sem.run_pure,Result.andThen_ok,storeVar,hsize,hne,if_false];rw[hst];simp only[Result.andThen_ok,putRow]
   ·cases hv
  ·cases hv
 ·cases hv
theorem BS(h:az X ρ σ bx a w){T:Nat}{x y:Operand}{dst:Option Tmp}(hdst:∀t,dst=some t->t<X.N){lo:Nat}(hlo:X.lo<=lo){bx':ae}(hv:pR (ez lo (ak P T) bx (ev σ x) (ev σ y)) (mX (ak P T) (zeroV P T)) bx (ev σ x) (ev σ y)=some bx'):
 ∃w',(execOp a.eval ⟨dst,.store T x y,ty,pos,af,g⟩).run P w= .ok .skip w'/\∃ρ',az X ρ' (put σ dst (.raw undef)) bx' (a.put dst undef) w':=by
 cases hq:ez lo (ak P T) bx (ev σ x) (ev σ y)with
 |some z'=>rw[hq]at hv;injection hv with hv;subst hv;exact Bc h hdst hlo hq
 |none=>
  rw[hq]at hv;have hx:=h.ev x;have hy:=h.ev y;generalize ev σ x=dx at hv hx;generalize ev σ y=dy at hv hy;simp only[pR]at hv;split at hv
  ·split at hv
   ·rename_i hc;injection hv with hv;subst hv;obtain⟨h0,hu,i,zv,hi,hz1,hz2,hsz⟩:=Di hc.1;obtain⟨p,hp,hax⟩:=hx.iq;obtain⟨hs,_⟩:=hy.cells (by rw[hc.2];rfl);have he:(a.eval y).cells= #[]:=Array.eq_empty_of_size_eq_zero (by rw[hs,hc.2];rfl);refine⟨w,?_,ρ,h.put hdst (.pure (.raw _))⟩;have hso:(sizeOf T).run P w= .ok 0 w:=by simp[sizeOf,typeInfo,hi,hsz,go_sem]
    have hne:¬((a.eval y).cells.size≠0):=by rw[he];simp
    simp only[execOp,Instr.storeAt,Instr.sureAddr,hax,Sem.run_bind,Sem.run_pure,Result.andThen_ok,storeVar,hso,hne,if_false];rw[he];simp[storeCells,go_sem]
   ·cases hv
  ·cases hv
end Go.V
namespace Go.V
open Go.RowKit
variable {P:Program} {X:Ctx} {ρ:bN} {σ:Env} {bx:ae} {a:Act} {w:World}
variable {ty:TypeId} {pos:String} {af:Array Edge} {g:Option (Nat×Bool)}
theorem aE.kL{S:Nat->Prop}{t e sz o n:Nat}{v:Value}(h:aE w S ρ (.osl t e sz o n) v):∃p off cap,ρ t e=some p/\p.sz=sz/\(o=0->off=0/\cap=p.cap)/\(0<n->off=o * sz)/\n<=cap/\o+cap<=p.cap/\p.cap<=maxLen/\
 v= .slice (some ⟨p.b,off,none⟩) n cap:=by
 cases h with
 |pure h=>cases h
 |osl hp hsz h0 hoff hn hcap=>exact⟨_,_,_,hp,hsz,h0,fun h=>hoff oM,hn,hcap.1,hcap.2,rfl⟩
theorem aE.wO{S:Nat->Prop}{t e i j n:Nat}{v:Value}(h:aE w S ρ (.csl t e i j n) v):∃p off cap,ρ t e=some p/\(0<n->off=i * p.sz+j)/\n<=cap/\cap<=65536/\v= .slice (some ⟨p.b,off,none⟩) n cap:=by
 cases h with
 |pure h=>cases h
 |csl hp hoff hn hcap=>exact⟨_,_,_,hp,fun h=>hoff oM,hn,hcap,rfl⟩
theorem jY(h:az X ρ σ bx a w){esz:Nat}{x:D}{v:Value}(hx:aE w (ay X ρ bx w) ρ x v){ys:List D}(he:ff bx esz x=some ys):
 ∃A c b off,∃us:Nat->Nat->Value,v= .slice A ys.length c/\(ys≠[]->A=some ⟨b,off,none⟩)/\(∀(i:Nat) d,ys[i]? =some d->d.cells.length=esz)/\
  ∀(i:Nat) d (j:Nat) c,ys[i]? =some d->d.cells[j]? =some c->w.cell? ⟨b,off+i * esz+j,none⟩=some (us i j)/\aE w (ay X ρ bx w) ρ c (us i j)/\(us i j).oneCell'=true:=by
 unfold ff at he;split at he
 ·injection he with he;subst he;exact⟨none,0,0,0,fun _ _=>undef,hx.ei,by simp,by simp,by simp⟩
 ·rename_i sz es;split at he
  ·rename_i hs;injection he with he;subst he;subst hs;cases hx with
   |pure hx=>
    cases hx with
    |@sl _ _ A n cap b off us hn hcap hmax hA hsz hc h1 hr=>
     subst hn;exact⟨A,cap,b,off,us,rfl,fun hne=>(hA hne).1,hsz,fun i d j c hi hj=>⟨hc i d j c hi hj,.pure (hr i d j c hi hj),h1 i d j c hi hj⟩⟩
  ·cases he
 ·rename_i t e sz o n;split at he
  ·rename_i hs;obtain⟨hs,hep,hk,hbs,hle⟩:=hs;injection he with he;subst hs;obtain⟨p,off,cap,hp,hpz,h0,hoff,hn,hoc,hmax,rfl⟩:=hx.kL;obtain⟨p',hp',hpz',hpt,hpb,hh⟩:=h.box t hk;rw[hep,hp]at hp';injection hp' with hp';subst hp';have hl:ys.length=n:=by rw[<-he];simp;omega
   have hget:∀(i:Nat) d,ys[i]? =some d->(bx t).es[o+i]? =some d/\0<n:=by
    intro i d hi;have hi':=(List.getElem?_eq_some_iff.1 hi).1;rw[<-he,List.getElem?_take_of_lt oM,List.getElem?_drop]at hi;exact⟨hi,by omega⟩
   obtain⟨⟨cur,hcur,hcs,us,hus⟩,hlc,hmx,hsz⟩:=hh;refine⟨_,_,p.b,off,fun i j=>us (o+i) j,by rw[hl],fun _=>rfl,fun i d hi=>(hsz _ d (hget i d hi).1).trans hpz,fun i d j c hi hj=>?_⟩;obtain⟨h1,h2⟩:=hget i d hi;obtain⟨u1,u2,u3⟩:=hus (o+i) d j c h1 hj;refine⟨?_,u2,u3⟩;have:off+i * sz+j=(o+i) * p.sz+j:=by rw[hoff h2,Nat.add_mul,hpz]
   rw[this];simp[World.cell?,hcur,u1]
  ·cases he
 ·rename_i sz es;split at he
  ·rename_i hs;injection he with he;subst he;subst hs;have hx:=(hx.dK rfl).mG;cases hx with
   |@sl _ _ A n cap b off us hn hcap hmax hA hsz hc h1 hr=>
    subst hn;exact⟨A,cap,b,off,us,rfl,fun hne=>(hA hne).1,hsz,fun i d j c hi hj=>⟨hc i d j c hi hj,.pure (hr i d j c hi hj),h1 i d j c hi hj⟩⟩
  ·cases he
 ·rename_i t e i j n;split at he
  ·rename_i hs;obtain⟨hs,hep,hk⟩:=hs;subst hs;split at he
   ·rename_i d0 hd0;split at he
    ·rename_i hc2;obtain⟨hle,ho1⟩:=hc2;injection he with he;obtain⟨p,off,cap,hp,hoff,hn,hcap,rfl⟩:=hx.wO;obtain⟨p',hp',hpz',hpt,hpb,hh⟩:=h.box t hk;rw[hep,hp]at hp';injection hp' with hp';subst hp';have hl:ys.length=n:=by rw[<-he];simp;omega
     have hget:∀(m:Nat) d,ys[m]? =some d->d0.cells[j+m]? =some d/\0<n/\d.cells=[d]:=by
      intro m d hm;have hm':=(List.getElem?_eq_some_iff.1 hm).1;have hone:d.one=true:=List.all_eq_true.1 ho1 d (by rw[he];exact List.mem_of_getElem? hm);rw[<-he,List.getElem?_take_of_lt oM,List.getElem?_drop]at hm;exact⟨hm,by omega,en hone⟩
     obtain⟨⟨cur,hcur,hcs,us,hus⟩,hlc,hmx,hsz⟩:=hh;refine⟨_,_,p.b,off,fun m _=>us i (j+m),by rw[hl],fun _=>rfl,fun m d hm=>by rw[(hget m d hm).2.2];rfl,fun m d k c hm hk'=>?_⟩;obtain⟨g1,g2,g3⟩:=hget m d hm;rw[g3]at hk';obtain rfl:k=0:=by
      rcases k with _|k
      ·rfl
      ·simp at hk'
     simp only[List.getElem?_cons_zero,Option.some.injEq]at hk';subst hk';obtain⟨u1,u2,u3⟩:=hus i d0 (j+m) d hd0 g1;refine⟨?_,u2,u3⟩;rw[hoff g2,show i * p.sz+j+m * 1+0=i * p.sz+(j+m) by omega];simp[World.cell?,hcur,u1]
    ·cases he
   ·cases he
  ·cases he
 ·cases he
def rowOf(us:Nat->Nat->Value)(m sz:Nat):List Value:=(List.range (m * sz)).map fun k=>us (k / sz) (k % sz)
theorem fi(us:Nat->Nat->Value)(m sz:Nat):(rowOf us m sz).length=m * sz:=by simp[rowOf]
theorem mJ{us:Nat->Nat->Value}{m sz i j:Nat}(hi:i<m)(hj:j<sz):(rowOf us m sz)[i * sz+j]? =some (us i j):=by
 have hlt:i * sz+j<m * sz:=by
  have:=Nat.mul_le_mul_right sz (show i+1<=m from hi);rw[Nat.succ_mul]at this;omega
 unfold rowOf;rw[List.getElem?_map,List.getElem?_range hlt,Option.map_some]
 congr 2
 ·rw[Nat.add_comm,Nat.add_mul_div_right _ _ oM,Nat.div_eq_of_lt hj,Nat.zero_add]
 ·rw[Nat.add_comm,Nat.add_mul_mod_self_right,Nat.mod_eq_of_lt hj]
theorem gQ{us:Nat->Nat->Value}{m sz k:Nat}{u:Value}(h:(rowOf us m sz)[k]? =some u):∃i j,i<m/\j<sz/\k=i * sz+j/\u=us i j:=by
 have hk:k<m * sz:=by have:=(List.getElem?_eq_some_iff.1 h).1;rw[fi]at this;exact this
 have hz:0<sz:=by
  rcases Nat.eq_zero_or_pos sz with h0|h0
  ·subst h0;simp at hk
  ·exact h0
 have hdm:k / sz * sz+k % sz=k:=Nat.div_add_mod' k sz;have hi:k / sz<m:=Nat.div_lt_of_lt_mul (by rw[Nat.mul_comm];exact hk);have hj:=Nat.mod_lt k hz;refine⟨k / sz,k % sz,hi,hj,hdm.symm,?_⟩;have:=mJ (us:=us) hi hj;rw[hdm,h]at this;injection this
theorem tA(h:az X ρ σ bx a w){T d sl el esz bytes n:Nat}{ag:Bool}(hd:d<X.N)(hlo:X.lo<=sl)(hk:(ak P T).k= .slice el esz bytes ag)(hez:esz≠0)(hz:(ak P el).zero.length=esz)
 {vx vy:Value} {xs:List Value} {xs0 ys:List D} {us0:Nat->Nat->Value} (hown:w.ownsRow 0 el esz vx n xs) (hxl:xs0.length=n)
 (hxz:∀(i:Nat) d,xs0[i]? =some d->d.cells.length=esz)
 (hxs:∀(i:Nat) d (j:Nat) c,xs0[i]? =some d->d.cells[j]? =some c->xs[i * esz+j]? =some (us0 i j)/\aE w (ay X ρ bx w) ρ c (us0 i j)/\(us0 i j).oneCell'=true)
 {c b off:Nat} {us:Nat->Nat->Value} (hne:ys≠[]) (hvy:vy= .slice (some ⟨b,off,none⟩) ys.length c) (hyz:∀(i:Nat) d,ys[i]? =some d->d.cells.length=esz)
 (hys:∀(i:Nat) d (j:Nat) c,ys[i]? =some d->d.cells[j]? =some c->w.cell? ⟨b,off+i * esz+j,none⟩=some (us i j)/\aE w (ay X ρ bx w) ρ c (us i j)/\(us i j).oneCell'=true)
 (hby:(n+ys.length) * bytes<=140737488355328) (hb0:0<bytes) {bx1:ae} (h1:∀s,bx1 s=bx s\/((bx1 s).k=0/\(bx1 s).ep=(bx s).ep/\X.lo<=s))
 (hO:∀b,some b=vx.ownBlock->∃t0 p0,(bx t0).k=1/\ρ t0 (bx t0).ep=some p0/\p0.b=b/\(t0=sl\/(bx1 t0).k=0)):
 ∃v w',(Builtin.append_ #[T,T] ty #[vx,vy]).run P w= .ok v w'/\
  ∃ρ',az X ρ' (ao σ d (.osl sl ((bx sl).ep+1) esz 0 (n+ys.length))) (ao bx1 sl ⟨(bx sl).ep+1,1,esz,el,xs0++ys⟩) (a.put (some d) v) w':=by
 obtain⟨hu,he,hbt,_⟩:=bY hk;obtain⟨i,z,hi,hzz,hzc⟩:=nS (P:=P) (t:=el) oM;have hsz:i.size=esz:=by
  obtain⟨i',_,hi',_,hs'⟩:=iu (P:=P) (t:=el) oM;rw[hi]at hi';injection hi' with hi';rw[hi',hs',he]
 have hbi:i.bytes=bytes:=by rw[hbt,hi];rfl
 have hzs:z.cells.size=esz:=by rw[<-hz,hzc];simp
 have hmm:(n+ys.length)<=maxLen:=by
  have:=Nat.le_mul_of_pos_right (n+ys.length) hb0;simp only[maxLen];omega
 have hm0:0<ys.length:=List.length_pos_iff.2 hne;have hcell:∀i j,i<ys.length->j<esz->w.cell? ⟨b,off+i * esz+j,none⟩=some (us i j)/\(us i j).oneCell'=true:=by
  intro i j hi hj;have hd:=List.getElem?_eq_getElem hi;have hc:=List.getElem?_eq_getElem (show j<ys[i].cells.length by rw[hyz i _ hd];exact hj);exact⟨(hys i _ j _ hd hc).1,(hys i _ j _ hd hc).2.2⟩
 obtain⟨v',w',hr,hrow,hgr,hnil,hblk⟩:=run_append_own_at (P:=P) w 0 T ty el i z esz bytes hu hi hzz hsz hbi hzs oM vx n xs hown ⟨b,off,none⟩ ys.length c (rowOf us ys.length esz) (fi _ _ _)
  (fun j u hj=>by
   obtain⟨k,l,hk,hl,rfl,rfl⟩:=gQ hj;rw[Addr.cz];have:=(hcell k l hk hl).1;rw[<-Nat.add_assoc];exact this)
  (fun u hu=>by
   obtain⟨j,hj⟩:=List.mem_iff_getElem?.1 hu;obtain⟨k,l,hk,hl,rfl,rfl⟩:=gQ hj;exact(hcell k l hk hl).2) hmm hby (Nat.zero_le _)
 subst hvy;obtain⟨hlen,hrow⟩:=hrow;rcases hrow with⟨_,hrow⟩|⟨gg,cap,cur,rfl,_,hgg,hnc,hcm,hcs,htake⟩
 ·omega
 have hold:w.heap.size<=gg\/some gg=vx.ownBlock:=by
  rcases hblk with hb|hb
  ·exact .inr hb
  ·simp only[Value.ownBlock,Option.some.injEq]at hb;exact .inl oM
 have hw:∀b,ay X ρ bx w b->w'.heap[b]? =w.heap[b]?:=fun b hb=>hgr.block b hb.1 (fun e=>by
  obtain⟨t0,p0,hk0,hr0,hp0,_⟩:=hO b e;exact hb.2.2 t0 hk0 p0 hr0 hp0)
 have hat:∀(k:Nat) (u:Value),(xs++rowOf us ys.length esz)[k]? =some u->cur[k]? =some u:=by
  intro k u hk;rw[<-htake]at hk;have hlt:=(List.getElem?_eq_some_iff.1 hk).1;rw[List.length_take]at hlt;rw[List.getElem?_take_of_lt oM,Array.getElem?_toList]at hk;exact hk
 have h2:=h.own (w':=w') (t:=sl) (p:=⟨gg,cap,esz,el⟩) (es:=xs0++ys) (bx1:=bx1) hlo h1 (Old:=fun b=>some b=vx.ownBlock) (.Aw hgr) hO hold (fun S' ρ' hS hρ=>by
  have hmono:∀c u,aE w (ay X ρ bx w) ρ c u->aE w' S' ρ' c u:=fun c u hr=>hr.mono hw hS hρ;refine⟨⟨cur,hgg,hcs,fun i j=>if i<n then us0 i j else us (i - n) j,fun i y j c hi hj=>?_⟩,by simp[hxl,hnc],hcm,fun i y hi=>?_⟩
  ·dsimp only;by_cases hin:i<n
   ·rw[List.getElem?_append_left oM]at hi;obtain⟨u1,u2,u3⟩:=hxs i y j c hi hj;simp only[hin,if_true];refine⟨hat _ _ ?_,hmono _ _ u2,u3⟩;rw[List.getElem?_append_left ((List.getElem?_eq_some_iff.1 u1).1)];exact u1
   ·rw[List.getElem?_append_right oM,hxl]at hi;obtain⟨u1,u2,u3⟩:=hys (i - n) y j c hi hj;simp only[hin,if_false];refine⟨hat _ _ ?_,hmono _ _ u2,u3⟩;have hjz:j<esz:=by have:=(List.getElem?_eq_some_iff.1 hj).1;rw[hyz _ y hi]at this;exact this
    have hil:=(List.getElem?_eq_some_iff.1 hi).1;have hxl':xs.length=n * esz:=hown.1;have e1:i * esz+j=n * esz+((i - n) * esz+j):=by
     have:i=n+(i - n):=oM
     conv=>lhs;rw[this,Nat.add_mul]
     omega
    rw[List.getElem?_append_right (by rw[hxl',e1];omega),hxl',e1,Nat.add_sub_cancel_left];exact mJ hil hjz
  ·by_cases hin:i<n
   ·rw[List.getElem?_append_left oM]at hi;exact hxz i y hi
   ·rw[List.getElem?_append_right oM]at hi;exact hyz _ y hi)
 refine⟨_,_,hr,_,h2.put (dst:=some d) (fun t ht=>by injection ht with ht;subst ht;exact hd) (.osl (p:=⟨gg,cap,esz,el⟩) ?_ rfl (fun _=>⟨rfl,rfl⟩) (fun _=>by simp) hnc ⟨by simp,hcm⟩)⟩;simp
end Go.V
namespace Go.V
open Go.RowKit
variable {P:Program} {X:Ctx} {ρ:bN} {σ:Env} {bx:ae} {a:Act} {w:World}
variable {ty:TypeId} {pos:String} {af:Array Edge} {g:Option (Nat×Bool)}
theorem rG(t tx ty e:TypeId)(i:TypeInfo)(ht:P.underlying t=some (.slice e))(hi:P.info? e=some i)
 (gg off sLen sCap:Nat) (cur:Array Value) (hg:w.heap[gg]? =some (.cells cur e (0,0)))
 (x:Value) (m:Nat) (news:List Value) (hs:Src P i.size tx x m news w)
 (hroom:sLen+m<=sCap) (hfit:off+sLen * i.size+news.length<=cur.size):
 (Builtin.append_ #[t,tx] ty #[.slice (some ⟨gg,off,none⟩) sLen sCap,x]).run P w=
  .ok (.slice (some ⟨gg,off,none⟩) (sLen+m) sCap) (w.setRow gg (cur.toList.take (off+sLen * i.size)++news++cur.toList.drop (off+sLen * i.size+news.length)).toArray):=by
 have hst:=run_storeCells_at P gg (off+sLen * i.size) e news 0 cur w hg (by simpa using hfit) hs.one;simp only[Nat.add_zero]at hst;rcases hs.kind with⟨e',hk⟩|hk<;>simp[Builtin.append_,run_underlying ht,run_underlying hk,sizeOf,typeInfo,hi,hs.len,hroom,hs.cells,Addr.add_lit,hst]
theorem aE.HD{S:Nat->Prop}{t e sz o n:Nat}{v:Value}(h:aE w S ρ (.osl t e sz o n) v):∃p off cap,ρ t e=some p/\p.sz=sz/\(o=0->off=0/\cap=p.cap)/\(0<cap->off=o * sz)/\n<=cap/\o+cap<=p.cap/\p.cap<=maxLen/\
 v= .slice (some ⟨p.b,off,none⟩) n cap:=by
 cases h with
 |pure h=>cases h
 |osl hp hsz h0 hoff hn hcap=>exact⟨_,_,_,hp,hsz,h0,hoff,hn,hcap.1,hcap.2,rfl⟩
theorem oW(h:az X ρ σ bx a w){T T' d sl el esz bytes n cap:Nat}{ag:Bool}(hd:d<X.N)(hlo:X.lo<=sl)(hk:(ak P T).k= .slice el esz bytes ag)(hez:esz≠0)(hz:(ak P el).zero.length=esz)
 {base:Option Addr} {vy:Value} {xs0 ys:List D} {us us2:Nat->Nat->Value} (hxl:xs0.length=n) (hcap:cap<n+ys.length) (hxz:∀(i:Nat) d,xs0[i]? =some d->d.cells.length=esz)
 (hxs:∀(i:Nat) d (j:Nat) c,xs0[i]? =some d->d.cells[j]? =some c->aE w (ay X ρ bx w) ρ c (us i j)/\(us i j).oneCell'=true)
 (hold:(Builtin.firstCells esz n (.slice base n cap)).run P w.drew= .ok (rowOf us n esz).toArray w.drew) (hne:ys≠[]) (hsrc:Src P esz T' vy ys.length (rowOf us2 ys.length esz) w) (hyz:∀(i:Nat) d,ys[i]? =some d->d.cells.length=esz)
 (hys:∀(i:Nat) d (j:Nat) c,ys[i]? =some d->d.cells[j]? =some c->aE w (ay X ρ bx w) ρ c (us2 i j)/\(us2 i j).oneCell'=true)
 (hby:(n+ys.length) * bytes<=140737488355328) (hb0:0<bytes) {bx1:ae} (hb1:∀s,bx1 s=bx s\/((bx1 s).k=0/\(bx1 s).ep=(bx s).ep/\X.lo<=s)):
 ∃v w',(Builtin.append_ #[T,T'] ty #[.slice base n cap,vy]).run P w= .ok v w'/\
  ∃ρ',az X ρ' (ao σ d (.osl sl ((bx sl).ep+1) esz 0 (n+ys.length))) (ao bx1 sl ⟨(bx sl).ep+1,1,esz,el,xs0++ys⟩) (a.put (some d) v) w':=by
 obtain⟨hu,he,hbt,_⟩:=bY hk;obtain⟨i,z,hi,hzz,hzc⟩:=nS (P:=P) (t:=el) oM;have hsz:i.size=esz:=by
  obtain⟨i',_,hi',_,hs'⟩:=iu (P:=P) (t:=el) oM;rw[hi]at hi';injection hi' with hi';rw[hi',hs',he]
 have hbi:i.bytes=bytes:=by rw[hbt,hi];rfl
 have hzs:z.cells.size=esz:=by rw[<-hz,hzc];simp
 have hmm:(n+ys.length)<=maxLen:=by
  have:=Nat.le_mul_of_pos_right (n+ys.length) hb0;simp only[maxLen];omega
 have hm0:0<ys.length:=List.length_pos_iff.2 hne;have hr:=run_append_grow_src (P:=P) w T T' ty el i z hu hi hzz base n cap (rowOf us n esz) (by rw[hsz];exact hold) vy ys.length (rowOf us2 ys.length esz) (by rw[hsz];exact hsrc) hcap (by simp only[maxLen]at hmm;omega) (growslice_fits oM (by rw[hbi];exact hby));have hge:=grownCap_ge w (n+ys.length) cap el;have hcm:grownCap w (n+ys.length) cap el<=maxLen:=grownCap_le_maxLen w (n+ys.length) cap el hmm;have hsize:((rowOf us n esz++rowOf us2 ys.length esz).toArray++Builtin.zeroCells z.cells (grownCap w (n+ys.length) cap el - (n+ys.length))).size=grownCap w (n+ys.length) cap el * esz:=by
  simp only[Array.size_append,List.size_toArray,List.length_append,size_zeroCells,hzs,fi,<-Nat.add_mul]
  congr 1
  omega
 have hat:∀(k:Nat) u,(rowOf us n esz++rowOf us2 ys.length esz)[k]? =some u->((rowOf us n esz++rowOf us2 ys.length esz).toArray++Builtin.zeroCells z.cells (grownCap w (n+ys.length) cap el - (n+ys.length)))[k]? =some u:=fun k u hk=>by
  have hkl:=(List.getElem?_eq_some_iff.1 hk).1;rw[Array.getElem?_append_left (by simpa using hkl),List.getElem?_toArray];exact hk
 generalize(rowOf us n esz++rowOf us2 ys.length esz).toArray++Builtin.zeroCells z.cells (grownCap w (n+ys.length) cap el - (n+ys.length))=cur' at hr hsize hat;generalize grownCap w (n+ys.length) cap el=cap' at hr hge hcm hsize;have hfr:Fr (fun _=>False) w (w.drew.alloc (.cells cur' el)):=⟨rfl,rfl,rfl,by simp,fun k hk _=>heap_alloc_old w.drew _ (show k<w.drew.heap.size from hk)⟩
 have hw:∀b',ay X ρ bx w b'->(w.drew.alloc (.cells cur' el)).heap[b']? =w.heap[b']?:=fun b' hb=>hfr.block b' hb.1 fun ee=>ee;have hnew:(w.drew.alloc (.cells cur' el)).heap[w.heap.size]? =some (.cells cur' el (0,0)):=heap_alloc_new w.drew _;refine⟨_,_,hr,_,(az.own (t:=sl) (p:=⟨w.heap.size,cap',esz,el⟩) (es:=xs0++ys) (bx1:=bx1) h hlo hb1 (Old:=fun _=>False) hfr (fun _ hh=>hh.elim) (.inl (Nat.le_refl _)) fun S' ρ' hS hρ=>?_).put (dst:=some d) (fun t ht=>by injection ht with ht;subst ht;exact hd) ?_⟩
 ·have hmono:∀c u,aE w (ay X ρ bx w) ρ c u->aE (w.drew.alloc (.cells cur' el)) S' ρ' c u:=fun c u hr=>hr.mono hw hS hρ;refine⟨⟨cur',hnew,hsize,fun i j=>if i<n then us i j else us2 (i - n) j,fun i y j c hi hj=>?_⟩,by simp;omega,hcm,fun i y hi=>?_⟩
  ·dsimp only;by_cases hin:i<n
   ·rw[List.getElem?_append_left oM]at hi;obtain⟨u2,u3⟩:=hxs i y j c hi hj;have hjz:j<esz:=by have:=(List.getElem?_eq_some_iff.1 hj).1;rw[hxz _ y hi]at this;exact this
    simp only[hin,if_true];refine⟨hat _ _ ?_,hmono _ _ u2,u3⟩;have hrr:=mJ (us:=us) hin hjz;rw[List.getElem?_append_left (List.getElem?_eq_some_iff.1 hrr).1];exact hrr
   ·rw[List.getElem?_append_right oM,hxl]at hi;obtain⟨u2,u3⟩:=hys (i - n) y j c hi hj;have hjz:j<esz:=by have:=(List.getElem?_eq_some_iff.1 hj).1;rw[hyz _ y hi]at this;exact this
    have hil:=(List.getElem?_eq_some_iff.1 hi).1;simp only[hin,if_false];refine⟨hat _ _ ?_,hmono _ _ u2,u3⟩;have e1:i * esz+j=n * esz+((i - n) * esz+j):=by
     have:i=n+(i - n):=oM
     conv=>lhs;rw[this,Nat.add_mul]
     omega
    rw[List.getElem?_append_right (by rw[fi,e1];omega),fi,e1,Nat.add_sub_cancel_left];exact mJ hil hjz
  ·by_cases hin:i<n
   ·rw[List.getElem?_append_left oM]at hi;exact hxz i y hi
   ·rw[List.getElem?_append_right oM]at hi;exact hyz _ y hi
 ·exact .osl (p:=⟨w.heap.size,cap',esz,el⟩) sI rfl (fun _=>⟨rfl,rfl⟩) (fun _=>by simp) hge ⟨by simp,hcm⟩
theorem za(h:az X ρ σ bx a w){T T' d sl el esz bytes n t e o:Nat}{ag:Bool}(hd:d<X.N)(hlo:X.lo<=sl)(hk:(ak P T).k= .slice el esz bytes ag)(hez:esz≠0)(hz:(ak P el).zero.length=esz)
 {vx vy:Value} {ys:List D} (hx:aE w (ay X ρ bx w) ρ (.osl t e esz o n) vx) (hlt:X.lo<=t) (hep:(bx t).ep=e) (hk1:(bx t).k=1) (hbz:(bx t).sz=esz) (hty:(bx t).ty=el) (hle:o+n<=(bx t).es.length)
 {us2:Nat->Nat->Value} (hne:ys≠[]) (hsrc:Src P esz T' vy ys.length (rowOf us2 ys.length esz) w) (hyz:∀(i:Nat) d,ys[i]? =some d->d.cells.length=esz)
 (hys:∀(i:Nat) d (j:Nat) c,ys[i]? =some d->d.cells[j]? =some c->aE w (ay X ρ bx w) ρ c (us2 i j)/\(us2 i j).oneCell'=true)
 (hby:(n+ys.length) * bytes<=140737488355328) (hb0:0<bytes):
 ∃v w',(Builtin.append_ #[T,T'] ty #[vx,vy]).run P w= .ok v w'/\
  ∃ρ',az X ρ' (ao σ d (.osl sl ((bx sl).ep+1) esz 0 (n+ys.length))) (ao (ao bx t {bx t with k:=0}) sl ⟨(bx sl).ep+1,1,esz,el,((bx t).es.drop o).take n++ys⟩) (a.put (some d) v) w'\/
   az X ρ' (ao σ d (.osl sl ((bx sl).ep+1) esz o (n+ys.length))) (ao (ao bx t {bx t with k:=0}) sl ⟨(bx sl).ep+1,1,esz,el,(bx t).es.take (o+n)++ys⟩) (a.put (some d) v) w':=by
 obtain⟨hu,he,hbt,_⟩:=bY hk;obtain⟨i,z,hi,hzz,hzc⟩:=nS (P:=P) (t:=el) oM;have hsz:i.size=esz:=by
  obtain⟨i',_,hi',_,hs'⟩:=iu (P:=P) (t:=el) oM;rw[hi]at hi';injection hi' with hi';rw[hi',hs',he]
 have hbi:i.bytes=bytes:=by rw[hbt,hi];rfl
 have hzs:z.cells.size=esz:=by rw[<-hz,hzc];simp
 have hmm:(n+ys.length)<=maxLen:=by
  have:=Nat.le_mul_of_pos_right (n+ys.length) hb0;simp only[maxLen];omega
 have hm0:0<ys.length:=List.length_pos_iff.2 hne;obtain⟨p,off,cap,hp,hpz,h0,hoff,hn,hoc,hmax,rfl⟩:=hx.HD;obtain⟨p',hp',hpz',hpt,hpb,hh⟩:=h.box t (by rw[hk1];decide);rw[hep,hp]at hp';injection hp' with hp';subst hp';obtain⟨⟨cur,hcur,hcs,us,hus⟩,hlc,hmx,hszz⟩:=hh;have hcell1:∀i j,i<(bx t).es.length->j<esz->cur[i * esz+j]? =some (us i j):=by
  intro i j hi hj;have hd:=List.getElem?_eq_getElem hi;have hc:=List.getElem?_eq_getElem (show j<(bx t).es[i].cells.length by rw[hszz i _ hd,hpz];exact hj);have:=(hus i _ j _ hd hc).1;rwa[hpz]at this
 have hb1:∀s,ao bx t {bx t with k:=0} s=bx s\/((ao bx t {bx t with k:=0} s).k=0/\(ao bx t {bx t with k:=0} s).ep=(bx s).ep/\X.lo<=s):=fun s=>by
  by_cases hs:s=t
  ·subst hs;exact .inr ⟨by simp[ao],by simp[ao],hlt⟩
  ·exact .inl (by simp[ao,hs])
 have hO:∀b',b'=p.b->∃t0 p0,(bx t0).k=1/\ρ t0 (bx t0).ep=some p0/\p0.b=b'/\(t0=sl\/(ao bx t {bx t with k:=0} t0).k=0):=fun b' hb=>⟨t,p,hk1,by rw[hep];exact hp,hb.symm,.inr (by simp[ao])⟩
 by_cases hroom:n+ys.length<=cap
 ·
  have hoff':=hoff oM;have hfit:off+n * i.size+(rowOf us2 ys.length esz).length<=cur.size:=by
   rw[fi,hcs,hpz,hsz,hoff',<-Nat.add_mul,<-Nat.add_mul];exact Nat.mul_le_mul_right _ oM
  have hr:=rG (P:=P) (w:=w) T T' ty el i hu hi p.b off n cap cur (by rw[hcur,hpt,hty]) vy ys.length (rowOf us2 ys.length esz) (by rw[hsz];exact hsrc) hroom hfit;rw[hsz]at hr hfit;have eoff:off+n * esz=(o+n) * esz:=by rw[hoff',Nat.add_mul]
  rw[eoff]at hr hfit;have hA:(o+n) * esz<=cur.size:=oM;have hat1:∀k,k<(o+n) * esz->(cur.toList.take ((o+n) * esz)++rowOf us2 ys.length esz++cur.toList.drop ((o+n) * esz+(rowOf us2 ys.length esz).length)).toArray[k]? =cur[k]?:=fun k hk=>by rw[List.getElem?_toArray,List.append_assoc,List.getElem?_append_left (by simp;omega),List.getElem?_take_of_lt hk,Array.getElem?_toList]
  have hat2:∀(k:Nat) u,(rowOf us2 ys.length esz)[k]? =some u->(cur.toList.take ((o+n) * esz)++rowOf us2 ys.length esz++cur.toList.drop ((o+n) * esz+(rowOf us2 ys.length esz).length)).toArray[(o+n) * esz+k]? =some u:=fun k u hk=>by
   have hkl:=(List.getElem?_eq_some_iff.1 hk).1;have hl1:(cur.toList.take ((o+n) * esz)).length=(o+n) * esz:=by simp;omega
   rw[List.getElem?_toArray,List.append_assoc,List.getElem?_append_right oM,hl1,Nat.add_sub_cancel_left,List.getElem?_append_left hkl,hk]
  have hsize:(cur.toList.take ((o+n) * esz)++rowOf us2 ys.length esz++cur.toList.drop ((o+n) * esz+(rowOf us2 ys.length esz).length)).toArray.size=p.cap * p.sz:=by rw[<-hcs];simp;omega
  generalize(cur.toList.take ((o+n) * esz)++rowOf us2 ys.length esz++cur.toList.drop ((o+n) * esz+(rowOf us2 ys.length esz).length)).toArray=cur' at hr hat1 hat2 hsize;have hw':(w.setRow p.b cur').heap[p.b]? =some (.cells cur' p.ty (0,0)):=setRow_heap w p.b cur _ _ _ hcur;have hfr:Fr (fun b'=>b'=p.b) w (w.setRow p.b cur'):=⟨rfl,rfl,rfl,by simp,fun k _ hk=>setRow_other w p.b k _ hk⟩
  have hw:∀b',ay X ρ bx w b'->(w.setRow p.b cur').heap[b']? =w.heap[b']?:=fun b' hb=>hfr.block b' hb.1 fun ee=>by
   obtain⟨t0,p0,hk0,hr0,hp0,_⟩:=hO b' ee;exact hb.2.2 t0 hk0 p0 hr0 hp0
  have htl:((bx t).es.take (o+n)).length=o+n:=by simp;omega
  refine⟨_,_,hr,_,.inr ((az.own (t:=sl) (p:=⟨p.b,p.cap,esz,el⟩) (es:=(bx t).es.take (o+n)++ys) (bx1:=ao bx t {bx t with k:=0}) h hlo hb1 (Old:=fun b'=>b'=p.b) hfr hO (.inr rfl) fun S' ρ' hS hρ=>?_).put (dst:=some d) (fun t ht=>by injection ht with ht;subst ht;exact hd) ?_)⟩
  ·have hmono:∀c u,aE w (ay X ρ bx w) ρ c u->aE (w.setRow p.b cur') S' ρ' c u:=fun c u hr=>hr.mono hw hS hρ;refine⟨⟨cur',by rw[hw',hpt,hty],by rw[hsize,hpz],fun i j=>if i<o+n then us i j else us2 (i - (o+n)) j,fun i y j c hi hj=>?_⟩,by simp;omega,hmax,fun i y hi=>?_⟩
   ·dsimp only;by_cases hin:i<o+n
    ·rw[List.getElem?_append_left oM,List.getElem?_take_of_lt hin]at hi;obtain⟨u1,u2,u3⟩:=hus i y j c hi hj;have hjz:j<esz:=by have:=(List.getElem?_eq_some_iff.1 hj).1;rw[hszz i y hi,hpz]at this;exact this
     have hlt2:i * esz+j<(o+n) * esz:=by
      have:=Nat.mul_le_mul_right esz (show i+1<=o+n from hin);rw[Nat.succ_mul]at this;omega
     simp only[hin,if_true];rw[hpz]at u1;exact⟨(hat1 _ hlt2).trans u1,hmono _ _ u2,u3⟩
    ·rw[List.getElem?_append_right oM,htl]at hi;obtain⟨u2,u3⟩:=hys (i - (o+n)) y j c hi hj;have hjz:j<esz:=by have:=(List.getElem?_eq_some_iff.1 hj).1;rw[hyz _ y hi]at this;exact this
     have hil:=(List.getElem?_eq_some_iff.1 hi).1;simp only[hin,if_false];have e1:i * esz+j=(o+n) * esz+((i - (o+n)) * esz+j):=by
      have:i=(o+n)+(i - (o+n)):=oM
      conv=>lhs;rw[this,Nat.add_mul]
      omega
     rw[e1];exact⟨hat2 _ _ (mJ hil hjz),hmono _ _ u2,u3⟩
   ·by_cases hin:i<o+n
    ·rw[List.getElem?_append_left oM,List.getElem?_take_of_lt hin]at hi;exact(hszz i y hi).trans hpz
    ·rw[List.getElem?_append_right oM]at hi;exact hyz _ y hi
  ·exact .osl (p:=⟨p.b,p.cap,esz,el⟩) sI rfl h0 hoff hroom ⟨hoc,hmax⟩
 ·
  have holds:∀j v,(rowOf (fun i j=>us (o+i) j) n esz)[j]? =some v->w.cell? ((⟨p.b,off,none⟩:Addr).add j)=some v:=fun j v hj=>by
   obtain⟨k,l,hk,hl,rfl,rfl⟩:=gQ hj;rw[Addr.cz,hoff oM];have:=hcell1 (o+k) l oM hl;rw[Nat.add_mul]at this;rw[<-Nat.add_assoc];simp[World.cell?,hcur,this]
  have htl:(((bx t).es.drop o).take n).length=n:=by simp;omega
  have hget:∀(k:Nat) y,(((bx t).es.drop o).take n)[k]? =some y->k<n/\(bx t).es[o+k]? =some y:=fun k y hk=>by
   have hkl:=(List.getElem?_eq_some_iff.1 hk).1;rw[htl]at hkl;rw[List.getElem?_take_of_lt hkl,List.getElem?_drop]at hk;exact⟨hkl,hk⟩
  obtain⟨v,w',hr,ρ',hS⟩:=oW (ty:=ty) (n:=n) (cap:=cap) (base:=some ⟨p.b,off,none⟩) h hd hlo hk hez hz htl oM (fun i d hi=>(hszz _ d (hget i d hi).2).trans hpz) (fun i d j c hi hj=>(hus (o+i) d j c (hget i d hi).2 hj).2)
   (run_firstCells_some w.drew esz n _ n cap (rowOf (fun i j=>us (o+i) j) n esz) (fi _ _ _) (by simpa using holds)) hne hsrc hyz hys hby hb0 hb1
  exact⟨v,w',hr,ρ',.inl hS⟩
theorem Kq(s:List UInt8):rowOf (fun i _=> .int .u8 ((s.getD i 0).toNat:Int)) (aV s).length 1=byteCells ⟨s.toArray⟩:=by
 apply List.ext_getElem?;intro i;unfold rowOf byteCells aV;simp only[List.getElem?_map,List.length_map,Nat.mul_one,Nat.div_one];by_cases hi:i<s.length
 ·rw[List.getElem?_range hi];simp[hi]
 ·rw[List.getElem?_eq_none (by simp;omega)];simp[Nat.le_of_not_lt hi]
theorem rq(h:az X ρ σ bx a w){T T':TypeId}{x y:Operand}{dst:Option Tmp}(hdst:∀t,dst=some t->t<X.N){lo base:Nat}(hlo:X.lo<=lo)(hbase:X.lo<=base){r:(D×ae)×(D×ae)}(hv:oR lo (ak P) (ak P T) T T' (gS base dst) bx (ev σ x) (ev σ y)=some r):
 ∃v w',(execOp a.eval ⟨dst,.call {callee:=.builtin .append,args:= #[x,y],argTypes:= #[T,T']},ty,pos,af,g⟩).run P w= .ok (.value v) w'/\∃ρ',az X ρ' (put σ dst r.1.1) r.1.2 (a.put dst v) w'\/az X ρ' (put σ dst r.2.1) r.2.2 (a.put dst v) w':=by
 have hx:=h.ev x;have hy:=h.ev y;suffices hs:∃v w',(Builtin.append_ #[T,T'] ty #[a.eval x,a.eval y]).run P w= .ok v w'/\∃ρ',az X ρ' (put σ dst r.1.1) r.1.2 (a.put dst v) w'\/az X ρ' (put σ dst r.2.1) r.2.2 (a.put dst v) w' by
  obtain⟨v,w',hr,hS⟩:=hs;refine⟨v,w',?_,hS⟩;simp only[execOp,resolve,invoke,builtin,Sem.run_bind,Sem.run_pure,Result.andThen_ok,List.map_toArray,List.map_cons,List.map_nil,hr]
 generalize ev σ x=dx at hv hx;generalize ev σ y=dy at hv hy;generalize a.eval x=vx at hx⊢;generalize a.eval y=vy at hy⊢;unfold oR at hv;split at hv
 ·rename_i el esz bytes ag d0 hk hd0;cases dst with
  |none=>simp[gS]at hd0
  |some d=>
   simp only[gS,Option.some.injEq]at hd0;subst hd0;have hsl:X.lo<=base+d:=Nat.le_trans hbase (Nat.le_add_right _ _);split at hv
   ·rename_i hzl;obtain⟨hzl,hez⟩:=hzl;obtain⟨hu,he,hbt,_⟩:=bY hk;obtain⟨i,hi,hsz⟩:∃i,P.info? el=some i/\i.size=esz:=by
     obtain⟨i',_,hi',_,hs'⟩:=iu (P:=P) (t:=el) oM;exact⟨i',hi',by omega⟩
    rw[Option.bind_eq_some_iff]at hv;obtain⟨ys,hel,hv⟩:=hv;have hY:∃us2:Nat->Nat->Value,Src P esz T' vy ys.length (rowOf us2 ys.length esz) w/\(∀(i:Nat) d,ys[i]? =some d->d.cells.length=esz)/\
     ∀(i:Nat) d (j:Nat) c,ys[i]? =some d->d.cells[j]? =some c->aE w (ay X ρ bx w) ρ c (us2 i j)/\(us2 i j).oneCell'=true:=by
     unfold lj at hel;split at hel
     ·rename_i hTT;subst hTT;obtain⟨A,c,b,off,us,hvy,hA,hyz,hys⟩:=jY h hy hel;refine⟨us,?_,hyz,fun i d j c hi hj=>(hys i d j c hi hj).2⟩;have hcell2:∀i j,i<ys.length->j<esz->w.cell? ⟨b,off+i * esz+j,none⟩=some (us i j)/\(us i j).oneCell'=true:=by
       intro i j hi hj;have hd:=List.getElem?_eq_getElem hi;have hc:=List.getElem?_eq_getElem (show j<ys[i].cells.length by rw[hyz i _ hd];exact hj);exact⟨(hys i _ j _ hd hc).1,(hys i _ j _ hd hc).2.2⟩
      by_cases hne:ys=[]
      ·subst hne;subst hvy;cases A with
       |none=>exact⟨.inl ⟨_,hu⟩,fun _=>rfl,by simpa[rowOf]using run_firstCells_none (P:=P) w esz 0 0 c,by simpa[rowOf]using run_firstCells_none (P:=P) w.drew esz 0 0 c,by simp[rowOf],by simp[rowOf]⟩
       |some a0=>exact Src.ofSlice w hu a0 0 c _ (by simp[rowOf]) (by simp[rowOf]) (by simp[rowOf])
      ·obtain rfl:=hA hne;subst hvy;exact Src.ofSlice w hu ⟨b,off,none⟩ ys.length c (rowOf us ys.length esz) (fi _ _ _) (fun j u hj=>by
        obtain⟨k,l,hk,hl,rfl,rfl⟩:=gQ hj;rw[Addr.cz];have:=(hcell2 k l hk hl).1;rw[<-Nat.add_assoc];exact this) (fun u hu=>by
        obtain⟨j,hj⟩:=List.mem_iff_getElem?.1 hu;obtain⟨k,l,hk,hl,rfl,rfl⟩:=gQ hj;exact(hcell2 k l hk hl).2)
     ·split at hel
      ·rename_i s hk2;split at hel
       ·rename_i hc;obtain⟨_,rfl⟩:=hc;injection hel with hel;subst hel;cases hy with
        |pure hy=>
         cases hy;refine⟨fun i _=> .int .u8 ((s.getD i 0).toNat:Int),?_,fun i d hi=>?_,fun i d j c hi hj=>?_⟩
         ·rw[Kq];have:=Src.ofString (P:=P) w (tx:=T') (lC hk2) ⟨s.toArray⟩;have hl:(ByteArray.mk s.toArray).size=(aV s).length:=by simp[aV,ByteArray.size]
          rw[hl]at this;exact this
         ·simp only[aV,List.getElem?_map,Option.map_eq_some_iff]at hi;obtain⟨u,_,rfl⟩:=hi;rfl
         ·simp only[aV,List.getElem?_map,Option.map_eq_some_iff]at hi;obtain⟨u,hu,rfl⟩:=hi;rcases j with _|j
          ·simp only[D.cells,List.getElem?_cons_zero,Option.some.injEq]at hj;subst hj;have:s.getD i 0=u:=by simp[hu]
           dsimp only;rw[this];exact⟨.pure (.int _ _),rfl⟩
          ·simp[D.cells]at hj
       ·cases hel
      ·cases hel
    obtain⟨us2,hsrc,hyz,hys⟩:=hY;split at hv
    ·rename_i hne;subst hne;have hsl2:∃B n cap,vx= .slice B n cap/\n<=cap/\∃x',r=((x',bx),(x',bx))/\aE w (ay X ρ bx w) ρ x' vx:=by
      unfold A9 at hv;split at hv
      ·injection hv with hv;have hx':=(hx.dK rfl)
       obtain⟨A,hA⟩:=hx'.pK;exact⟨_,_,_,hA,Nat.le_refl _,_,hv.symm,.pure hx'.mG⟩
      ·injection hv with hv;exact⟨none,0,0,hx.ei,Nat.le_refl _,_,hv.symm,hx⟩
      ·injection hv with hv;obtain⟨p,off,cap,_,_,_,_,hn,_,_,hvx⟩:=hx.kL;exact⟨_,_,_,hvx,hn,_,hv.symm,hx⟩
      ·injection hv with hv;have hx2:=hx;cases hx2 with
       |pure hx2=>cases hx2 with|sl hn hcap=>exact⟨_,_,_,rfl,hcap,_,hv.symm,hx⟩
      ·cases hv
     obtain⟨B,n,cap,rfl,hnc,x',rfl,hx'⟩:=hsl2;refine⟨.slice B n cap,w,?_,ρ,.inl (h.put (dst:=some d) (fun t ht=>by injection ht with ht;subst ht;exact hdst d rfl) hx')⟩;have hlen:=hsrc.len w;have hcl:=hsrc.cells;simp only[List.length_nil,rowOf,Nat.zero_mul,List.range_zero,List.map_nil]at hlen hcl;rcases hsrc.kind with⟨e',hk2⟩|hk2<;>cases B<;>simp[Builtin.append_,run_underlying hu,run_underlying hk2,sizeOf,typeInfo,hi,hsz,hlen,hcl,hnc,storeCells]
    ·rename_i hne;unfold px at hv;split at hv
     ·rename_i t e sz o n;split at hv
      ·rename_i hc;obtain⟨c0,c1,c3,c4,c5,c6,c7,c8,c9,c10⟩:=hc;injection hv with hv;subst hv;subst c1;exact za (ty:=ty) h (hdst d rfl) hsl hk oM hzl hx (Nat.le_trans hlo c0) c3 c4 c5 c6 c7 hne hsrc hyz hys c8 c10
      ·cases hv
     ·rename_i sz es;split at hv
      ·rename_i hc;obtain⟨c1,c8,c9,c10⟩:=hc;injection hv with hv;subst hv;subst c1;have hx':=hx.dK rfl;obtain⟨A,hA⟩:=hx'.pK;have hx2:=hx'.mG;rw[hA]at hx2⊢;cases hx2 with
       |@sl _ _ _ n cap b off us hn hcap hmax hA2 hsz2 hc2 h12 hr2=>
        have hold:(Builtin.firstCells sz es.length (.slice A es.length es.length)).run P w.drew= .ok (rowOf us es.length sz).toArray w.drew:=by
         by_cases hes:es=[]
         ·subst hes;cases A with
          |none=>simpa[rowOf]using run_firstCells_none (P:=P) w.drew sz 0 0 0
          |some a0=>exact run_firstCells_some w.drew sz 0 a0 0 _ _ (by simp[rowOf]) (by simp[rowOf])
         ·obtain⟨hA3,_⟩:=hA2 hes;subst hA3;refine run_firstCells_some w.drew sz es.length _ _ _ (rowOf us es.length sz) (fi _ _ _) fun j u hj=>?_;obtain⟨k,l,hk,hl,rfl,rfl⟩:=gQ hj;rw[Addr.cz];have hd:=List.getElem?_eq_getElem hk;have hc:=List.getElem?_eq_getElem (show l<es[k].cells.length by rw[hsz2 k _ hd];exact hl);have:=hc2 k _ l _ hd hc;rw[<-Nat.add_assoc];simpa using this
        obtain⟨v,w',hrr,ρ',hS⟩:=oW (ty:=ty) (bx1:=bx) h (hdst d rfl) hsl hk oM hzl rfl (by have:=List.length_pos_iff.2 hne;omega) hsz2 (fun i d j c hi hj=>⟨.pure (hr2 i d j c hi hj),h12 i d j c hi hj⟩) hold hne hsrc hyz hys c8 c10 (fun _=> .inl rfl);exact⟨v,w',hrr,ρ',.inl hS⟩
      ·cases hv
     ·split at hv
      ·rename_i hc;obtain⟨c8,c9,c10⟩:=hc;injection hv with hv;subst hv;rw[hx.ei];obtain⟨v,w',hrr,ρ',hS⟩:=oW (ty:=ty) (bx1:=bx) (n:=0) (cap:=0) (base:=none) (xs0:=[]) (us:=fun _ _=>undef) h (hdst d rfl) hsl hk oM hzl rfl (by have:=List.length_pos_iff.2 hne;omega) sI sI (by simpa[rowOf]using run_firstCells_none (P:=P) w.drew esz 0 0 0) hne hsrc hyz hys (by simpa using c8) c10 (fun _=> .inl rfl);simp only[Nat.zero_add,List.nil_append]at hS;exact⟨v,w',hrr,ρ',.inl hS⟩
      ·cases hv
     ·cases hv
   ·cases hv
 ·cases hv
end Go.V
namespace Go.V
open Go.RowKit
variable {P:Program} {X:Ctx} {ρ:bN} {σ:Env} {bx:ae} {a:Act} {w:World} {ty:TypeId} {pos:String} {af:Array Edge} {g:Option (Nat×Bool)}
theorem Nk{z:Array Value}{m i j:Nat}(hi:i<m)(hj:j<z.size):(Builtin.zeroCells z m)[i * z.size+j]? =some (z.getD j undef):=by
 have hlt:i * z.size+j<m * z.size:=by
  have:(i+1) * z.size<=m * z.size:=Nat.mul_le_mul_right _ hi;rw[Nat.add_mul]at this;omega
 unfold Builtin.zeroCells;simp only[Array.getElem?_map,Array.getElem?_range,hlt,if_true,Option.map_some,Option.some.injEq];have:(i * z.size+j) % z.size=j:=by rw[Nat.mul_comm,Nat.mul_add_mod,Nat.mod_eq_of_lt hj]
 rw[this,getElem!_def,Array.getElem?_eq_getElem hj,Array.getD_eq_getD_getElem?,Array.getElem?_eq_getElem hj];rfl
theorem xd(t tn ty e:TypeId)(i:TypeInfo)(z:Value)(kq kn:IntKind)(ht:P.underlying t=some (.slice e))(htn:P.underlying tn=some (.int kn))(hi:P.info? e=some i)(hz:i.zero=some z)
 (gb sLen sCap m:Nat) (cur:Array Value) (hg:w.heap[gb]? =some (.cells cur e (0,0))) (h0:0<m) (hs:0<i.size) (hzs:z.cells.size=i.size) (hroom:sLen+m<=sCap) (hfit:sLen * i.size+m * i.size<=cur.size)
 (h63:(m:Int)<=9223372036854775807) (h48:m * i.bytes<=281474976710656) (h1:∀u∈(Builtin.zeroCells z.cells m).toList,u.oneCell'=true):
 (Builtin.append_ #[t,tn] ty #[.slice (some ⟨gb,0,none⟩) sLen sCap,.int kq m]).run P w=
  .ok (.slice (some ⟨gb,0,none⟩) (sLen+m) sCap) (w.setRow gb (cur.toList.take (sLen * i.size)++(Builtin.zeroCells z.cells m).toList++cur.toList.drop (sLen * i.size+(Builtin.zeroCells z.cells m).toList.length)).toArray):=by
 have hst:=run_storeCells_at P gb (sLen * i.size) e (Builtin.zeroCells z.cells m).toList 0 cur w hg (by simp[size_zeroCells,hzs];omega) h1;simp only[Nat.add_zero]at hst;have hw:IntKind.i64.wrap (m:Int)=m:=by rw[IntKind.wrap_i64];omega
 have hneg:¬((m:Int)<0):=oM;have h48i:¬(281474976710656<(m:Int) * (i.bytes:Int)):=by rw[<-Int.natCast_mul];omega
 have hns:¬(m * i.size=0):=Nat.mul_ne_zero oM oM;simp[Builtin.append_,run_underlying ht,run_underlying htn,sizeOf,typeInfo,zeroValue,hi,hz,asInt,asIntOf,hw,hneg,h48i,hns,hroom,Addr.add_lit];rw[hst];simp
theorem A1(base:Nat)(t tn ty e:TypeId)(i:TypeInfo)(z:Value)(kq kn:IntKind)(size bytes:Nat)(ht:P.underlying t=some (.slice e))(htn:P.underlying tn=some (.int kn))(hi:P.info? e=some i)(hz:i.zero=some z)
 (hsize:i.size=size) (hby:i.bytes=bytes) (hzs:z.cells.size=size) (hsz:0<size)
 (v:Value) (n:Nat) (xs:List Value) (hown:w.ownsRow base e size v n xs) (m:Nat) (hm:0<m) (h1:∀u∈(Builtin.zeroCells z.cells m).toList,u.oneCell'=true)
 (h63:n+m<=maxLen) (hbytes:(n+m) * bytes<=140737488355328) (hbase:base<=w.heap.size):
 ∃v' w',(Builtin.append_ #[t,tn] ty #[v,.int kq m]).run P w= .ok v' w'/\w'.ownsRow base e size v' (n+m) (xs++(Builtin.zeroCells z.cells m).toList)/\w.grownBy w' v.ownBlock/\
  (v'.ownBlock=v.ownBlock\/v'.ownBlock=some w.heap.size):=by
 subst hsize;subst hby;have hsmall:n+m<=9223372036854775807:=by simp only[maxLen]at h63;omega
 have hmb:m * i.bytes<=(n+m) * i.bytes:=Nat.mul_le_mul_right _ oM;generalize hnw:(Builtin.zeroCells z.cells m).toList=news at *;have hl:news.length=m * i.size:=by rw[<-hnw];simp[size_zeroCells,hzs]
 have hna:news.toArray=Builtin.zeroCells z.cells m:=by rw[<-hnw]
 have hlen:(xs++news).length=(n+m) * i.size:=by rw[List.length_append,hown.1,hl,Nat.add_mul]
 have grown:∀(old:Nat),old<n+m->∀(row:Option Nat),
  (w.drew.alloc (.cells (xs.toArray++news.toArray++Builtin.zeroCells z.cells (grownCap w (n+m) old e - (n+m))) e)).ownsRow base e i.size
   (.slice (some ⟨w.heap.size,0,none⟩) (n+m) (grownCap w (n+m) old e)) (n+m) (xs++news)/\
  w.grownBy (w.drew.alloc (.cells (xs.toArray++news.toArray++Builtin.zeroCells z.cells (grownCap w (n+m) old e - (n+m))) e)) row:=by
  intro old ho row;have hge:=grownCap_ge w (n+m) old e;have hcm:grownCap w (n+m) old e<=maxLen:=grownCap_le_maxLen w (n+m) old e h63;refine⟨⟨hlen,.inr ⟨w.heap.size,_,_,rfl,hbase,heap_alloc_new w.drew _,hge,hcm,?_,?_⟩⟩,⟨rfl,rfl,rfl,by simp,fun k hk _=>heap_alloc_old w.drew _ (show k<w.drew.heap.size from hk)⟩⟩
  ·simp only[Array.size_append,List.size_toArray,size_zeroCells,hzs,hown.1,hl,<-Nat.add_mul]
   congr 1
   omega
  ·simp only[Array.toList_append,List.append_assoc];rw[<-List.append_assoc,<-hlen];exact List.take_left
 rcases hown.2 with⟨rfl,rfl⟩|⟨gb,cap,cur,rfl,hbg,hg,hnc,hcm,hcs,htake⟩
 ·have hx:xs=[]:=List.eq_nil_of_length_eq_zero (by simpa using hown.1);subst hx;have hr:=Lib.run_append_grow_zeros (P:=P) w t tn ty e i z kq kn ht htn hi hz none 0 0 [] (run_firstCells_none w.drew i.size 0 0 0) m hm hsz oM oM oM (growslice_fits oM hbytes);have hgr:=grown 0 oM (Value.ownBlock (.slice none 0 0));rw[hna]at hgr;exact⟨_,_,hr,hgr.1,hgr.2,.inr rfl⟩
 ·by_cases hroom:n+m<=cap
  ·have hfit:n * i.size+m * i.size<=cur.size:=by rw[hcs,<-Nat.add_mul];exact Nat.mul_le_mul_right _ hroom
   have hr:=xd (P:=P) (w:=w) t tn ty e i z kq kn ht htn hi hz gb n cap m cur hg hm hsz hzs hroom hfit oM oM (by rw[hnw];exact h1);rw[hnw]at hr;refine⟨_,_,hr,⟨hlen,.inr ⟨gb,cap,_,rfl,hbg,setRow_heap w gb cur _ e _ hg,hroom,hcm,?_,?_⟩⟩,⟨rfl,rfl,rfl,by simp,fun k _ hk=>setRow_other w gb k _ (fun e=>hk (by simp[Value.ownBlock,e]))⟩,.inl rfl⟩
   ·simp only[List.size_toArray,List.length_append,List.length_take,List.length_drop,Array.length_toList];omega
   ·rw[htake,<-hlen];exact List.take_left
  ·have holds:∀j u,xs[j]? =some u->w.cell? ((⟨gb,0,none⟩:Addr).add j)=some u:=hown.cells (g:=gb) rfl;have hr:=Lib.run_append_grow_zeros (P:=P) w t tn ty e i z kq kn ht htn hi hz (some ⟨gb,0,none⟩) n cap xs (run_firstCells_some w.drew i.size n ⟨gb,0,none⟩ n cap xs hown.1 (by simpa using holds)) m hm hsz oM oM oM (growslice_fits oM hbytes);have hgr:=grown cap oM (Value.ownBlock (.slice (some ⟨gb,0,none⟩) n cap));rw[hna]at hgr;exact⟨_,_,hr,hgr.1,hgr.2,.inr rfl⟩
theorem wy(h:az X ρ σ bx a w){T T' d sl el esz bytes n m:Nat}{ag:Bool}{kn kq:IntKind}(hd:d<X.N)(hlo:X.lo<=sl)(hk:(ak P T).k= .slice el esz bytes ag)(hk':(ak P T').k= .int kn)(hez:esz≠0)(hz:(ak P el).zero.length=esz)
 {zd:D} (hzd:fw (ak P el)=some zd) {vx:Value} {xs:List Value} {xs0:List D} {us0:Nat->Nat->Value} (hown:w.ownsRow 0 el esz vx n xs) (hxl:xs0.length=n)
 (hxz:∀(i:Nat) d,xs0[i]? =some d->d.cells.length=esz)
 (hxs:∀(i:Nat) d (j:Nat) c,xs0[i]? =some d->d.cells[j]? =some c->xs[i * esz+j]? =some (us0 i j)/\aE w (ay X ρ bx w) ρ c (us0 i j)/\(us0 i j).oneCell'=true)
 (hm:0<m) (hby:(n+m) * bytes<=140737488355328) (hb0:0<bytes) {bx1:ae} (h1:∀s,bx1 s=bx s\/((bx1 s).k=0/\(bx1 s).ep=(bx s).ep/\X.lo<=s))
 (hO:∀b,some b=vx.ownBlock->∃t0 p0,(bx t0).k=1/\ρ t0 (bx t0).ep=some p0/\p0.b=b/\(t0=sl\/(bx1 t0).k=0)):
 ∃v w',(Builtin.append_ #[T,T'] ty #[vx,.int kq m]).run P w= .ok v w'/\
  ∃ρ',az X ρ' (ao σ d (.osl sl ((bx sl).ep+1) esz 0 (n+m))) (ao bx1 sl ⟨(bx sl).ep+1,1,esz,el,xs0++List.replicate m zd⟩) (a.put (some d) v) w':=by
 obtain⟨hu,he,hbt,_⟩:=bY hk;obtain⟨i,z,hi,hzz,hzc⟩:=nS (P:=P) (t:=el) oM;have hsz:i.size=esz:=by
  obtain⟨i',_,hi',_,hs'⟩:=iu (P:=P) (t:=el) oM;rw[hi]at hi';injection hi' with hi';rw[hi',hs',he]
 have hbi:i.bytes=bytes:=by rw[hbt,hi];rfl
 have hzs:z.cells.size=esz:=by rw[<-hz,hzc];simp
 have hmm:(n+m)<=maxLen:=by
  have:=Nat.le_mul_of_pos_right (n+m) hb0;simp only[maxLen];omega
 unfold fw at hzd;split at hzd
 rotate_left
 ·cases hzd
 rename_i hcz;obtain⟨hpos,hzl,hag,hone⟩:=hcz;injection hzd with hzd;have hcells:zd.cells=(ak P el).zero:=by
  subst hzd;unfold tL;cases hA:(ak P el).agg with
  |true=>rfl
  |false=>
   rcases hag with hag|hag
   ·rw[hA]at hag;cases hag
   ·rw[hag]at hzl
    match hzz:(ak P el).zero,hzl with
    |[c],_=>
     rw[hzz]at hone;simp only[List.all_cons,List.all_nil,Bool.and_true]at hone;simp[en hone]
 have hcell:∀(j:Nat) c,zd.cells[j]? =some c->j<esz/\aE w (ay X ρ bx w) ρ c (z.cells.getD j undef)/\(z.cells.getD j undef).oneCell'=true:=fun j c hj=>by
  rw[hcells]at hj;have hj2:=(List.getElem?_eq_some_iff.1 hj).1;have h1:=List.all_eq_true.1 hone c (List.mem_of_getElem? hj);rw[hzc,List.getElem?_map,Option.map_eq_some_iff]at hj;obtain⟨u,hu,rfl⟩:=hj;rw[Array.getElem?_toList]at hu;have hgd:z.cells.getD j undef=u:=by rw[Array.getD_eq_getD_getElem?,hu];rfl
  exact⟨by omega,by rw[hgd];exact .pure (iS u),by rw[hgd];exact(aE.pure (w:=w) (S:=ay X ρ bx w) (ρ:=ρ) (iS u)).one h1⟩
 have hz1:∀u∈(Builtin.zeroCells z.cells m).toList,u.oneCell'=true:=fun u hu=>by
  simp only[Builtin.zeroCells,Array.toList_map,List.mem_map]at hu;obtain⟨q,_,rfl⟩:=hu;have hq:q % z.cells.size<z.cells.size:=Nat.mod_lt _ oM;have hj:zd.cells[q % z.cells.size]? =some (tM (z.cells[q % z.cells.size])):=by rw[hcells,hzc,List.getElem?_map,Array.getElem?_toList,Array.getElem?_eq_getElem hq];rfl
  have:=(hcell _ _ hj).2.2;rw[Array.getD_eq_getD_getElem?,Array.getElem?_eq_getElem hq]at this;rw[getElem!_pos z.cells _ hq];exact this
 obtain⟨v',w',hr,hrow,hgr,hblk⟩:=A1 (P:=P) (w:=w) (ty:=ty) 0 T T' el i z kq kn esz bytes hu (oE hk') hi hzz hsz hbi hzs oM vx n xs hown m hm hz1 hmm hby (Nat.zero_le _);obtain⟨hlen,hrow⟩:=hrow;rcases hrow with⟨_,hrow⟩|⟨gg,cap,cur,rfl,_,hgg,hnc,hcm,hcs,htake⟩
 ·omega
 have hold:w.heap.size<=gg\/some gg=vx.ownBlock:=by
  rcases hblk with hb|hb
  ·exact .inr hb
  ·simp only[Value.ownBlock,Option.some.injEq]at hb;exact .inl oM
 have hw:∀b,ay X ρ bx w b->w'.heap[b]? =w.heap[b]?:=fun b hb=>hgr.block b hb.1 (fun e=>by
  obtain⟨t0,p0,hk0,hr0,hp0,_⟩:=hO b e;exact hb.2.2 t0 hk0 p0 hr0 hp0)
 have hat:∀(k:Nat) (u:Value),(xs++(Builtin.zeroCells z.cells m).toList)[k]? =some u->cur[k]? =some u:=by
  intro k u hk;rw[<-htake]at hk;have hlt:=(List.getElem?_eq_some_iff.1 hk).1;rw[List.length_take]at hlt;rw[List.getElem?_take_of_lt oM,Array.getElem?_toList]at hk;exact hk
 have h2:=h.own (w':=w') (t:=sl) (p:=⟨gg,cap,esz,el⟩) (es:=xs0++List.replicate m zd) (bx1:=bx1) hlo h1 (Old:=fun b=>some b=vx.ownBlock) (.Aw hgr) hO hold (fun S' ρ' hS hρ=>by
  have hmono:∀c u,aE w (ay X ρ bx w) ρ c u->aE w' S' ρ' c u:=fun c u hr=>hr.mono hw hS hρ;refine⟨⟨cur,hgg,hcs,fun i j=>if i<n then us0 i j else z.cells.getD j undef,fun i y j c hi hj=>?_⟩,by simp[hxl,hnc],hcm,fun i y hi=>?_⟩
  ·dsimp only;by_cases hin:i<n
   ·rw[List.getElem?_append_left oM]at hi;obtain⟨u1,u2,u3⟩:=hxs i y j c hi hj;simp only[hin,if_true];refine⟨hat _ _ ?_,hmono _ _ u2,u3⟩;rw[List.getElem?_append_left ((List.getElem?_eq_some_iff.1 u1).1)];exact u1
   ·rw[List.getElem?_append_right oM,hxl]at hi;have hil:=(List.getElem?_eq_some_iff.1 hi).1;simp only[List.length_replicate]at hil;obtain rfl:y=zd:=List.eq_of_mem_replicate (List.mem_of_getElem? hi);obtain⟨u1,u2,u3⟩:=hcell j c hj;simp only[hin,if_false];refine⟨hat _ _ ?_,hmono _ _ u2,u3⟩;have hxl':xs.length=n * esz:=hown.1;have e1:i * esz+j=n * esz+((i - n) * esz+j):=by
     have:i=n+(i - n):=oM
     conv=>lhs;rw[this,Nat.add_mul]
     omega
    rw[List.getElem?_append_right (by rw[hxl',e1];omega),hxl',e1,Nat.add_sub_cancel_left,Array.getElem?_toList,<-hzs];exact Nk hil oM
  ·by_cases hin:i<n
   ·rw[List.getElem?_append_left oM]at hi;exact hxz i y hi
   ·rw[List.getElem?_append_right oM]at hi;obtain rfl:y=zd:=List.eq_of_mem_replicate (List.mem_of_getElem? hi);rw[hcells];exact hz)
 refine⟨_,_,hr,_,h2.put (dst:=some d) (fun t ht=>by injection ht with ht;subst ht;exact hd) (.osl (p:=⟨gg,cap,esz,el⟩) ?_ rfl (fun _=>⟨rfl,rfl⟩) (fun _=>by simp) hnc ⟨by simp,hcm⟩)⟩;simp
theorem ze(h:az X ρ σ bx a w){T T':TypeId}{x y:Operand}{dst:Option Tmp}(hdst:∀t,dst=some t->t<X.N){lo base:Nat}(hlo:X.lo<=lo)(hbase:X.lo<=base){r:D×ae}(hv:pw lo (ak P) T T' (gS base dst) bx (ev σ x) (ev σ y)=some r):
 ∃v w',(execOp a.eval ⟨dst,.call {callee:=.builtin .append,args:= #[x,y],argTypes:= #[T,T']},ty,pos,af,g⟩).run P w= .ok (.value v) w'/\∃ρ',az X ρ' (put σ dst r.1) r.2 (a.put dst v) w':=by
 by_cases hq:oR lo (ak P) (ak P T) T T' (gS base dst) bx (ev σ x) (ev σ y)=some (r,r)
 ·obtain⟨v,w',hr,ρ',hS|hS⟩:=rq (ty:=ty) (pos:=pos) (af:=af) (g:=g) h hdst hlo hbase hq
  ·exact⟨v,w',hr,ρ',hS⟩
  ·exact⟨v,w',hr,ρ',hS⟩
 have hx:=h.ev x;have hy:=h.ev y;suffices hs:∃v w',(Builtin.append_ #[T,T'] ty #[a.eval x,a.eval y]).run P w= .ok v w'/\∃ρ',az X ρ' (put σ dst r.1) r.2 (a.put dst v) w' by
  obtain⟨v,w',hr,hS⟩:=hs;refine⟨v,w',?_,hS⟩;simp only[execOp,resolve,invoke,builtin,Sem.run_bind,Sem.run_pure,Result.andThen_ok,List.map_toArray,List.map_cons,List.map_nil,hr]
 generalize ev σ x=dx at hv hx hq;generalize ev σ y=dy at hv hy hq;generalize a.eval x=vx at hx⊢;generalize a.eval y=vy at hy⊢;unfold pw at hv;split at hv
 ·rename_i hTT;subst hTT;unfold C3 at hv;split at hv
  ·rename_i el esz bytes ag hk;split at hv
   ·cases hv
   ·rename_i hez;rw[Option.bind_eq_some_iff]at hv;obtain⟨ys,hel,hv⟩:=hv;obtain⟨A,c,b,off,us,hvy,hA,hyz,hys⟩:=jY h hy hel;unfold eh at hv;rw[hk]at hv;cases dst with
    |none=>simp[gS]at hv
    |some d=>
     have hd:=hdst d rfl;dsimp only[gS]at hv;obtain⟨hu,he,_,_⟩:=bY hk;have hsl:X.lo<=base+d:=Nat.le_trans hbase (Nat.le_add_right _ _);split at hv
     ·rename_i hy0;subst hy0;have hsl2:∃B n cap,vx= .slice B n cap/\n<=cap/\∃x',r=(x',bx)/\aE w (ay X ρ bx w) ρ x' vx:=by
       unfold Ja at hv;split at hv
       ·injection hv with hv;have hx':=(hx.dK rfl)
        obtain⟨A',hA'⟩:=hx'.pK;exact⟨_,_,_,hA',Nat.le_refl _,_,hv.symm,.pure hx'.mG⟩
       ·injection hv with hv;exact⟨none,0,0,hx.ei,Nat.le_refl _,_,hv.symm,hx⟩
       ·injection hv with hv;obtain⟨p,off,cap,_,_,_,_,hn,_,_,hvx⟩:=hx.kL;exact⟨_,_,_,hvx,hn,_,hv.symm,hx⟩
       ·injection hv with hv;have hx2:=hx;cases hx2 with
        |pure hx2=>cases hx2 with|sl hn hcap=>exact⟨_,_,_,rfl,hcap,_,hv.symm,hx⟩
       ·cases hv
      obtain⟨B,n,cap,hvx,hnc,x',rfl,hx'⟩:=hsl2;subst hvx hvy;refine⟨.slice B n cap,w,?_,ρ,h.put (dst:=some d) (fun t ht=>by injection ht with ht;subst ht;exact hd) hx'⟩;have hsz:=bW (P:=P) (t:=el) oM w;cases A<;>cases B<;>simp[Builtin.append_,run_underlying hu,hsz,Builtin.lenOf,Builtin.firstCells,loadCells,loadCellsFrom,hnc,storeCells]
     ·rename_i hne;split at hv
      ·rename_i hzl;obtain rfl:=hA hne;unfold kX at hv;split at hv
       ·split at hv
        ·rename_i hc;injection hv with hv;subst hv;have:=tA (ty:=ty) h hd hsl hk hez hzl (vx:=vx) (xs:=[]) (xs0:=[]) (n:=0) (us0:=fun _ _=>undef) (by rw[hx.ei];exact World.ownsRow_nil w 0 el esz) rfl sI sI hne hvy hyz hys (by simpa using hc.1) hc.2.2 (bx1:=bx) (fun _=> .inl rfl)
          (by rw[hx.ei];simp[Value.ownBlock])
         simp only[List.nil_append,Nat.zero_add]at this;exact this
        ·cases hv
       ·rename_i t e sz o n;unfold wI at hv;split at hv
        ·rename_i hc;obtain⟨c0,c1,c2,c3,c4,c5,c6,c7,c8,c9,c10⟩:=hc;injection hv with hv;subst hv;subst c1;subst c2;obtain⟨p,off',cap,hp,hpz,h0,_,hn,_,hmax,hvx⟩:=hx.kL;obtain⟨rfl,rfl⟩:=h0 rfl;obtain⟨p',hp',hpz',hpt,hpb,hh⟩:=h.box t (by rw[c4];decide);rw[c3,hp]at hp';injection hp' with hp';subst hp';obtain⟨⟨cur,hcur,hcs,us0,hus⟩,hlc,hmx,hsz⟩:=hh;have hlen:((bx t).es.take n).length=n:=by simp;omega
         have hget:∀(i:Nat) d,((bx t).es.take n)[i]? =some d->i<n/\(bx t).es[i]? =some d:=by
          intro i d hi;have:=(List.getElem?_eq_some_iff.1 hi).1;rw[List.getElem?_take_of_lt oM]at hi;exact⟨by omega,hi⟩
         have hfit:n * sz<=cur.size:=by rw[hcs,hpz];exact Nat.mul_le_mul_right _ oM
         have:=tA (ty:=ty) h hd hsl hk hez hzl (vx:=vx) (xs:=cur.toList.take (n * sz)) (xs0:=(bx t).es.take n) (n:=n) (us0:=us0)
          (by rw[hvx];refine⟨by simp;omega,.inr ⟨p.b,p.cap,cur,rfl,Nat.zero_le _,?_,hn,hmax,by rw[hcs,hpz],rfl⟩⟩;rw[hcur,hpt,c6]) hlen (fun i d hi=>(hsz i d (hget i d hi).2).trans hpz)
          (fun i d j c hi hj=>by
           obtain⟨g1,g2⟩:=hget i d hi;obtain⟨u1,u2,u3⟩:=hus i d j c g2 hj;refine⟨?_,u2,u3⟩;have hjz:j<sz:=by have:=(List.getElem?_eq_some_iff.1 hj).1;rw[hsz i d g2,hpz]at this;exact this
           have hlt:i * sz+j<n * sz:=by
            have:=Nat.mul_le_mul_right sz (show i+1<=n from g1);rw[Nat.succ_mul]at this;omega
           rw[List.getElem?_take_of_lt hlt,Array.getElem?_toList,<-hpz];exact u1) hne hvy hyz hys c8 c10 (bx1:=ao bx t {bx t with k:=0})
          (fun s=>by
           by_cases hs:s=t
           ·subst hs;exact .inr ⟨by simp[ao],by simp[ao],Nat.le_trans hlo c0⟩
           ·exact .inl (by simp[ao,hs]))
          (by
           rw[hvx];intro b hb;simp only[Value.ownBlock,Option.some.injEq]at hb;exact⟨t,p,c4,by rw[c3];exact hp,hb.symm,.inr (by simp[ao])⟩)
         exact this
        ·cases hv
       ·rename_i sz es;split at hv
        ·rename_i hc;obtain⟨c1,c8,c9,c10⟩:=hc;injection hv with hv;subst hv;subst c1;subst hvy;have hcell2:∀i j,i<ys.length->j<sz->w.cell? ⟨b,off+i * sz+j,none⟩=some (us i j)/\(us i j).oneCell'=true:=by
          intro i j hi hj;have hd:=List.getElem?_eq_getElem hi;have hc:=List.getElem?_eq_getElem (show j<ys[i].cells.length by rw[hyz i _ hd];exact hj);exact⟨(hys i _ j _ hd hc).1,(hys i _ j _ hd hc).2.2⟩
         have hsrc:Src P sz T (.slice (some ⟨b,off,none⟩) ys.length c) ys.length (rowOf us ys.length sz) w:=
          Src.ofSlice w hu ⟨b,off,none⟩ ys.length c (rowOf us ys.length sz) (fi _ _ _) (fun j u hj=>by
           obtain⟨k,l,hk,hl,rfl,rfl⟩:=gQ hj;rw[Addr.cz];have:=(hcell2 k l hk hl).1;rw[<-Nat.add_assoc];exact this) (fun u hu=>by
           obtain⟨j,hj⟩:=List.mem_iff_getElem?.1 hu;obtain⟨k,l,hk,hl,rfl,rfl⟩:=gQ hj;exact(hcell2 k l hk hl).2)
         have hx':=hx.dK rfl;obtain⟨A',hA'⟩:=hx'.pK;have hx2:=hx'.mG;rw[hA']at hx2⊢;cases hx2 with
         |@sl _ _ _ n cap b2 off2 us2 hn hcap hmax hA2 hsz2 hc2 h12 hr2=>
          have hold:(Builtin.firstCells sz es.length (.slice A' es.length es.length)).run P w.drew= .ok (rowOf us2 es.length sz).toArray w.drew:=by
           by_cases hes:es=[]
           ·subst hes;cases A' with
            |none=>simpa[rowOf]using run_firstCells_none (P:=P) w.drew sz 0 0 0
            |some a0=>exact run_firstCells_some w.drew sz 0 a0 0 _ _ (by simp[rowOf]) (by simp[rowOf])
           ·obtain⟨hA3,_⟩:=hA2 hes;subst hA3;refine run_firstCells_some w.drew sz es.length _ _ _ (rowOf us2 es.length sz) (fi _ _ _) fun j u hj=>?_;obtain⟨k,l,hk,hl,rfl,rfl⟩:=gQ hj;rw[Addr.cz];have hd:=List.getElem?_eq_getElem hk;have hc:=List.getElem?_eq_getElem (show l<es[k].cells.length by rw[hsz2 k _ hd];exact hl);have:=hc2 k _ l _ hd hc;rw[<-Nat.add_assoc];simpa using this
          exact oW (ty:=ty) (bx1:=bx) h hd hsl hk oM hzl rfl (by have:=List.length_pos_iff.2 hne;omega) hsz2 (fun i d j c hi hj=>⟨.pure (hr2 i d j c hi hj),h12 i d j c hi hj⟩) hold hne hsrc hyz (fun i d j c hi hj=>(hys i d j c hi hj).2) c8 c10 (fun _=> .inl rfl)
        ·cases hv
       ·cases hv
      ·cases hv
  ·cases hv
 ·unfold rI at hv;split at hv
  ·rename_i yy el esz bytes ag kn d0 kq n hk hk' hd0;cases dst with
   |none=>simp[gS]at hd0
   |some d=>
    simp only[gS,Option.some.injEq]at hd0;subst hd0;have hsl:X.lo<=base+d:=Nat.le_trans hbase (Nat.le_add_right _ _);split at hv
    ·rename_i hc;obtain⟨c0,c1,c2,c3,c4⟩:=hc;rw[Option.bind_eq_some_iff]at hv;obtain⟨zd,hzd,hv⟩:=hv;obtain⟨hu,he,hbt,_⟩:=bY hk;obtain⟨m,rfl⟩:∃m:Nat,n=m:=⟨n.toNat,by omega⟩
     simp only[Int.toNat_natCast]at hv;have hyv:=hy.cy;rw[hyv];obtain⟨i,z,hi,hzz,hzc⟩:=nS (P:=P) (t:=el) oM;have hsz:i.size=esz:=by
      obtain⟨i',_,hi',_,hs'⟩:=iu (P:=P) (t:=el) oM;rw[hi]at hi';injection hi' with hi';rw[hi',hs',he]
     have hbi:i.bytes=bytes:=by rw[hbt,hi];rfl
     have none0:∀B q cap,q<=cap->vx= .slice B q cap->(Builtin.append_ #[T,T'] ty #[vx,.int kq ((0:Nat):Int)]).run P w= .ok (.slice B q cap) w:=fun B q cap hq hvx=>by
      subst hvx;cases B<;>simp[Builtin.append_,run_underlying hu,run_underlying (oE hk'),sizeOf,typeInfo,hi,asInt,asIntOf,IntKind.wrap,IntKind.signed,IntKind.bits,hq,storeCells]
     unfold yD at hv;split at hv
     ·split at hv
      ·rename_i h0;rw[List.replicate_eq_nil_iff]at h0;subst h0;injection hv with hv;subst hv;exact⟨_,w,none0 none 0 0 (Nat.le_refl _) hx.ei,ρ,by have:=h.put (dst:=some d) (v:=vx) (fun t ht=>by injection ht with ht;subst ht;exact hdst d rfl) hx;rw[hx.ei]at this;exact this⟩
      ·rename_i hm;have hm:0<m:=Nat.pos_of_ne_zero fun h=>hm (by rw[h];rfl);unfold kX at hv;simp only at hv;split at hv
       ·rename_i hc;injection hv with hv;subst hv;have:=wy (ty:=ty) (kq:=kq) h (hdst d rfl) hsl hk hk' oM c2 hzd (vx:=vx) (xs:=[]) (xs0:=[]) (n:=0) (us0:=fun _ _=>undef) (by rw[hx.ei];exact World.ownsRow_nil w 0 el esz) rfl sI sI hm (by simpa using hc.1) c4 (bx1:=bx) (fun _=> .inl rfl)
         (by rw[hx.ei];simp[Value.ownBlock])
        rw[List.length_replicate];simp only[Nat.zero_add,List.nil_append]at this;exact this
       ·cases hv
     ·rename_i t e sz o n;split at hv
      ·rename_i h0;rw[List.replicate_eq_nil_iff]at h0;subst h0;injection hv with hv;subst hv;obtain⟨p,off,cap,_,_,_,_,hn,_,_,hvx⟩:=hx.kL;exact⟨_,w,none0 _ _ _ hn hvx,ρ,by have:=h.put (dst:=some d) (v:=vx) (fun t ht=>by injection ht with ht;subst ht;exact hdst d rfl) hx;rw[hvx]at this;exact this⟩
      ·rename_i hm;have hm:0<m:=Nat.pos_of_ne_zero fun h=>hm (by rw[h];rfl);unfold kX at hv;simp only at hv;unfold wI at hv;split at hv
       ·rename_i hc;obtain⟨q0,q1,q2,q3,q4,q5,q6,q7,q8,q9,q10⟩:=hc;injection hv with hv;subst hv;subst q1;subst q2;obtain⟨p,off',cap,hp,hpz,h0,_,hn,_,hmax,hvx⟩:=hx.kL;obtain⟨rfl,rfl⟩:=h0 rfl;obtain⟨p',hp',hpz',hpt,hpb,hh⟩:=h.box t (by rw[q4];decide);rw[q3,hp]at hp';injection hp' with hp';subst hp';obtain⟨⟨cur,hcur,hcs,us0,hus⟩,hlc,hmx,hsz'⟩:=hh;have hlen:((bx t).es.take n).length=n:=by simp;omega
        have hget:∀(i:Nat) d,((bx t).es.take n)[i]? =some d->i<n/\(bx t).es[i]? =some d:=by
         intro i d hi;have:=(List.getElem?_eq_some_iff.1 hi).1;rw[List.getElem?_take_of_lt oM]at hi;exact⟨by omega,hi⟩
        have hfit:n * sz<=cur.size:=by rw[hcs,hpz];exact Nat.mul_le_mul_right _ oM
        have:=wy (ty:=ty) (kq:=kq) h (hdst d rfl) hsl hk hk' oM c2 hzd (vx:=vx) (xs:=cur.toList.take (n * sz)) (xs0:=(bx t).es.take n) (n:=n) (us0:=us0)
         (by rw[hvx];refine⟨by simp;omega,.inr ⟨p.b,p.cap,cur,rfl,Nat.zero_le _,?_,hn,hmax,by rw[hcs,hpz],rfl⟩⟩;rw[hcur,hpt,q6]) hlen (fun i d hi=>(hsz' i d (hget i d hi).2).trans hpz)
         (fun i d j c hi hj=>by
          obtain⟨g1,g2⟩:=hget i d hi;obtain⟨u1,u2,u3⟩:=hus i d j c g2 hj;refine⟨?_,u2,u3⟩;have hjz:j<sz:=by have:=(List.getElem?_eq_some_iff.1 hj).1;rw[hsz' i d g2,hpz]at this;exact this
          have hlt:i * sz+j<n * sz:=by
           have:=Nat.mul_le_mul_right sz (show i+1<=n from g1);rw[Nat.succ_mul]at this;omega
          rw[List.getElem?_take_of_lt hlt,Array.getElem?_toList,<-hpz];exact u1) hm (by simpa using q8) c4 (bx1:=ao bx t {bx t with k:=0})
         (fun s=>by
          by_cases hs:s=t
          ·subst hs;exact .inr ⟨by simp[ao],by simp[ao],Nat.le_trans hlo q0⟩
          ·exact .inl (by simp[ao,hs]))
         (by
          rw[hvx];intro b hb;simp only[Value.ownBlock,Option.some.injEq]at hb;exact⟨t,p,q4,by rw[q3];exact hp,hb.symm,.inr (by simp[ao])⟩)
        rw[List.length_replicate];exact this
       ·cases hv
     ·cases hv
    ·cases hv
  ·rename_i yy el esz bytes ag d0 s hk hk' hd0;split at hv
   ·rename_i hc;obtain⟨c1,rfl,c3⟩:=hc;refine absurd ?_ hq;have he:lj (ak P) T T' 1 el bx (.str s)=some (aV s):=by
     unfold lj;rw[if_neg (by assumption),hk'];simp[c3]
    simp only[oR,hk,hd0,he,c1,Nat.one_pos,and_self,if_true,Option.bind_some];simp only[eh,hk,hd0,c1,if_true]at hv;by_cases hys:aV s=[]
    ·rw[if_pos hys]at hv⊢;unfold Ja at hv;split at hv<;>first|(injection hv with hv;subst hv;rfl)|cases hv
    ·rw[if_neg hys]at hv⊢;unfold kX at hv;split at hv
     ·split at hv
      ·rename_i hc;injection hv with hv;subst hv;simp[px,hc]
      ·cases hv
     ·unfold wI at hv;split at hv
      ·rename_i hc;obtain⟨q0,q1,q2,q3,q4,q5,q6,q7,q8,q9,q10⟩:=hc;injection hv with hv;subst hv;subst q2;simp[px,q0,q1,q3,q4,q5,q6,q7,q8,q10]
      ·cases hv
     ·split at hv
      ·rename_i hc;injection hv with hv;subst hv;simp[px,hc]
      ·cases hv
     ·cases hv
   ·cases hv
  ·cases hv
end Go.V
namespace Go.V
open Go.RowKit
variable {P:Program} {X:Ctx} {ρ:bN} {σ:Env} {bx:ae} {a:Act} {w:World}
variable {ty:TypeId} {pos:String} {af:Array Edge} {g:Option (Nat×Bool)}
theorem Uh(n m:Nat):Nat.min n m=min n m:=rfl
theorem FA{S:Nat->Prop}{p:Place}{es ys:List D}{o:Nat}{us2:Nat->Value}{cur:Array Value}
 (hh:Holds w S ρ p es) (hcur:w.heap[p.b]? =some (.cells cur p.ty)) (hS:∀b,S b->b≠p.b) (hz:p.sz=1) (hfit:o+ys.length<=es.length)
 (hy:∀(i:Nat) d,ys[i]? =some d->d.one=true/\aE w S ρ d (us2 i)/\(us2 i).oneCell'=true):
 Holds (w.setRow p.b (cur.toList.take o++(List.range ys.length).map us2++cur.toList.drop (o+ys.length)).toArray) S ρ p (es.take o++ys++es.drop (o+ys.length)):=by
 obtain⟨⟨cur0,hcur0,hcs,us,hus⟩,hlc,hmx,hsz⟩:=hh;rw[hcur]at hcur0;injection hcur0 with hcur0;injection hcur0 with hcur0;subst hcur0;rw[hz,Nat.mul_one]at hcs;have hnew:∀k,(cur.toList.take o++(List.range ys.length).map us2++cur.toList.drop (o+ys.length)).toArray[k]? =if o<=k/\k<o+ys.length then some (us2 (k - o))else cur[k]?:=by
  intro k;have hl1:(cur.toList.take o).length=o:=by simp;omega
  rw[List.getElem?_toArray,List.append_assoc];by_cases h1:k<o
  ·rw[List.getElem?_append_left oM,List.getElem?_take_of_lt h1,if_neg oM,Array.getElem?_toList]
  ·rw[List.getElem?_append_right oM,hl1];by_cases h2:k<o+ys.length
   ·rw[List.getElem?_append_left (by simp;omega),if_pos oM,List.getElem?_map,List.getElem?_range oM];rfl
   ·rw[List.getElem?_append_right (by simp;omega),if_neg oM,List.getElem?_drop,Array.getElem?_toList]
    congr 1
    simp;omega
 have hsize:(cur.toList.take o++(List.range ys.length).map us2++cur.toList.drop (o+ys.length)).toArray.size=p.cap:=by rw[<-hcs];simp;omega
 generalize(cur.toList.take o++(List.range ys.length).map us2++cur.toList.drop (o+ys.length)).toArray=new at hnew hsize⊢;have hmono:∀c u,aE w S ρ c u->aE (w.setRow p.b new) S ρ c u:=fun c u hr=>hr.mono (fun b hb'=>setRow_other w p.b b new (hS b hb')) (fun _ h=>h) (fun _ _ _ h=>h);have hl1:(es.take o).length=o:=by simp;omega
 have hget:∀(i:Nat) d,(es.take o++ys++es.drop (o+ys.length))[i]? =some d->(o<=i/\i<o+ys.length/\ys[i - o]? =some d)\/(¬(o<=i/\i<o+ys.length)/\es[i]? =some d):=by
  intro i d hi;rw[List.append_assoc]at hi;by_cases h1:i<o
  ·rw[List.getElem?_append_left oM,List.getElem?_take_of_lt h1]at hi;exact .inr ⟨by omega,hi⟩
  ·rw[List.getElem?_append_right oM,hl1]at hi;by_cases h2:i<o+ys.length
   ·rw[List.getElem?_append_left oM]at hi;exact .inl ⟨by omega,h2,hi⟩
   ·rw[List.getElem?_append_right oM,List.getElem?_drop]at hi;refine .inr ⟨by omega,?_⟩;rw[<-hi];congr 1;omega
 refine⟨⟨new,setRow_heap w p.b cur new p.ty (0,0) hcur,by rw[hsize,hz,Nat.mul_one],fun i k=>if o<=i/\i<o+ys.length then us2 (i - o)else us i k,fun i d k c hi hk=>?_⟩,by simp;omega,hmx,fun i d hi=>?_⟩
 ·rcases hget i d hi with⟨h1,h2,h3⟩|⟨h1,h3⟩
  ·obtain⟨q1,q2,q3⟩:=hy _ _ h3;rw[en q1]at hk;obtain rfl:k=0:=by
    rcases k with _|k
    ·rfl
    ·simp at hk
   simp only[List.getElem?_cons_zero,Option.some.injEq]at hk;subst hk;dsimp only;rw[if_pos ⟨h1,h2⟩];refine⟨?_,hmono _ _ q2,q3⟩;rw[hnew,hz,Nat.mul_one,Nat.add_zero,if_pos ⟨h1,h2⟩]
  ·obtain⟨u1,u2,u3⟩:=hus i d k c h3 hk;dsimp only;rw[if_neg h1];refine⟨?_,hmono _ _ u2,u3⟩;have hk0:k<1:=by have:=(List.getElem?_eq_some_iff.1 hk).1;rw[hsz i d h3,hz]at this;exact this
   obtain rfl:k=0:=oM;rw[hnew,hz,Nat.mul_one,Nat.add_zero,if_neg h1];rw[hz,Nat.mul_one,Nat.add_zero]at u1;exact u1
 ·rcases hget i d hi with⟨h1,h2,h3⟩|⟨h1,h3⟩
  ·rw[en (hy _ _ h3).1,hz];rfl
  ·exact hsz i d h3
theorem Dg(h:az X ρ σ bx a w){T T':TypeId}{x y:Operand}{dst:Option Tmp}(hdst:∀t,dst=some t->t<X.N){lo:Nat}(hlo:X.lo<=lo){r:Nat×ae}(hv:qp lo (ak P T) (ak P T') bx (ev σ x) (ev σ y)=some r):
 ∃v w',(execOp a.eval ⟨dst,.call {callee:=.builtin .copy,args:= #[x,y],argTypes:= #[T,T']},ty,pos,af,g⟩).run P w= .ok (.value v) w'/\az X ρ (put σ dst (.int .i64 (r.1:Int))) r.2 (a.put dst v) w':=by
 have hx:=h.ev x;have hy:=h.ev y;suffices hs:∃w',(Builtin.copy_ #[T,T'] ty #[a.eval x,a.eval y]).run P w= .ok (goInt r.1) w'/\az X ρ σ r.2 a w' by
  obtain⟨w',hr,hS⟩:=hs;refine⟨goInt r.1,w',?_,hS.put hdst (.pure (.int .i64 _))⟩;simp only[execOp,resolve,invoke,builtin,Sem.run_bind,Sem.run_pure,Result.andThen_ok,List.map_toArray,List.map_cons,List.map_nil,hr]
 generalize ev σ x=dx at hv hx;generalize ev σ y=dy at hv hy;generalize a.eval x=vx at hx⊢;generalize a.eval y=vy at hy⊢;unfold qp at hv;split at hv
 ·rename_i el esz bytes ag _ _ _ _ hk _;split at hv
  ·rename_i he1;subst he1;rw[Option.bind_eq_some_iff]at hv;obtain⟨ys,hel,hv⟩:=hv;split at hv
   ·rename_i hone;obtain⟨A,c,b,off,us,hvy,hA,hyz,hys⟩:=jY h hy hel;obtain⟨hu,he,_,_⟩:=bY hk;obtain⟨i,hi,hsz⟩:∃i,P.info? el=some i/\i.size=1:=by
     obtain⟨i',_,hi',_,hs'⟩:=iu (P:=P) (t:=el) oM;exact⟨i',hi',by omega⟩
    have hsz1:(P.info? el).map (·.size)=some 1:=by rw[hi];simp[hsz]
    have none_:∀(d:Option Addr) (n cap:Nat),vx= .slice d n cap->min ys.length n=0->r=(0,bx)->∃w',(Builtin.copy_ #[T,T'] ty #[vx,vy]).run P w= .ok (goInt r.1) w'/\az X ρ σ r.2 a w':=by
     rintro d n cap rfl h0 rfl;subst hvy;exact⟨w,run_copy_none (P:=P) w T T' ty el d A n cap ys.length c hu hsz1 h0,h⟩
    have rows:∀(p:Place) (o n cap:Nat) (m:Nat) (cur:Array Value),m=min ys.length n->0<m->vx= .slice (some ⟨p.b,o,none⟩) n cap->w.heap[p.b]? =some (.cells cur p.ty)->o+m<=cur.size->
     (Builtin.copy_ #[T,T'] ty #[vx,vy]).run P w= .ok (goInt m) (w.setRow p.b (cur.toList.take o++(List.range m).map (fun i=>us i 0)++cur.toList.drop (o+m)).toArray):=by
     rintro p o n cap m cur hm hm0 rfl hcur hfit;have hne:ys≠[]:=by rintro rfl;simp at hm;omega
     obtain rfl:=hA hne;subst hvy;have hcl:∀k,k<ys.length->∃d,ys[k]? =some d/\d.cells=[d]:=fun k hk=>⟨_,List.getElem?_eq_getElem hk,en (List.all_eq_true.1 hone _ (List.getElem_mem hk))⟩
     have:=run_copy_row (P:=P) w T T' ty el p.b o n cap ⟨b,off,none⟩ ys.length c cur p.ty ((List.range m).map fun i=>us i 0) hu hsz1 hcur (by simp[hm]) (fun j v hj=>by
      have hj':=(List.getElem?_eq_some_iff.1 hj).1;simp only[List.length_map,List.length_range]at hj';rw[List.getElem?_map,List.getElem?_range hj']at hj;simp only[Option.map_some,Option.some.injEq]at hj;obtain⟨d,hd,hdc⟩:=hcl j oM;have:=(hys j d 0 d hd (by rw[hdc];rfl)).1;rw[Addr.cz,<-hj];simpa using this) (by simpa using hfit) (fun v hv=>by
      obtain⟨j,hj,rfl⟩:=List.mem_map.1 hv;obtain⟨d,hd,hdc⟩:=hcl j (by have:=List.mem_range.1 hj;omega);exact(hys j d 0 d hd (by rw[hdc];rfl)).2.2)
     simpa using this
    have hyr:∀(m i:Nat) d,(ys.take m)[i]? =some d->d.one=true/\aE w (ay X ρ bx w) ρ d (us i 0)/\(us i 0).oneCell'=true:=fun m i d hi=>by
     have hi':=(List.getElem?_eq_some_iff.1 hi).1;rw[List.getElem?_take_of_lt (by simp at hi';omega)]at hi;have h1:=List.all_eq_true.1 hone d (List.mem_of_getElem? hi);have:=hys i d 0 d hi (by rw[en h1];rfl);exact⟨h1,this.2⟩
    unfold qq at hv;split at hv
    ·injection hv with hv;exact none_ none 0 0 hx.ei sI hv.symm
    ·rename_i t e sz o n;split at hv
     ·rename_i hc;obtain⟨c0,c1,c2,c3,c4,c5⟩:=hc;injection hv with hv;subst c1;obtain⟨p,off',cap,hp,hpz,h0,hoff,hn,hoc,hmax,hvx⟩:=hx.kL;obtain⟨p',hp',hpz',hpt,hpb,hh⟩:=h.box t (by rw[c3];decide);rw[c2,hp]at hp';injection hp' with hp';subst hp';have hrp:ρ t (bx t).ep=some p:=by rw[c2];exact hp
      by_cases hm:min ys.length n=0
      ·refine none_ _ n cap hvx hm ?_;rw[<-hv,hm];have:ys.take n=[]:=by
        rcases Nat.eq_zero_or_pos n with h0|h0
        ·rw[h0];rfl
        ·have:ys.length=0:=oM;rw[List.eq_nil_of_length_eq_zero this];simp
       rw[this]
       congr 1
       funext s;simp only[ao,List.append_nil,Nat.add_zero,List.take_append_drop];split
       ·rename_i hs;rw[hs]
       ·rfl
      ·obtain⟨cur,hcur,hcs,_⟩:=hh.ex;have hlc:=hh.len;have ho:=hoff oM;rw[Nat.mul_one]at ho;have hfit:off'+min ys.length n<=cur.size:=by rw[hcs,hpz,ho];omega
       have hr:=rows p off' n cap (min ys.length n) cur rfl oM hvx hcur hfit;have hl:(ys.take n).length=min ys.length n:=by simp[Nat.min_comm]
       have hH:=FA (o:=o) hh hcur (fun b hb e=>hb.2.2 t c3 p hrp e.symm) hpz (by rw[hl];omega) (hyr n);rw[hl,<-ho]at hH;refine⟨_,by rw[<-hv];exact hr,?_⟩;rw[<-hv];rw[ho]at hH⊢;exact h.stored (Nat.le_trans hlo c0) c3 hrp ⟨rfl,rfl,rfl,by simp[World.setRow],fun k _ hk=>setRow_other w p.b k _ hk⟩ hH
     ·cases hv
    ·rename_i t e i0 j n;split at hv
     ·rename_i hc;obtain⟨c0,c2,c3⟩:=hc;split at hv
      ·rename_i d0 hd0;rw[Option.map_eq_some_iff]at hv;obtain⟨d',hset,hv⟩:=hv;obtain⟨p,off',cap,hp,hoff,hn,hcap,hvx⟩:=hx.wO;obtain⟨p',hp',hpz',hpt,hpb,hh⟩:=h.box t (by rw[c3];decide);rw[c2,hp]at hp';injection hp' with hp';subst hp';have hrp:ρ t (bx t).ep=some p:=by rw[c2];exact hp
       have hl:(ys.take n).length=min ys.length n:=by simp[Nat.min_comm]
       by_cases hm:min ys.length n=0
       ·refine none_ _ n cap hvx hm ?_;rw[<-hv,hm];have:ys.take n=[]:=List.eq_nil_of_length_eq_zero oM;rw[this]at hset
        congr 1
        have hd:d'=d0:=by
         unfold dz at hset;split at hset
         ·split at hset
          ·injection hset with hset;rw[<-hset];simp
          ·cases hset
         ·cases hset
        subst hd;funext s;simp only[ao];split
        ·rename_i hs;rw[hs];have:(bx t).es.set i0 d'=(bx t).es:=by
          obtain⟨h1,h2⟩:=List.getElem?_eq_some_iff.1 hd0;rw[<-h2];simp
         rw[this]
        ·rfl
       ·have hdy:aE w (ay X ρ bx w) ρ (.agg (ys.take n)) (.agg ((List.range (min ys.length n)).map fun i=>us i 0).toArray):=by
         refine .agg (by simp[Nat.min_comm]) fun i d v hi hv'=>?_;have:=hyr n i d hi;have hi':=(List.getElem?_eq_some_iff.1 hi).1;rw[List.getElem?_toArray,List.getElem?_map,List.getElem?_range oM]at hv';simp only[Option.map_some,Option.some.injEq]at hv';rw[<-hv'];exact this.2.1
        obtain⟨cur,hcur,hroom,hall,hh'⟩:=xI (dy:=.agg (ys.take n)) hh (fun b hb e=>hb.2.2 t c3 p hrp e.symm) hd0 hset (List.all_eq_true.2 fun d hd=>List.all_eq_true.1 hone d (List.mem_of_mem_take hd)) hdy;have ho:=hoff oM;have hcl:(Value.agg ((List.range (min ys.length n)).map fun i=>us i 0).toArray).cells=((List.range (min ys.length n)).map fun i=>us i 0).toArray:=rfl;rw[hcl]at hroom hh';have hr:=rows p off' n cap (min ys.length n) cur rfl oM hvx hcur (by rw[ho];simpa using hroom);refine⟨_,by rw[<-hv];exact hr,?_⟩;rw[<-hv,ho];have he:(cur.toList.take (i0 * p.sz+j)++(List.range (min ys.length n)).map (fun i=>us i 0)++cur.toList.drop (i0 * p.sz+j+min ys.length n)).toArray=putRow cur (i0 * p.sz+j) ((List.range (min ys.length n)).map fun i=>us i 0).toArray:=by unfold putRow;simp
        rw[he];exact h.stored (Nat.le_trans hlo c0) c3 hrp ⟨rfl,rfl,rfl,by simp[World.setRow],fun k _ hk=>setRow_other w p.b k _ hk⟩ hh'
      ·cases hv
     ·cases hv
    ·cases hv
   ·cases hv
  ·cases hv
 ·cases hv
end Go.V
namespace Go.V
open Go.RowKit
def bG(w:World)(S:Nat->Prop)(d:D)(v:Value)(w':World):Prop:=
 ba w' (fun b=>S b\/(w.heap.size<=b/\b<w'.heap.size)) d v/\Below w.heap.size w w'
def aq(P:Program)(f:FuncId)(ds:List D)(d:D):Prop:=
 ∀(w:World) (S:Nat->Prop) (vs:Array Value),(∀b,S b->b<w.heap.size)->ba w S .glo undef->vs.size=ds.length->(∀(i:Nat) x v,ds[i]? =some x->vs[i]? =some v->ba w S x v)->
  ((callFunc f vs).run P w= .ok (.enter f vs) w/\Calls P f vs w (fun e w'=>∃v,e= .returned v/\bG w S d v w'))\/
  (∃v w',(callFunc f vs).run P w= .ok (.value v) w'/\bG w S d v w')
variable {P:Program} {C:Calc} {X:Ctx} {ρ:bN} {σ:Env} {bx:ae} {a:Act} {w:World}
theorem mj:∀(ds:List D),D.yG ds=true->∀(i:Nat) d,ds[i]? =some d->d.bare=true
 |[],_,i,d,hd=>by simp at hd
 |x::xs,hp,i,d,hd=>by
  simp only[D.yG,Bool.and_eq_true]at hp;cases i with
  |zero=>simp at hd;subst hd;exact hp.1
  |succ i=>exact mj xs hp.2 i d (by simpa using hd)
theorem o6(ds:List D)(hp:D.aF ds=true)(i:Nat)(d:D)(hd:ds[i]? =some d):d.pure=true:=ow ds hp d (List.mem_of_getElem? hd)
theorem ba.bare{w w':World}{S S':Nat->Prop}{d:D}{v:Value}(h:ba w S d v)(hb:d.bare=true):ba w' S' d v:=by
 induction h with
 |undef v=>simp[D.bare]at hb
 |any ds v=>exact .any ds v
 |glo=>simp[D.bare]at hb
 |int k n=>exact .int k n
 |bool b=>exact .bool b
 |abool b=>exact .abool b
 |str l=>exact .str l
 |raw x=>exact .raw x
 |nilsl=>exact .nilsl
 |agg hl _ ih=>exact .agg hl fun i d v hd hv=>ih i d v hd hv (mj _ (by simpa only[D.bare]using hb) i d hd)
 |tup hl _ ih=>exact .tup hl fun i d v hd hv=>ih i d v hd hv (mj _ (by simpa only[D.bare]using hb) i d hd)
 |sl=>simp[D.bare]at hb
 |cref=>simp[D.bare]at hb
 |clp=>simp[D.bare]at hb
 |fn hl _ ih=>exact .fn hl fun i d v hd hv=>ih i d v hd hv (mj _ (by simpa only[D.bare]using hb) i d hd)
 |bfn hl _ ih=>exact .bfn hl fun i d v hd hv=>ih i d v hd hv (mj _ (by simpa only[D.bare]using hb) i d hd)
 |ifc _ ih=>exact .ifc (ih (by simpa only[D.bare]using hb))
mutual
def names:D->List Nat
 | .loc t _ _ _| .osl t _ _ _ _| .csl t _ _ _ _=>[t]
 | .agg ds| .tup ds| .fn _ ds| .bfn _ ds=>bq ds
 | .ifc _ d=>names d
 |_=>[]
def bq:List D->List Nat
 |[]=>[]
 |d::ds=>names d++bq ds
end
def ru(b:Bx):Bx:={b with k:=if b.k=1 then 2 else b.k}
theorem JE(b:Bx):ru (ru b)=ru b:=by
 unfold ru;by_cases h:b.k=1<;>simp[h]
mutual
theorem Cm(bx:ae)(t:Nat):∀d:D,cY bx d t=if t∈names d then ru (bx t)else bx t
 | .loc s _ _ _=>by simp only[cY,names,ao,List.mem_singleton];split<;>simp_all[ru]
 | .osl s _ _ _ _=>by simp only[cY,names,ao,List.mem_singleton];split<;>simp_all[ru]
 | .csl s _ _ _ _=>by simp only[cY,names,ao,List.mem_singleton];split<;>simp_all[ru]
 | .clp _ _=>by simp[cY,names]
 | .agg ds=>by simp only[cY,names];exact dI bx t ds
 | .tup ds=>by simp only[cY,names];exact dI bx t ds
 | .fn f ds=>by simp only[cY,names];exact dI bx t ds
 | .bfn f ds=>by simp only[cY,names];exact dI bx t ds
 | .ifc _ d=>by simp only[cY,names];exact Cm bx t d
 | .undef=>by simp[cY,names]
 | .any _=>by simp[cY,names]
 | .glo=>by simp[cY,names]
 | .abool=>by simp[cY,names]
 | .int _ _=>by simp[cY,names]
 | .bool _=>by simp[cY,names]
 | .str _=>by simp[cY,names]
 | .raw _=>by simp[cY,names]
 | .nilsl=>by simp[cY,names]
 | .sl _ _=>by simp[cY,names]
 | .cref _ _=>by simp[cY,names]
 | .omap _ _=>by simp[cY,names]
theorem dI(bx:ae)(t:Nat):∀ds:List D,cv bx ds t=if t∈bq ds then ru (bx t)else bx t
 |[]=>by simp[cv,bq]
 |d::ds=>by
  simp only[cv,bq,List.mem_append];rw[dI (cY bx d) t ds,Cm bx t d];by_cases h1:t∈names d<;>by_cases h2:t∈bq ds<;>simp[h1,h2,JE]
end
theorem ba.ig{S S':Nat->Prop}{d:D}{v:Value}(h:ba w S d v)(hS:∀b,S b->S' b):ba w S' d v:=h.mono (fun _ _=>rfl) hS
theorem aE.wP{S:Nat->Prop}{t:TypeId}{d:D}{v:Value}(h:aE w S ρ (.ifc t d) v):∃u,v= .iface t u/\aE w S ρ d u:=by
 cases h with
 |pure h=>cases h with|ifc h=>exact⟨_,rfl,.pure h⟩
 |ifc h=>exact⟨_,rfl,h⟩
theorem kJ{x:Option D}{xs:Option (List D)}{r:List D}(h:iB x xs=some r):∃y ys,x=some y/\xs=some ys/\r=y::ys:=by
 cases x<;>cases xs<;>simp[iB]at h;exact⟨_,_,rfl,rfl,h.symm⟩
def sV(X:Ctx)(ρ:bN)(bx:ae)(w:World)(S':Nat->Prop)(ns:List Nat):Prop:=
 (∀b,ay X ρ bx w b->S' b)/\∀t∈ns,lv (bx t).k->∀p,ρ t (bx t).ep=some p->S' p.b
theorem Ep(d:D):d.xj.cells=d.cells.map D.pt:=by
 have key:∀c:D,c.cells=[c]->(D.pt c).cells=[D.pt c]:=by
  intro c h;unfold D.pt;split
  ·exact h
  ·rfl
 cases d with
 |agg ds=>rfl
 |_=>exact key _ rfl
mutual
theorem jO(h:az X ρ σ bx a w){S':Nat->Prop}:∀(d d':D) (v:Value),sV X ρ bx w S' (names d)->aE w (ay X ρ bx w) ρ d v->bf bx d=some d'->ba w S' d' v
 | .loc t e i j,d',v,hS,hr,ho=>by
   simp only[bf]at ho;split at ho
   ·rename_i hc;obtain⟨he,hk⟩:=hc;split at ho
    ·rename_i d hd;split at ho
     ·rename_i hp;injection ho with ho;subst ho;obtain⟨p,hp1,rfl⟩:=hr.iq;obtain⟨p',hp',hpz,hpt,hpb,hh⟩:=h.box t hk;rw[he,hp1]at hp';injection hp' with hp';subst hp';obtain⟨⟨cur,hcur,hcs,us,hus⟩,hlc,hmx,hsz⟩:=hh;refine .cref (off:=i * p.sz) (us:=us i) (hS.2 t (by simp[names]) hk p (by rw[he];exact hp1)) rfl (fun m c hm=>?_) (fun m c hm=>(hus i d m c hd hm).2.2) (fun m c hm=>?_)
      ·simp[World.cell?,hcur,(hus i d m c hd hm).1]
      ·exact((hus i d m c hd hm).2.1.dK (nr hp c (List.mem_of_getElem? hm))).ig hS.1
     ·injection ho with ho;subst ho;obtain⟨p,hp1,rfl⟩:=hr.iq;obtain⟨p',hp',hpz,hpt,hpb,hh⟩:=h.box t hk;rw[he,hp1]at hp';injection hp' with hp';subst hp';obtain⟨⟨cur,hcur,hcs,us,hus⟩,hlc,hmx,hsz⟩:=hh;have hcell:∀(m:Nat) c',d.xj.cells[m]? =some c'->∃c,d.cells[m]? =some c/\c'=D.pt c:=fun m c' hm=>by
       rw[Ep,List.getElem?_map,Option.map_eq_some_iff]at hm;obtain⟨c,h1,h2⟩:=hm;exact⟨c,h1,h2.symm⟩
      refine .cref (off:=i * p.sz) (us:=us i) (hS.2 t (by simp[names]) hk p (by rw[he];exact hp1)) rfl (fun m c' hm=>?_) (fun m c' hm=>?_) (fun m c' hm=>?_)
      ·obtain⟨c,hc,_⟩:=hcell m c' hm;simp[World.cell?,hcur,(hus i d m c hd hc).1]
      ·obtain⟨c,hc,_⟩:=hcell m c' hm;exact(hus i d m c hd hc).2.2
      ·obtain⟨c,hc,rfl⟩:=hcell m c' hm;unfold D.pt;split
       ·rename_i hpc;exact((hus i d m c hd hc).2.1.dK hpc).ig hS.1
       ·exact .undef _
    ·cases ho
   ·cases ho
 | .osl t e sz o n,d',v,hS,hr,ho=>by
   simp only[bf]at ho;split at ho
   ·rename_i hc;obtain⟨he,hk,hz,hle⟩:=hc;split at ho
    ·rename_i hp;injection ho with ho;subst ho;have hel:ff bx sz (.osl t e sz o n)=some (((bx t).es.drop o).take n):=by unfold ff;exact if_pos ⟨rfl,he,hk,hz,hle⟩
     obtain⟨p,off,cap,hp1,hpz,h0,hoff,hn,hcap,hmax,rfl⟩:=hr.kL;obtain⟨A,c,b,off',us,hv,hA,hyz,hys⟩:=jY h hr hel;injection hv with hv1 hv2 hv3;have hpb:((bx t).es.drop o).take n≠[]->b=p.b:=fun hne=>by
      have:=hA hne;rw[this]at hv1;injection hv1 with hv1;injection hv1 with hv1;exact hv1.symm
     refine .sl (b:=b) (off:=off') (us:=us) hv2 oM oM (fun hne=>⟨hv1.trans (hA hne),?_⟩) hyz (fun i d j c hi hj=>(hys i d j c hi hj).1) (fun i d j c hi hj=>(hys i d j c hi hj).2.2) (fun i d j c hi hj=>?_)
     ·rw[hpb hne];exact hS.2 t (by simp[names]) hk p (by rw[he];exact hp1)
     ·exact((hys i d j c hi hj).2.1.dK (nr (ow _ hp d (List.mem_of_getElem? hi)) c (List.mem_of_getElem? hj))).ig hS.1
    ·cases ho
   ·cases ho
 | .csl t e i j n,d',v,hS,hr,ho=>by
   simp only[bf]at ho;split at ho
   ·rename_i hc;obtain⟨he,hk⟩:=hc;split at ho
    ·rename_i d0 hd0;split at ho
     ·rename_i hc2;obtain⟨hle,hp,ho1⟩:=hc2;injection ho with ho;subst ho;have hel:ff bx 1 (.csl t e i j n)=some ((d0.cells.drop j).take n):=by simp only[ff,he,hk,and_self,if_true,hd0,hle,ho1]
      obtain⟨p,off,cap,hp1,hoff,hn,hcap,rfl⟩:=hr.wO;obtain⟨A,c,b,off',us,hv,hA,hyz,hys⟩:=jY h hr hel;injection hv with hv1 hv2 hv3;have hm:(65536:Nat)<=maxLen:=by decide
      have hpb:(d0.cells.drop j).take n≠[]->b=p.b:=fun hne=>by
       have:=hA hne;rw[this]at hv1;injection hv1 with hv1;injection hv1 with hv1;exact hv1.symm
      refine .sl (b:=b) (off:=off') (us:=us) hv2 oM oM (fun hne=>⟨hv1.trans (hA hne),?_⟩) hyz (fun i d j c hi hj=>(hys i d j c hi hj).1) (fun i d j c hi hj=>(hys i d j c hi hj).2.2) (fun i d j c hi hj=>?_)
      ·rw[hpb hne];exact hS.2 t (by simp[names]) hk p (by rw[he];exact hp1)
      ·exact((hys i d j c hi hj).2.1.dK (nr (ow _ hp d (List.mem_of_getElem? hi)) c (List.mem_of_getElem? hj))).ig hS.1
     ·cases ho
    ·cases ho
   ·cases ho
 | .clp sz es,d',v,hS,hr,ho=>by simp only[bf,Option.some.injEq]at ho;subst ho;exact(hr.dK rfl).ig hS.1
 | .agg ds,d',v,hS,hr,ho=>by
   simp only[bf,Option.map_eq_some_iff]at ho;obtain⟨ds',ho,rfl⟩:=ho;obtain⟨vs,rfl,hl,hv⟩:=hr.kK;obtain⟨h1,h2⟩:=gN h ds ds' vs.toList (by simpa[names]using hS) (by simpa using hl) (fun i d v hd hv'=>hv i d v hd (by simpa using hv')) ho;exact .agg (hl.trans h1.symm) (fun i d v hd hv'=>h2 i d v hd (by simpa using hv'))
 | .tup ds,d',v,hS,hr,ho=>by
   simp only[bf,Option.map_eq_some_iff]at ho;obtain⟨ds',ho,rfl⟩:=ho;obtain⟨vs,rfl,hl,hv⟩:=hr.Cw;obtain⟨h1,h2⟩:=gN h ds ds' vs.toList (by simpa[names]using hS) (by simpa using hl) (fun i d v hd hv'=>hv i d v hd (by simpa using hv')) ho;exact .tup (hl.trans h1.symm) (fun i d v hd hv'=>h2 i d v hd (by simpa using hv'))
 | .fn f ds,d',v,hS,hr,ho=>by
   simp only[bf,Option.map_eq_some_iff]at ho;obtain⟨ds',ho,rfl⟩:=ho;obtain⟨vs,rfl,hl,hv⟩:=hr.pO;obtain⟨h1,h2⟩:=gN h ds ds' vs.toList (by simpa[names]using hS) (by simpa using hl) (fun i d v hd hv'=>hv i d v hd (by simpa using hv')) ho;exact .fn (hl.trans h1.symm) (fun i d v hd hv'=>h2 i d v hd (by simpa using hv'))
 | .bfn f ds,d',v,hS,hr,ho=>by
   simp only[bf,Option.map_eq_some_iff]at ho;obtain⟨ds',ho,rfl⟩:=ho;obtain⟨vs,rfl,hl,hv⟩:=hr.Cv;obtain⟨h1,h2⟩:=gN h ds ds' vs.toList (by simpa[names]using hS) (by simpa using hl) (fun i d v hd hv'=>hv i d v hd (by simpa using hv')) ho;exact .bfn (hl.trans h1.symm) (fun i d v hd hv'=>h2 i d v hd (by simpa using hv'))
 | .ifc t d,d',v,hS,hr,ho=>by
   simp only[bf,Option.map_eq_some_iff]at ho;obtain⟨d'',ho,rfl⟩:=ho;obtain⟨u,rfl,hu⟩:=hr.wP;exact .ifc (jO h d d'' u (by simpa[names]using hS) hu ho)
 | .undef,d',v,hS,hr,ho=>by simp only[bf,Option.some.injEq]at ho;subst ho;exact .undef v
 | .any l,d',v,hS,hr,ho=>by simp only[bf,Option.some.injEq]at ho;subst ho;exact .any l v
 | .int k n,d',v,hS,hr,ho=>by simp only[bf,Option.some.injEq]at ho;subst ho;exact(hr.dK rfl).ig hS.1
 | .bool b,d',v,hS,hr,ho=>by simp only[bf,Option.some.injEq]at ho;subst ho;exact(hr.dK rfl).ig hS.1
 | .abool,d',v,hS,hr,ho=>by simp only[bf,Option.some.injEq]at ho;subst ho;exact(hr.dK rfl).ig hS.1
 | .str s,d',v,hS,hr,ho=>by simp only[bf,Option.some.injEq]at ho;subst ho;exact(hr.dK rfl).ig hS.1
 | .raw x,d',v,hS,hr,ho=>by simp only[bf,Option.some.injEq]at ho;subst ho;exact(hr.dK rfl).ig hS.1
 | .glo,d',v,hS,hr,ho=>by simp only[bf,Option.some.injEq]at ho;subst ho;exact(hr.dK rfl).ig hS.1
 | .nilsl,d',v,hS,hr,ho=>by simp only[bf,Option.some.injEq]at ho;subst ho;exact(hr.dK rfl).ig hS.1
 | .sl sz es,d',v,hS,hr,ho=>by simp only[bf,Option.some.injEq]at ho;subst ho;exact(hr.dK rfl).ig hS.1
 | .cref d j,d',v,hS,hr,ho=>by simp only[bf,Option.some.injEq]at ho;subst ho;exact(hr.dK rfl).ig hS.1
theorem gN(h:az X ρ σ bx a w){S':Nat->Prop}:∀(ds ds':List D) (vs:List Value),sV X ρ bx w S' (bq ds)->vs.length=ds.length->(∀(i:Nat) d v,ds[i]? =some d->vs[i]? =some v->aE w (ay X ρ bx w) ρ d v)->cg bx ds=some ds'->
 ds'.length=ds.length/\∀(i:Nat) d v,ds'[i]? =some d->vs[i]? =some v->ba w S' d v
 |[],ds',vs,hS,hl,hv,ho=>by
  simp only[cg,Option.some.injEq]at ho;subst ho;exact⟨rfl,fun i d v hd=>by simp at hd⟩
 |d::ds,ds',vs,hS,hl,hv,ho=>by
  simp only[cg]at ho;obtain⟨y,ys,h1,h2,rfl⟩:=kJ ho;cases vs with
  |nil=>simp at hl
  |cons v vs=>
   simp only[bq]at hS;have hSd:sV X ρ bx w S' (names d):=⟨hS.1,fun t ht=>hS.2 t (List.mem_append_left _ ht)⟩
   have hSl:sV X ρ bx w S' (bq ds):=⟨hS.1,fun t ht=>hS.2 t (List.mem_append_right _ ht)⟩
   obtain⟨g1,g2⟩:=gN h ds ys vs hSl (by simpa using hl) (fun i d' v' hd hv'=>hv (i+1) d' v' (by simpa using hd) (by simpa using hv')) h2;refine⟨by simp[g1],fun i d' v' hd hv'=>?_⟩;cases i with
   |zero=>
    simp only[List.getElem?_cons_zero,Option.some.injEq]at hd hv';subst hd;subst hv';exact jO h d y v hSd (hv 0 d v sI sI) h1
   |succ i=>exact g2 i d' v' (by simpa using hd) (by simpa using hv')
end
theorem az.LM{w':World}(h:az X ρ σ bx a w){d:D}{v:Value}(hp:bG w (ay X ρ bx w) d v w'):az X ρ σ bx a w'/\aE w' (ay X ρ bx w') ρ d v:=by
 refine⟨h.ext hp.2,.pure (hp.1.ig fun b hb=>?_)⟩;rcases hb with hb|⟨h1,h2⟩
 ·exact⟨Nat.lt_of_lt_of_le hb.1 hp.2.size,hb.2⟩
 ·refine⟨h2,.inr (Nat.le_trans (Nat.le_trans h.nb h.fr.size) h1),fun t hk p hp'=>?_⟩;obtain⟨p',hp'',_,_,_,hh⟩:=h.box t (by rw[hk];decide);rw[hp']at hp'';injection hp'' with hp'';subst hp'';have:=hh.lt;omega
theorem nf(h:az X ρ σ bx a w)(ds:List D):sV X ρ bx w (ay X ρ (cv bx ds) w) (bq ds):=by
 have hfk:∀t,(cv bx ds t).k=1->(bx t).k=1/\t∉bq ds/\(cv bx ds t).ep=(bx t).ep:=by
  intro t ht;rw[dI]at ht⊢;by_cases hn:t∈bq ds
  ·simp only[hn,if_true,ru]at ht⊢;split at ht<;>simp_all
  ·simp only[hn,if_false]at ht⊢;exact⟨ht,not_false,trivial⟩
 refine⟨fun b hb=>⟨hb.1,hb.2.1,fun t ht p hp=>?_⟩,fun t ht hk p hp=>?_⟩
 ·obtain⟨h1,_,h3⟩:=hfk t ht;rw[h3]at hp;exact hb.2.2 t h1 p hp
 ·obtain⟨p',hp',_,_,hpb,hh⟩:=h.box t hk;rw[hp]at hp';injection hp' with hp';subst hp';refine⟨hh.lt,.inr hpb.1,fun s hs q hq=>?_⟩;obtain⟨h1,h2,h3⟩:=hfk s hs;rw[h3]at hq;exact h.inj s t q p h1 hk (fun e=>h2 (e▸ht)) hq hp
theorem az.Ck(h:az X ρ σ bx a w)(ds:List D)(hlo:∀s∈bq ds,X.lo<=s):az X ρ σ (cv bx ds) a w:=by
 refine h.less fun s=>?_;rw[dI];by_cases hn:s∈bq ds
 ·right;simp only[hn,if_true,ru];refine⟨hlo s hn,?_,?_⟩
  ·split<;>simp_all
  ·refine⟨trivial,fun hk=>⟨?_,trivial,trivial,trivial⟩,fun hk=>⟨?_,trivial⟩⟩
   ·split at hk
    ·rename_i h1;rw[h1,Mo];trivial
    ·exact hk
   ·split at hk
    ·cases hk
    ·exact hk
 ·left;simp only[hn,if_false]
theorem az.frozen(h:az X ρ σ bx a w)(hlo:X.lo=0)(ds:List D):az X ρ σ (cv bx ds) a w:=h.Ck ds fun s _=>by omega
theorem qO{d:D}(h:d.pure=true):names d=[]:=by
 have hL:∀ds:List D,(∀d∈ds,d.pure=true->names d=[])->D.aF ds=true->bq ds=[]:=by
  intro ds;induction ds with
  |nil=>intros;rfl
  |cons x xs ih=>
   intro h1 h2;simp only[D.aF,Bool.and_eq_true]at h2;simp only[bq,h1 x (List.mem_cons_self ..) h2.1,ih (fun d hd=>h1 d (List.mem_cons_of_mem _ hd)) h2.2,List.append_nil]
 match d with
 | .agg ds| .tup ds| .fn _ ds| .bfn _ ds=>simp only[names];exact hL ds (fun d hd hp=>qO hp) (by simpa only[D.pure]using h)
 | .ifc _ d=>simp only[names];exact qO (by simpa only[D.pure]using h)
 | .loc ..| .osl ..| .csl ..| .omap ..=>simp[D.pure]at h
 | .int ..| .bool _| .str _| .raw _| .nilsl| .sl ..| .clp ..| .cref ..| .undef| .glo| .any _| .abool=>simp[names]
theorem ot:∀(ds ds':List D),cg bx ds=some ds'->ds'.length=ds.length/\∀(i:Nat) d',ds'[i]? =some d'->∃d,ds[i]? =some d/\bf bx d=some d'
 |[],ds',h=>by simp only[cg,Option.some.injEq]at h;subst h;simp
 |d::ds,ds',h=>by
  simp only[cg]at h;obtain⟨y,ys,h1,h2,rfl⟩:=kJ h;obtain⟨g1,g2⟩:=ot ds ys h2;refine⟨by simp[g1],fun i d' hd=>?_⟩;cases i with
  |zero=>simp at hd;subst hd;exact⟨d,by simp,h1⟩
  |succ i=>simpa using g2 i d' (by simpa using hd)
theorem vN{d d':D}(h:bf bx d=some d'):d'.cells.length=d.cells.length/\∀(j:Nat) c',d'.cells[j]? =some c'->∃c,d.cells[j]? =some c/\bf bx c=some c':=by
 have single:d.cells=[d]->d'.cells=[d']->d'.cells.length=d.cells.length/\∀(j:Nat) c',d'.cells[j]? =some c'->∃c,d.cells[j]? =some c/\bf bx c=some c':=by
  intro h1 h2;rw[h1,h2];refine⟨rfl,fun j c' hj=>?_⟩;cases j with
  |zero=>simp at hj;subst hj;exact⟨d,rfl,h⟩
  |succ j=>simp at hj
 cases d with
 |agg ds=>
  simp only[bf,Option.map_eq_some_iff]at h;obtain⟨es,he,rfl⟩:=h;exact ot ds es he
 |loc t e i j=>
  refine single rfl ?_;simp only[bf]at h;split at h
  ·split at h
   ·split at h<;>(injection h with h;subst h;rfl)
   ·cases h
  ·cases h
 |osl t e sz o n=>
  refine single rfl ?_;simp only[bf]at h;split at h
  ·split at h
   ·injection h with h;subst h;rfl
   ·cases h
  ·cases h
 |csl t e i j n=>
  refine single rfl ?_;simp only[bf]at h;split at h
  ·split at h
   ·split at h
    ·injection h with h;subst h;rfl
    ·cases h
   ·cases h
  ·cases h
 |tup ds=>simp only[bf,Option.map_eq_some_iff]at h;obtain⟨es,he,rfl⟩:=h;exact single rfl rfl
 |fn f ds=>simp only[bf,Option.map_eq_some_iff]at h;obtain⟨es,he,rfl⟩:=h;exact single rfl rfl
 |bfn f ds=>simp only[bf,Option.map_eq_some_iff]at h;obtain⟨es,he,rfl⟩:=h;exact single rfl rfl
 |ifc t d=>simp only[bf,Option.map_eq_some_iff]at h;obtain⟨es,he,rfl⟩:=h;exact single rfl rfl
 |omap=>cases h
 |_=>injection h with h;subst h;exact single rfl rfl
theorem BG(d:D):∀(j:Nat) c,d.cells[j]? =some c->∀t∈names c,t∈names d:=by
 have mem:∀(ds:List D) (j:Nat) c,ds[j]? =some c->∀t∈names c,t∈bq ds:=by
  intro ds;induction ds with
  |nil=>intro j c hj;simp at hj
  |cons x xs ih=>
   intro j c hj t ht;simp only[bq,List.mem_append];cases j with
   |zero=>simp at hj;subst hj;exact .inl ht
   |succ j=>exact .inr (ih j c (by simpa using hj) t ht)
 intro j c hj t ht;cases d with
 |agg ds=>exact mem ds j c hj t ht
 |_=>
  cases j with
  |zero=>simp[D.cells]at hj;subst hj;exact ht
  |succ j=>simp[D.cells]at hj
theorem xS:∀(ds:List D) (j:Nat) c,ds[j]? =some c->∀t∈names c,t∈bq ds
 |[],j,c,hj=>by simp at hj
 |x::xs,j,c,hj=>by
  intro t ht;simp only[bq,List.mem_append];cases j with
  |zero=>simp at hj;subst hj;exact .inl ht
  |succ j=>exact .inr (xS xs j c (by simpa using hj) t ht)
theorem az.FH(h:az X ρ σ bx a w)(hlo:X.lo=0){s:Nat}{es:List D}(hk:(bx s).k=1)(ho:cg bx (bx s).es=some es):az X ρ σ (dF bx s es) a w:=by
 have h1:=h.frozen hlo (bx s).es;have hL:=nf h (bx s).es;have hne:∀t,t≠s->dF bx s es t=cv bx (bx s).es t:=fun t ht=>by simp[dF,ao,ht]
 have hat:∀t,(dF bx s es t).k=(cv bx (bx s).es t).k/\(dF bx s es t).ep=(cv bx (bx s).es t).ep/\(dF bx s es t).sz=(cv bx (bx s).es t).sz/\(dF bx s es t).ty=(cv bx (bx s).es t).ty:=fun t=>by
  by_cases ht:t=s
  ·subst ht;simp[dF,ao]
  ·rw[hne t ht];exact⟨rfl,rfl,rfl,rfl⟩
 have hS:ay X ρ (dF bx s es) w=ay X ρ (cv bx (bx s).es) w:=by
  funext b;simp only[ay,(hat _).1,(hat _).2.1]
 have hfs:(cv bx (bx s).es s).ep=(bx s).ep/\(cv bx (bx s).es s).k≠3/\(cv bx (bx s).es s).es=(bx s).es:=by
  rw[dI];split
  ·simp[ru,hk]
  ·simp[hk]
 obtain⟨gl,gg⟩:=ot _ _ ho;refine⟨h1.fr,h1.s0,h1.nb,h1.mb,h1.ec,h1.size,by rw[hS];exact h1.marks,h1.nle,h1.mkb,fun t=>by rw[hS];exact h1.tmps t,by rw[hS];exact h1.glo,fun t ht=>?_,fun t t' p p' ht ht' hn hp hp'=>?_,fun t e p hp=>by rw[(hat t).2.1];exact h1.eps t e p hp,h1.r0,h1.hold,h1.holds0,h1.yc,h1.y0 hlo _ _,h1.y0,h1.h0lt,h1.maps.of (fun t ht=>?_) (fun _ _ _ h=>h) (fun _ _ _ _ _ h=>h) (fun _ h=>h)⟩
 ·rw[(hat t).1]at ht;obtain⟨p,hp,h2,h3,h4,h5⟩:=h1.box t ht;refine⟨p,by rw[(hat t).2.1];exact hp,by rw[(hat t).2.2.1];exact h2,by rw[(hat t).2.2.2];exact h3,by rw[(hat t).1];exact h4,?_⟩;rw[hS];by_cases hts:t=s
  ·subst hts;have e:(dF bx t es t).es=es:=by simp[dF,ao]
   rw[e];obtain⟨q,hq,_,_,_,hh⟩:=h.box t (by rw[hk];decide);rw[hfs.1]at hp;rw[hp]at hq;injection hq with hq;subst hq;obtain⟨⟨cur,hcur,hcs,us,hus⟩,hlc,hmx,hsz⟩:=hh;refine⟨⟨cur,hcur,hcs,us,fun i d' j c' hi hj=>?_⟩,by rw[gl];exact hlc,hmx,fun i d' hi=>?_⟩
   ·obtain⟨d,hd,hod⟩:=gg i d' hi;obtain⟨c,hc,hoc⟩:=(vN hod).2 j c' hj;obtain⟨u1,u2,u3⟩:=hus i d j c hd hc;refine⟨u1,.pure (jO h c c' _ ⟨hL.1,fun t' ht'=>hL.2 t' (xS _ _ _ hd t' (BG d j c hc t' ht'))⟩ u2 hoc),u3⟩
   ·obtain⟨d,hd,hod⟩:=gg i d' hi;rw[(vN hod).1];exact hsz i d hd
  ·rw[hne t hts];exact h5
 ·rw[(hat t).1]at ht;rw[(hat t').1]at ht';rw[(hat t).2.1]at hp;rw[(hat t').2.1]at hp';exact h1.inj t t' p p' ht ht' hn hp hp'
 ·have hts:t≠s:=by
   rintro rfl;rw[(hat t).1]at ht;exact hfs.2.1 ht
  rw[hne t hts]at ht⊢;exact⟨ht,rfl,rfl⟩
theorem Dq(h:az X ρ σ bx a w){lo t:Nat}(hlo:X.lo<=lo){s:Env×ae}(hf:pB lo t σ bx=some s):az X ρ s.1 s.2 a w:=by
 unfold pB at hf;split at hf
 ·rename_i hc;rw[Option.map_eq_some_iff]at hf;obtain⟨v,ho,rfl⟩:=hf;have hn:∀s∈bq [σ t],X.lo<=s:=fun s hs=>by
   simp only[bq,List.append_nil]at hs;rcases hc.2 with h0|h0
   ·omega
   ·unfold HG at h0;split at h0
    ·rename_i e;rw[e]at hs;simp only[names,List.mem_singleton]at hs;subst hs;exact Nat.le_trans hlo (of_decide_eq_true h0)
    ·rename_i e;rw[e]at hs;simp only[names,List.mem_singleton]at hs;subst hs;exact Nat.le_trans hlo (of_decide_eq_true h0)
    ·rename_i e;rw[e]at hs;simp only[names,List.mem_singleton]at hs;subst hs;exact Nat.le_trans hlo (of_decide_eq_true h0)
    ·rw[qO h0]at hs;cases hs
  have h1:=h.Ck [σ t] hn;have hL:=nf h [σ t];have e1:cv bx [σ t]=cY bx (σ t):=by simp[cv]
  rw[e1]at h1 hL;simp only[bq,List.append_nil]at hL;have hd:cB≠t:=by have:=hc.1;omega
  refine {h1 with marks:= ?_,tmps:=fun x=>?_}
  ·have:=h1.marks;simpa only[ao,if_neg hd]using this
  ·simp only[ao];split
   ·rename_i hx;subst hx;exact .pure (jO h (σ x) v _ hL (h.tmps x) ho)
   ·exact h1.tmps x
 ·split at hf
  ·rename_i hc;rw[Option.map_eq_some_iff]at hf;obtain⟨es,ho,rfl⟩:=hf;exact h.FH oM hc.2.2 ho
  ·cases hf
theorem tH{lo:Nat}(hlo:X.lo<=lo):∀(ts:List Nat) {σ:Env} {bx:ae} {s:Env×ae},az X ρ σ bx a w->lY lo ts σ bx=some s->az X ρ s.1 s.2 a w
 |[],σ,bx,s,h,hf=>by simp only[lY,Option.some.injEq]at hf;subst hf;exact h
 |t::ts,σ,bx,s,h,hf=>by
  simp only[lY,Option.bind_eq_some_iff]at hf;obtain⟨s1,h1,h2⟩:=hf;exact tH hlo ts (Dq h hlo h1) h2
theorem Calls.mono{f:FuncId}{args:Array Value}{R R':Ending->World->Prop}(h:Calls P f args w R)(hr:∀e w',R e w'->R' e w'):Calls P f args w R':=
 fun cs=>let ⟨e,w',fr,r,rest⟩:=h cs;⟨e,w',fr,hr _ _ r,rest⟩
def wA(P:Program)(f:FuncId)(vs:Array Value)(w:World)(G:Value->World->Prop):Prop:=
 ((callFunc f vs).run P w= .ok (.enter f vs) w/\Calls P f vs w (fun e w'=>∃v,e= .returned v/\G v w'))\/
 (∃v w',(callFunc f vs).run P w= .ok (.value v) w'/\G v w')
def pe(v:Value):PanicEntry:={v,recovered:=false}
def kk(P:Program)(f:FuncId)(vs:Array Value)(w:World)(G Gp:Value->World->Prop):Prop:=
 ((callFunc f vs).run P w= .ok (.enter f vs) w/\Calls P f vs w (fun e w'=>(∃v,e= .returned v/\G v w')\/∃v,e= .panicked [pe v]/\Gp v w'))\/
 (∃v w',(callFunc f vs).run P w= .ok (.value v) w'/\G v w')
theorem wA.dK{f:FuncId}{vs:Array Value}{G Gp:Value->World->Prop}(h:wA P f vs w G):kk P f vs w G Gp:=by
 rcases h with⟨h1,h2⟩|h
 ·exact .inl ⟨h1,Calls.mono h2 fun e w' h=> .inl h⟩
 ·exact .inr h
theorem kk.mono{f:FuncId}{vs:Array Value}{G Gp G' Gp':Value->World->Prop}(h:kk P f vs w G Gp)(h1:∀v w',G v w'->G' v w')(h2:∀v w',Gp v w'->Gp' v w'):kk P f vs w G' Gp':=by
 rcases h with⟨k1,k2⟩|⟨v,w',k1,k2⟩
 ·refine .inl ⟨k1,Calls.mono k2 fun e w' h=>?_⟩;rcases h with⟨v,he,hg⟩|⟨v,he,hg⟩
  ·exact .inl ⟨v,he,h1 _ _ hg⟩
  ·exact .inr ⟨v,he,h2 _ _ hg⟩
 ·exact .inr ⟨v,w',k1,h1 _ _ k2⟩
theorem aq.carried{f:FuncId}{ds:List D}{d:D}(h:aq P f ds d){S:Nat->Prop}{vs:Array Value}{G:Value->World->Prop}(hS:∀b,S b->b<w.heap.size)(hg:ba w S .glo undef)(hl:vs.size=ds.length)
 (hv:∀(i:Nat) x v,ds[i]? =some x->vs[i]? =some v->ba w S x v) (hG:∀v w',bG w S d v w'->G v w'):wA P f vs w G:=by
 rcases h w S vs hS hg hl hv with⟨h1,h2⟩|⟨v,w',h1,h2⟩
 ·exact .inl ⟨h1,Calls.mono h2 fun e w' ⟨v,he,hp⟩=>⟨v,he,hG v w' hp⟩⟩
 ·exact .inr ⟨v,w',h1,hG v w' h2⟩
def aU(P:Program)(f:FuncId)(base:Nat)(ds:List D)(bx:ae)(Q Qp:D->ae->Prop):Prop:=
 ∀(X:Ctx) (ρ:bN) (σ:Env) (a:Act) (w:World) (vs:Array Value),az X ρ σ bx a w->X.lo=0->vs.size=ds.length->(∀(i:Nat) x v,ds[i]? =some x->vs[i]? =some v->aE w (ay X ρ bx w) ρ x v)->
  kk P f vs w (fun v w'=>∃d bx' ρ',Q d bx'/\az X ρ' σ bx' a w'/\aE w' (ay X ρ' bx' w') ρ' d v) (fun v w'=>∃d bx' ρ',Qp d bx'/\az X ρ' σ bx' a w'/\aE w' (ay X ρ' bx' w') ρ' d v)
def wE(P:Program)(X:Ctx)(l:Nat)(rc:Loop)(base ext:Nat)(items:List (List D))(J:Nat->ae->Prop)(Jx:Code->ae->Prop)(σ:Env)(a:Act):Prop:=
 ∀(n:Nat) (it:List D) (ρ:bN) (bx:ae) (w:World) (us:Array Value),items[n]? =some it->az X ρ σ bx a w->ρ.hold l=some (.loop rc)->J n (bp base bx)->us.size=it.length->
  (∀(i:Nat) x v,it[i]? =some x->us[i]? =some v->ba w (ay X ρ bx w) x v)->
  ∃f tm as bd,(Instr.yield l us).run P w= .ok (.round l f tm as bd) w/\∀m,RoundIn Fence.wide m P l f tm as bd w fun e w2=>∃ρ2 bx2 b,e= .returned (.bool b)/\(∀s,base<=s->s<base+ext->bx2 s=bx s)/\
   (∀(X1:Ctx) (σ1:Env) (a1:Act),X1.S0=X.S0->X1.n0=X.n0->X1.E l->az X1 ρ σ1 bx a1 w->X1.Y (bp X1.lo bx2) ρ2.hold->az X1 ρ2 σ1 bx2 a1 w2)/\
   (∀k o,k≠l->ρ.hold k=some o->Obj.xJ o=false->ρ2.hold k=some o)/\
   ((b=true/\ρ2.hold l=some (.loop rc)/\J (n+1) (bp base bx2))\/(b=false/\∃jump,ρ2.hold l=some (.loop {rc with state:=.done,pending:=some jump})/\Jx jump (bp base bx2)))
def rH(P:Program)(f:FuncId)(caps:List D)(items:List (List D))(ext:Nat):Prop:=
 ∀(X:Ctx) (ρ:bN) (σ:Env) (bx:ae) (a:Act) (w:World) (l base:Nat) (rc:Loop) (vs:Array Value) (J:Nat->ae->Prop) (Jx:Code->ae->Prop),az X ρ σ bx a w->X.lo=0->ρ.hold l=some (.loop rc)->(X.w0.heap.size<=l)->X.r0.hold l=none->
  vs.size=caps.length->(∀(i:Nat) x v,caps[i]? =some x->vs[i]? =some v->ba w (ay X ρ bx w) x v)->J 0 (bp base bx)->wE P X l rc base ext items J Jx σ a->
  (callFunc f (#[.func (.yield l) #[] #[]]++vs)).run P w= .ok (.enter f (#[.func (.yield l) #[] #[]]++vs)) w/\
  Calls P f (#[.func (.yield l) #[] #[]]++vs) w fun e w'=>∃v ρ' bx',e= .returned v/\az X ρ' σ bx' a w'/\
   ((ρ'.hold l=some (.loop rc)/\J items.length (bp base bx'))\/∃jump,ρ'.hold l=some (.loop {rc with state:=.done,pending:=some jump})/\Jx jump (bp base bx'))
def sU(P:Program)(f:FuncId)(b:Bx)(items:List (List D))(pd:Option D)(ext:Nat):Prop:=
 ∀(X:Ctx) (ρ:bN) (σ:Env) (bx:ae) (a:Act) (w:World) (l base e:Nat) (rc:Loop) (u:Value) (J:Nat->ae->Prop) (Jx:Code->ae->Prop),az X ρ σ bx a w->X.lo=0->ρ.hold l=some (.loop rc)->(X.w0.heap.size<=l)->X.r0.hold l=none->
  bx (base+1)=⟨e,1,b.sz,b.ty,b.es⟩->aE w (ay X ρ bx w) ρ (.loc (base+1) e 0 0) u->J 0 (bp base bx)->wE P X l rc base ext items J Jx σ a->
  (callFunc f #[.func (.yield l) #[] #[],u]).run P w= .ok (.enter f #[.func (.yield l) #[] #[],u]) w/\
  Calls P f #[.func (.yield l) #[] #[],u] w fun e w'=>(∃v ρ' bx',e= .returned v/\az X ρ' σ bx' a w'/\
   ((pd=none/\ρ'.hold l=some (.loop rc)/\J items.length (bp base bx'))\/∃jump,ρ'.hold l=some (.loop {rc with state:=.done,pending:=some jump})/\Jx jump (bp base bx')))\/
   ∃d v ρ' bx',pd=some d/\e= .panicked [pe v]/\az X ρ' σ bx' a w'/\aE w' (ay X ρ' bx' w') ρ' d v/\J items.length (bp base bx')
structure Ok(P:Program)(O:eF):Prop where
 to:∀f ds d,O.to f ds d->aq P f ds d
 oF:∀f base ds bx Q Qp,O.oF f base ds bx Q Qp->aU P f base ds bx Q Qp
 it:∀f caps items ext,O.it f caps items ext->rH P f caps items ext
 itB:∀f b items pd ext,O.itB f b items pd ext->sU P f b items pd ext
def U5(P:Program)(C:Calc)(X:Ctx):Prop:=∀items gs l,C.yl=some (items,gs,l)->∀(ρ:bN) (σ:Env) (bx:ae) (a:Act) (w:World) (us:Array Value) (ds:List D),az X ρ σ bx a w->items[(bx gs).sz]? =some ds->us.size=ds.length->
 (∀(i:Nat) x v,ds[i]? =some x->us[i]? =some v->ba w (ay X ρ bx w) x v)->
  ∃f tm as bd,(Instr.yield l us).run P w= .ok (.round l f tm as bd) w/\∀m,RoundIn Fence.wide m P l f tm as bd w fun e w2=>∃ρ2 bx1 b,e= .returned (.bool b)/\
   az X ρ2 σ (ao (lQ C.lo C.nxt bx bx1) gs {bx gs with sz:=if b then(bx gs).sz+1 else items.length+1}) a w2
structure Good(P:Program)(C:Calc)(X:Ctx):Prop where
 ok:Ok P C.o
 lo:X.lo<=C.lo
 base:X.lo<=C.base
 yok:U5 P C X
 df:C.df=true->X.md=2
 it:X.md=3->∀f c i e,¬C.o.it f c i e
 itB:X.md=3->∀f b i d e,¬C.o.itB f b i d e
theorem py(h:az X ρ σ bx a w)(hG:Good P C X){f:FuncId}{ds:List D}{vs:Array Value}(hl:vs.size=ds.length)
 (hv:∀(i:Nat) x v,ds[i]? =some x->vs[i]? =some v->aE w (ay X ρ bx w) ρ x v) {K:Cl->D->ae->Prop} (hc:dV C f ds bx K):
 kk P f vs w (fun v w'=>∃c d bx' ρ',(∀x,c≠ .pan x)/\K c d bx'/\az X ρ' σ bx' a w'/\aE w' (ay X ρ' bx' w') ρ' d v) (fun v w'=>∃d bx' ρ',K (.pan d) .undef bx'/\az X ρ' σ bx' a w'/\aE w' (ay X ρ' bx' w') ρ' d v):=by
 have hC:=hG.ok.to;rcases hc with⟨d,hp,hto,hK⟩|⟨ds',d,ho,hto,hb,hK⟩|⟨ds',d,hlo,ho,hto,hK⟩|⟨Q,Qp,hlo,hto,hK,hKp⟩
 ·exact((hC f ds d hto).carried (S:=ay X ρ bx w) (fun b hb=>hb.1) (h.glo.dK rfl) hl (fun i x v hx hv'=>(hv i x v hx hv').dK (o6 _ hp i x hx)) fun v w' hp=>⟨.n,d,bx,ρ,(by intro x;simp),hK,h.LM hp⟩).dK
 ·have hL:sV X ρ bx w (fun b=>b<w.heap.size) (bq ds):=⟨fun b hb=>hb.1,fun t _ hk p hp=>by
   obtain⟨p',hp',_,_,_,hh⟩:=h.box t hk;rw[hp]at hp';injection hp' with hp';subst hp';exact hh.lt⟩
  obtain⟨g1,g2⟩:=gN h ds ds' vs.toList hL (by simpa using hl) (fun i x v hx hv'=>hv i x v hx (by simpa using hv')) ho;exact((hC f ds' d hto).carried (S:=fun b=>b<w.heap.size) (fun b hb=>hb) ((h.glo.dK rfl).mono (fun _ _=>rfl) (fun b hb=>hb.1)) (hl.trans g1.symm) (fun i x v hx hv'=>g2 i x v hx (by simpa using hv')) fun v w' hp=>⟨.ra,d,bx,ρ,(by intro x;simp),hK,h.ext hp.2,.pure (hp.1.bare hb)⟩).dK
 ·have hL:=nf h ds;obtain⟨g1,g2⟩:=gN h ds ds' vs.toList hL (by simpa using hl) (fun i x v hx hv'=>hv i x v hx (by simpa using hv')) ho;exact((hC f ds' d hto).carried (S:=ay X ρ (cv bx ds) w) (fun b hb=>hb.1) ((h.frozen (by have:=hG.lo;omega) ds).glo.dK rfl) (hl.trans g1.symm) (fun i x v hx hv'=>g2 i x v hx (by simpa using hv')) fun v w' hp=>⟨.wa,d,cv bx ds,ρ,(by intro x;simp),hK,(h.frozen (by have:=hG.lo;omega) ds).LM hp⟩).dK
 ·refine(hG.ok.oF _ _ _ _ _ _ hto X ρ σ a w vs h (by have:=hG.lo;omega) hl hv).mono ?_ ?_
  ·rintro v w' ⟨d,bx',ρ',g1,g2⟩;rcases hK d bx' g1 with hk|⟨r,r',e1,e2,hk⟩
   ·exact⟨.wa,d,bx',ρ',(by intro x;simp),hk,g2⟩
   ·obtain⟨g2,g3⟩:=g2;have ho:cg bx' [d]=some [r]:=by simp[cg,e1,iB]
    obtain⟨_,g5⟩:=gN g2 [d] [r] [v] (nf g2 [d]) rfl (fun i x u hx hu=>by
     rcases i with _|i
     ·simp at hx hu;subst hx;subst hu;exact g3
     ·simp at hx) ho
    exact⟨.wa,r',cv bx' [d],ρ',(by intro x;simp),hk,g2.frozen (by have:=hG.lo;omega) [d],.pure (aE.pF e2 (g5 0 r v rfl rfl))⟩
  ·rintro v w' ⟨d,bx',ρ',g1,g2⟩;exact⟨d,bx',ρ',hKp d bx' g1,g2⟩
end Go.V
