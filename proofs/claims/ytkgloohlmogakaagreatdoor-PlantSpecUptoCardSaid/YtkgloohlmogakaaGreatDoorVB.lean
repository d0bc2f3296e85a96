/- Lemmas on plain data and programs: part VB. -/
import Derived.Test.YtkgloohlmogakaaGreatDoorVA
import Derived.Laws.BytesArg
import Derived.Maps.AppendAt
import Derived.Deep.AppendSrc
import Derived.Lib.AppendZerosOnto
import Derived.Laws.CopyRow
import Derived.Laws.IdiomCopy
set_option linter.all false
set_option maxHeartbeats 8000000
namespace Go.V
open Go.RowKit
variable {P:Program} {X:Ctx} {ρ:cM} {σ:Env} {bx:ae} {a:Act} {w:World}
variable {dst:Option Tmp} {ty:TypeId} {pos:String} {af:Array Edge} {g:Option (Nat×Bool)}
theorem GH:∀(vs:List Value) (k off:Nat) (cs:Array Value),(((vs.zipIdx k).foldl (fun(cs:Array Value) (x:Value×Nat)=>cs.setIfInBounds (off+x.2) x.1) cs).size=cs.size)/\
 ∀i,((vs.zipIdx k).foldl (fun(cs:Array Value) (x:Value×Nat)=>cs.setIfInBounds (off+x.2) x.1) cs)[i]? =if off+k<=i/\i<off+k+vs.length/\i<cs.size then vs[i - (off+k)]? else cs[i]?
 |[],k,off,cs=>by
  refine⟨rfl,fun i=>?_⟩;simp only[List.zipIdx_nil,List.foldl_nil,List.length_nil,Nat.add_zero];rw[if_neg oM]
 |v::vs,k,off,cs=>by
  obtain⟨h1,h2⟩:=GH vs (k+1) off (cs.setIfInBounds (off+k) v);simp only[List.zipIdx_cons,List.foldl_cons];refine⟨by rw[h1];simp,fun i=>?_⟩;rw[h2];simp only[Array.size_setIfInBounds,List.length_cons];by_cases hi:i=off+k
  ·subst hi;rw[if_neg oM];by_cases hs:off+k<cs.size
   ·rw[if_pos oM];simp[hs]
   ·rw[if_neg oM];simp[hs]
  ·rw[Array.getElem?_setIfInBounds_ne (Ne.symm hi)];by_cases hc:off+(k+1)<=i/\i<off+(k+1)+vs.length/\i<cs.size
   ·rw[if_pos hc,if_pos oM];have:i - (off+k)=(i - (off+(k+1)))+1:=oM;rw[this,List.getElem?_cons_succ]
   ·rw[if_neg hc,if_neg oM]
def A2(w:World)(S:Nat->Prop)(ρ:cM)(cs:List D)(vs:Array Value):Prop:=vs.size=cs.length/\∀(i:Nat) c u,cs[i]? =some c->vs[i]? =some u->aH w S ρ c u
def PI{S:Nat->Prop}{cs:List D}{vs:Array Value}{d:D}{v:Value}{off:Nat}(h:A2 w S ρ cs vs)(hd:aH w S ρ d v)(h1:d.cells.all D.one=true)(hl:off+d.cells.length<=cs.length):
 v.cells.size=d.cells.length/\A2 w S ρ (cs.take off++d.cells++cs.drop (off+d.cells.length)) (v.cells.zipIdx.foldl (fun(cs:Array Value) (x:Value×Nat)=>cs.setIfInBounds (off+x.2) x.1) vs):=by
 obtain⟨hs,hc⟩:=hd.cells h1;refine⟨hs,?_⟩;have e:v.cells.zipIdx.foldl (fun(cs:Array Value) (x:Value×Nat)=>cs.setIfInBounds (off+x.2) x.1) vs=(v.cells.toList.zipIdx 0).foldl (fun(cs:Array Value) (x:Value×Nat)=>cs.setIfInBounds (off+x.2) x.1) vs:=by rw[<-Array.foldl_toList,Array.toList_zipIdx]
 rw[e];obtain⟨f1,f2⟩:=GH v.cells.toList 0 off vs;refine⟨by rw[f1,h.1];simp;omega,fun i c u hi hu=>?_⟩;rw[f2]at hu;simp only[Nat.add_zero,Array.length_toList,aG]at hu;by_cases ho:i<off
 ·rw[if_neg oM]at hu;rw[List.append_assoc,List.getElem?_append_left (by simp;omega),List.getElem?_take_of_lt ho]at hi;exact h.2 i c u hi hu
 ·by_cases hm:i<off+d.cells.length
  ·have hv:i<vs.size:=by rw[h.1];omega
   rw[if_pos oM]at hu;have pk:(cs.take off).length=off:=by simp;omega
   rw[List.append_assoc,List.getElem?_append_right oM,pk,List.getElem?_append_left oM]at hi;obtain⟨u',gp,hr,_⟩:=hc _ _ hi;rw[gp]at hu;injection hu with hu;subst hu;exact hr
  ·rw[if_neg oM]at hu;have pk:(cs.take off++d.cells).length=off+d.cells.length:=by simp;omega
   rw[List.getElem?_append_right oM,pk,List.getElem?_drop]at hi;have:off+d.cells.length+(i - (off+d.cells.length))=i:=oM;rw[this]at hi;exact h.2 i c u hi hu
theorem sq{S:Nat->Prop}{fs:List (Nat×Nat×Bool)}{places:Nat->Option (Nat×Nat)}(oD:∀(i:Nat) x,fs[i]? =some x->places i=some (x.1,x.2.1)):∀(ps:List (Nat×D)) (AZ:List (Nat×Value)) (cs r:List D) (vs:Array Value),
 jc fs cs ps=some r->ps.length=AZ.length->(∀(i:Nat) p q,ps[i]? =some p->AZ[i]? =some q->p.1=q.1/\aH w S ρ p.2 q.2)->A2 w S ρ cs vs->
 ∃ff,Instr.fill places vs AZ=some ff/\A2 w S ρ r ff
 |[],AZ,cs,r,vs,hb,hl,_,h=>by
  cases AZ with
  |nil=>simp only[jc,sJ]at hb;subst hb;exact⟨vs,rfl,h⟩
  |cons q AZ=>simp at hl
 |(i,d)::ps,AZ,cs,r,vs,hb,hl,hr,h=>by
  cases AZ with
  |nil=>simp at hl
  |cons q AZ=>
  obtain⟨j,v⟩:=q;obtain⟨ph,hd⟩:=hr 0 _ _ rfl rfl;simp only at ph hd;subst ph;simp only[jc]at hb;cases hf:fs[i]? with
  |none=>simp[hf]at hb
  |some f=>
   obtain⟨off,sz,gg⟩:=f;simp only[hf]at hb;split at hb
   ·rename_i hc;obtain⟨h1,h2,h3⟩:=hc;rw[<-h1]at hb h2;obtain⟨g1,g2⟩:=PI h hd h3 h2;obtain⟨ff,k1,k2⟩:=sq oD ps AZ _ r _ hb (by simpa using hl) (fun i p q hp hq=>hr (i+1) p q (by simpa using hp) (by simpa using hq)) g2;refine⟨ff,?_,k2⟩;have hle:¬(v.cells.size≠sz\/off+v.cells.size>vs.size):=by rw[h.1];omega
    simp only[Instr.fill,oD i _ hf];rw[if_neg (by simpa using hle)];exact k1
   ·cases hb
theorem run_places:∀(L:List Field),(∀f∈L,0<cG P f.type)->(L.mapM fun f=>(do pure (f.offset,<-sizeOf f.type):Sem (Nat×Nat))).run P w= .ok (L.map fun f=>(f.offset,cG P f.type)) w
 |[],_=>by simp
 |f::L,h=>by
  have ih:=run_places L (fun f hf=>h f (List.mem_cons_of_mem _ hf));simp only[List.mapM_cons,Sem.run_bind,cW (h f (List.mem_cons_self ..)),Result.andThen_ok,Sem.run_pure,ih,mC]
def KQ{t:TypeId}(h:r9 (an P t) (zeroV P t)=true):(an P t).size=0/\P.underlying t=some (.struct #[])/\∃i z,P.info? t=some i/\i.zero=some z/\xM z= .agg []/\i.size=0:=by
 unfold r9 at h;split at h
 ·rename_i q hk hz;obtain⟨F,hu,xH,_⟩:=pD hk;have hF:F= #[]:=by apply Array.toList_inj.1;simpa using xH
  have h0:(an P t).size=0:=by simpa using h
  refine⟨h0,by rw[hu,hF],?_⟩;unfold zeroV at hz;cases hi:P.info? t with
  |none=>simp[hi]at hz
  |some i=>
   cases h1:i.zero with
   |none=>simp[hi,h1]at hz
   |some z=>
    simp only[hi,h1,Option.bind_some,Option.map_some,sJ]at hz;refine⟨i,z,rfl,h1,hz,?_⟩;simpa[an,cG,hu,hi]using h0
 ·cases h
def N6{z:Value}(h:xM z= .agg []):z.cells= #[]:=by
 have:=Ea (w:=default) (S:=fun _=>False) z;rw[h]at this;cases this with
 |agg hl _=>exact Array.eq_empty_of_size_eq_zero hl
def Ge(h:aA X ρ σ bx a w){t:TypeId}{ps:Array (Nat×Operand)}{d:D}(hv:mc (an P t) (ps.toList.map fun p=>(p.1,ev σ p.2))=some d):Yields P X ρ bx a w ⟨dst,.build t ps,ty,pos,af,g⟩ d:=by
 unfold mc at hv;split at hv
 ·rename_i fs eq hk;split at hv
  ·rename_i hz;obtain⟨F,hu,xH,_⟩:=pD hk;subst xH;rw[mS]at hv;obtain⟨r,hb,rfl⟩:=hv;have hzero:∃z,(zeroValue t).run P w= .ok z w/\(an P t).zero=z.cells.toList.map AP:=by
    have h2:(an P t).zero.length≠0:=oM;simp only[an]at h2⊢;cases hi:P.info? t with
    |none=>simp[hi]at h2
    |some i=>
     cases hz:i.zero with
     |none=>simp[hi,hz]at h2
     |some z=>exact⟨z,by simp[zeroValue,typeInfo,hi,hz,go_sem],by simp[hz]⟩
   obtain⟨z,pt,qn⟩:=hzero;have eI:∀f∈F.toList,0<cG P f.type:=by
    intro f hf;have:=List.all_eq_true.1 hz.2.2 _ (List.mem_map.2 ⟨f,hf,rfl⟩);simpa using this
   have bR:(F.mapM fun f=>(do pure (f.offset,<-sizeOf f.type):Sem (Nat×Nat))).run P w= .ok (F.map fun f=>(f.offset,cG P f.type)) w:=by
    rw[Array.mapM_eq_mapM_toList,Sem.run_map,run_places F.toList eI,Result.andThen_ok]
    congr 1
    apply Array.toList_inj.1;simp
   obtain⟨ff,k1,k2⟩:=sq (S:=az X ρ bx w) (ρ:=ρ) (w:=w) (places:=fun i=>(F.map fun f=>(f.offset,cG P f.type))[i]?) (fun i x hx=>by
    simp only[gM,aG,mS]at hx;obtain⟨f,hf,rfl⟩:=hx;simp[hf]) _
    (ps.toList.map fun p=>(p.1,a.eval p.2)) _ _ z.cells hb sI (fun i p q hp hq=>by
     simp only[gM,mS]at hp hq;obtain⟨y,hy,rfl⟩:=hp;obtain⟨y',pT,rfl⟩:=hq;rw[hy]at pT;injection pT with pT;subst pT;exact⟨rfl,h.ev _⟩) ⟨by rw[qn];simp,fun i c u hc hu=>by
      rw[qn,gM,aG,hu]at hc;simp only[Option.map_some,sJ]at hc;subst hc;exact .pure (mz u)⟩
   refine aQ (.agg ff) ?_ (.agg k2.1 k2.2);have vA:(ps.map fun(x:Nat×Operand)=>(x.1,a.eval x.2)).toList=ps.toList.map fun p=>(p.1,a.eval p.2):=by simp
   simp only[execOp,Instr.build,Sem.run_bind,Sem.run_pure,Result.andThen_ok,run_underlying hu,pt,bR,vA,k1]
  ·cases hv
 ·rename_i n esz ag hk;split at hv
  ·rename_i hz;obtain⟨e,hu,gn,_⟩:=vP hk;rw[mS]at hv;obtain⟨r,hb,rfl⟩:=hv;have hzero:∃z,(zeroValue t).run P w= .ok z w/\(an P t).zero=z.cells.toList.map AP:=by
    have h2:(an P t).zero.length≠0:=oM;simp only[an]at h2⊢;cases hi:P.info? t with
    |none=>simp[hi]at h2
    |some i=>
     cases hz:i.zero with
     |none=>simp[hi,hz]at h2
     |some z=>exact⟨z,by simp[zeroValue,typeInfo,hi,hz,go_sem],by simp[hz]⟩
   obtain⟨z,pt,qn⟩:=hzero;obtain⟨ff,k1,k2⟩:=sq (S:=az X ρ bx w) (ρ:=ρ) (w:=w) (places:=fun i=>some (i * esz,esz)) (fun i x hx=>by
    simp only[gM,mS]at hx;obtain⟨y,hy,rfl⟩:=hx;have:=(gS.1 hy).2;simp at this;subst this;rfl) _
    (ps.toList.map fun p=>(p.1,a.eval p.2)) _ _ z.cells hb sI (fun i p q hp hq=>by
     simp only[gM,mS]at hp hq;obtain⟨y,hy,rfl⟩:=hp;obtain⟨y',pT,rfl⟩:=hq;rw[hy]at pT;injection pT with pT;subst pT;exact⟨rfl,h.ev _⟩) ⟨by rw[qn];simp,fun i c u hc hu=>by
      rw[qn,gM,aG,hu]at hc;simp only[Option.map_some,sJ]at hc;subst hc;exact .pure (mz u)⟩
   refine aQ (.agg ff) ?_ (.agg k2.1 k2.2);have vA:(ps.map fun(x:Nat×Operand)=>(x.1,a.eval x.2)).toList=ps.toList.map fun p=>(p.1,a.eval p.2):=by simp
   simp only[execOp,Instr.build,Sem.run_bind,Sem.run_pure,Result.andThen_ok,run_underlying hu,pt,cW (gn▸hz.2.2),<-gn,vA,k1]
  ·cases hv
 ·cases hv
theorem Aq{fs:List (Nat×Nat×Bool)}{esz:Nat}{ag:Bool}:∀(ps:List (Nat×D)) (k:Nat) (done:List D),done.length=k * esz->ps.map (·.1)=List.range' k ps.length->ps.all (fun p=>p.2.cells.length==esz&&p.2.cells.all D.one)=true->
 (∀i,i<k+ps.length->fs[i]? =some (i * esz,esz,ag))->jc fs (done++List.replicate (ps.length * esz) .undef) ps=some (done++(ps.map (·.2)).flatMap D.cells)
 |[],k,done,_,_,_,_=>by simp[jc]
 |(i,d)::ps,k,done,hd,hm,ha,hf=>by
  simp only[mC,List.length_cons,List.range'_succ,List.cons.injEq]at hm;obtain⟨rfl,hm⟩:=hm;simp only[List.all_cons,bA,beq_iff_eq]at ha;obtain⟨⟨h1,h2⟩,h3⟩:=ha;simp only[jc,hf i sI];have hlen:(done++List.replicate (((i,d)::ps).length * esz) D.undef).length=i * esz+(ps.length+1) * esz:=by simp[hd]
  rw[if_pos ⟨h1,by rw[hlen,Nat.add_mul];omega,h2⟩];have e1:(done++List.replicate (((i,d)::ps).length * esz) D.undef).take (i * esz)=done:=by rw[<-hd];exact List.take_left
  have e2:(done++List.replicate (((i,d)::ps).length * esz) D.undef).drop (i * esz+esz)=List.replicate (ps.length * esz) D.undef:=by
   rw[<-hd,<-List.drop_drop,List.drop_left,List.drop_replicate]
   congr 1
   simp only[List.length_cons,Nat.add_mul];omega
  rw[e1,e2,Aq ps (i+1) (done++d.cells) (by simp[hd,h1,Nat.add_mul]) hm h3 (fun j hj=>hf j (by simp;omega))];simp
theorem GD{sz:Nat}:∀(ds:List D),(∀x∈ds,x.cells.length=sz)->(ds.flatMap D.cells).length=ds.length * sz
 |[],_=>by simp
 |x::ds,h=>by
  rw[List.flatMap_cons,List.length_append,h x (List.mem_cons_self ..),GD ds (fun y hy=>h y (List.mem_cons_of_mem _ hy)),List.length_cons,Nat.add_mul];omega
theorem Bb{sz:Nat}:∀(ds:List D) (i j:Nat) (d:D),(∀x∈ds,x.cells.length=sz)->ds[i]? =some d->j<sz->(ds.flatMap D.cells)[i * sz+j]? =d.cells[j]?
 |[],i,j,d,_,hd,_=>by simp at hd
 |x::ds,i,j,d,hs,hd,hj=>by
  have hx:=hs x (List.mem_cons_self ..);simp only[List.flatMap_cons];cases i with
  |zero=>
   simp at hd;subst hd;rw[Nat.zero_mul,Nat.zero_add,List.getElem?_append_left oM]
  |succ i=>
   rw[Nat.add_mul,List.getElem?_append_right oM,hx];have:i * sz+1 * sz+j - sz=i * sz+j:=oM;rw[this];exact Bb ds i j d (fun y hy=>hs y (List.mem_cons_of_mem _ hy)) (by simpa using hd) hj
theorem aA.fresh(h:aA X ρ σ bx a w)(o:Obj):az X ρ bx (w.alloc o) w.heap.size:=by
 refine⟨by simp,.inr (Nat.le_trans h.nb h.fr.size),fun t hk p hp=>?_⟩;obtain⟨p',bJ,_,_,_,hh⟩:=h.box t (by rw[hk];decide);rw[hp]at bJ;injection bJ with bJ;subst bJ;have:=hh.lt;omega
def J9(h:aA X ρ σ bx a w){t e:TypeId}{n esz:Nat}{ag:Bool}{ps:Array (Nat×Operand)}{mY:List (Nat×D)}(hu:P.underlying t=some (.slice e))(gn:esz=cG P e)(JJ:(ps.toList.map fun p=>(p.1,ev σ p.2))=mY)(hm:mY.map (·.1)=List.range n)
 (ha:mY.all (fun p=>p.2.cells.length==esz&&p.2.cells.all D.one)=true) (eI:0<esz) (wC:n * esz<=65536) (lI:(an P e).zero.length=esz):
 ∃ff,(Instr.buildSlice t n (ps.map fun(x:Nat×Operand)=>(x.1,a.eval x.2))).run P w= .ok (.slice (some ⟨w.heap.size,0,none⟩) n n) (w.alloc (.cells ff e))/\A2 w (az X ρ bx w) ρ ((mY.map (·.2)).flatMap D.cells) ff:=by
 have hlen:mY.length=n:=by have:=congrArg List.length hm;simpa using this
 have hzero:∃z,(zeroValue e).run P w= .ok z w/\z.cells.size=esz:=by
  have h2:(an P e).zero.length≠0:=oM;simp only[an]at h2 lI;cases hi:P.info? e with
  |none=>simp[hi]at h2
  |some i=>
   cases hz:i.zero with
   |none=>simp[hi,hz]at h2
   |some z=>exact⟨z,by simp[zeroValue,typeInfo,hi,hz,go_sem],by simpa[hi,hz]using lI⟩
 obtain⟨z,pt,qn⟩:=hzero;have RH:=Aq (fs:=(List.range n).map fun i=>(i * esz,esz,ag)) (esz:=esz) (ag:=ag) mY 0 [] sI (by rw[hm,List.range_eq_range',hlen]) ha (fun i hi=>by
  have hi:i<n:=oM;simp[List.getElem?_range hi])
 simp only[List.nil_append,hlen]at RH;have go:∀zc:Array Value,(n * esz=0\/zc=z.cells)->∃ff,Instr.fill (fun i=>some (i * esz,esz)) ((Array.range (n * esz)).map (zc[· % zc.size]!)) (ps.toList.map fun p=>(p.1,a.eval p.2))=some ff/\A2 w (az X ρ bx w) ρ ((mY.map (·.2)).flatMap D.cells) ff:=by
  intro zc _;refine sq (S:=az X ρ bx w) (ρ:=ρ) (w:=w) (places:=fun i=>some (i * esz,esz)) (fun i x hx=>?_) _ _ _ _ ((Array.range (n * esz)).map (zc[· % zc.size]!)) RH (by rw[<-JJ];simp) (fun i p q hp hq=>?_) ⟨by simp,fun i c u hc _=>?_⟩
  ·simp only[gM,mS]at hx;obtain⟨y,hy,rfl⟩:=hx;have:=(gS.1 hy).2;simp at this;subst this;rfl
  ·rw[<-JJ]at hp;simp only[gM,mS]at hp hq;obtain⟨y,hy,rfl⟩:=hp;obtain⟨y',pT,rfl⟩:=hq;rw[hy]at pT;injection pT with pT;subst pT;exact⟨rfl,h.ev _⟩
  ·have:=mG hc;have:=List.eq_of_mem_replicate this;subst this;exact .pure (.undef u)
 have main:∃ff,(Instr.buildSlice t n (ps.map fun(x:Nat×Operand)=>(x.1,a.eval x.2))).run P w= .ok (.slice (some ⟨w.heap.size,0,none⟩) n n) (w.alloc (.cells ff e))/\A2 w (az X ρ bx w) ρ ((mY.map (·.2)).flatMap D.cells) ff:=by
  have vA:(ps.map fun(x:Nat×Operand)=>(x.1,a.eval x.2)).toList=ps.toList.map fun p=>(p.1,a.eval p.2):=by simp
  have yH:¬n * cG P e>2 ^ 24:=by rw[<-gn];omega
  by_cases tD:n * esz=0
  ·obtain⟨ff,k1,k2⟩:=go #[] (.inl tD);refine⟨ff,?_,k2⟩;rw[tD]at k1;have aej:¬0>2 ^ 24:=oM;simp only[Instr.buildSlice,Sem.run_bind,run_underlying hu,Result.andThen_ok,cW (gn▸eI),<-gn,tD,aej,if_false,if_true,Sem.run_pure,vA,k1,newRow,newObj,Sem.run,World.alloc]
  ·obtain⟨ff,k1,k2⟩:=go z.cells (.inr rfl);refine⟨ff,?_,k2⟩;rw[<-gn]at yH;simp only[Instr.buildSlice,Sem.run_bind,run_underlying hu,Result.andThen_ok,cW (gn▸eI),<-gn,yH,if_false,tD,Sem.run_pure,vA,pt,k1,newRow,newObj,Sem.run,World.alloc]
 exact main
def A6(h:aA X ρ σ bx a w){t:TypeId}{n:Nat}{ps:Array (Nat×Operand)}{d:D}(hv:mr (an P) (an P t) n (ps.toList.map fun p=>(p.1,ev σ p.2))=some d):Yields P X ρ bx a w ⟨dst,.buildSlice t n ps,ty,pos,af,g⟩ d:=by
 unfold mr at hv;split at hv
 ·rename_i e esz b ag hk;split at hv
  ·rename_i hc;obtain⟨hm,ha,eI,wC,lI⟩:=hc;injection hv with hv;subst hv;obtain⟨hu,gn,_,_⟩:=dh hk;generalize JJ:(ps.toList.map fun p=>(p.1,ev σ p.2))=mY at hm ha;have hlen:mY.length=n:=by have:=congrArg List.length hm;simpa using this
   have ha':mY.all (fun p=>p.2.cells.length==esz&&p.2.cells.all D.one)=true:=by
    rw[List.all_eq_true]at ha⊢;intro p hp;have:=ha p hp;simp only[bA]at this⊢;exact this.1
   obtain⟨ff,bR,fq⟩:=J9 (ag:=ag) h hu gn JJ hm ha' eI wC lI;have hb:=(Below.refl w.heap.size w).alloc (Nat.le_refl _) (.cells ff e);have eF:∀x∈mY.map (·.2),x.cells.length=esz/\x.cells.all D.one=true/\x.pure=true:=by
    intro x hx;obtain⟨p,hp,rfl⟩:=List.mem_map.1 hx;have:=List.all_eq_true.1 ha p hp;simp only[bA,beq_iff_eq]at this;exact⟨this.1.1,this.1.2,this.2⟩
   have jt:∀(i:Nat) d (j:Nat) c,(mY.map (·.2))[i]? =some d->d.cells[j]? =some c->∃u,ff[i * esz+j]? =some u/\aH w (az X ρ bx w) ρ c u:=by
    intro i d j c hi hj;have hd:=eF d (mG hi);have pj:j<esz:=by have:=(gS.1 hj).1;omega
    have hf:=Bb (sz:=esz) (mY.map (·.2)) i j d (fun x hx=>(eF x hx).1) hi pj;rw[hj]at hf;have ar:=(gS.1 hf).1;have Be:i * esz+j<ff.size:=by rw[fq.1];exact ar
    have gp:ff[i * esz+j]? =some ff[i * esz+j]:=Array.getElem?_eq_getElem Be;exact⟨_,gp,fq.2 _ _ _ hf gp⟩
   have cX:∀(i:Nat) d (j:Nat) c,(mY.map (·.2))[i]? =some d->d.cells[j]? =some c->ff[i * esz+j]? =some (ff.getD (i * esz+j) undef)/\aH w (az X ρ bx w) ρ c (ff.getD (i * esz+j) undef):=by
    intro i d j c hi hj;obtain⟨u,gp,hr⟩:=jt i d j c hi hj;have:ff.getD (i * esz+j) undef=u:=by rw[Array.getD_eq_getD_getElem?,gp];rfl
    rw[this];exact⟨gp,hr⟩
   refine⟨.slice (some ⟨w.heap.size,0,none⟩) n n,w.alloc (.cells ff e),?_,hb,.pure (.sl (b:=w.heap.size) (off:=0) (us:=fun i j=>ff.getD (i * esz+j) undef) (by simp[hlen]) (Nat.le_refl _) ?_ (fun _=>⟨rfl,h.fresh _⟩)
    (fun i d hi=>(eF d (mG hi)).1) (fun i d j c hi hj=>?_) (fun i d j c hi hj=>?_) (fun i d j c hi hj=>?_))⟩
   ·simp only[execOp,Sem.run_bind,bR,Result.andThen_ok,Sem.run_pure]
   ·have:n<=n * esz:=Nat.le_mul_of_pos_right n eI;simp only[maxLen];omega
   ·rw[Nat.zero_add];have hn:=heap_alloc_new w (.cells ff e);simp only[World.cell?,hn,Option.isSome_none,Bool.false_eq_true,if_false];exact(cX i d j c hi hj).1
   ·exact(cX i d j c hi hj).2.one (List.all_eq_true.1 (eF d (mG hi)).2.1 c (mG hj))
   ·refine((cX i d j c hi hj).2.mono (fun b eg=>?_) (fun b eg=>?_) (fun _ _ _ h=>h)).fy (sK (eF d (mG hi)).2.2 c (mG hj))
    ·exact hb.block b eg.1
    ·exact⟨Nat.lt_of_lt_of_le eg.1 hb.size,eg.2⟩
  ·cases hv
 ·cases hv
def ou{b:Builtin}{cx:Array TypeId}{args:Array Operand}{v:Value}{f:Array TypeId->TypeId->Array Value->Sem Value}(hb:∀ts t cs vs,builtin b ts t cs vs=(do pure (.value (<-f ts t vs))))(hr:(f cx ty (args.map a.eval)).run P w= .ok v w):
 (execOp a.eval ⟨dst,.call {callee:=.builtin b,args,argTypes:=cx},ty,pos,af,g⟩).run P w= .ok (.value v) w:=by
 simp only[execOp,resolve,invoke,Sem.run_bind,Sem.run_pure,Result.andThen_ok,hb,hr]
def NX(h:aA X ρ σ bx a w){cx:Array TypeId}{args:Array Operand}{d:D}(hv:mL .len (cx.toList.map (an P)) (args.toList.map (ev σ))=some d):Yields P X ρ bx a w ⟨dst,.call {callee:=.builtin .len,args,argTypes:=cx},ty,pos,af,g⟩ d:=by
 obtain⟨cx⟩:=cx;obtain⟨args⟩:=args;cases cx with
 |nil=>simp[mL]at hv
 |cons T cx=>
 cases cx with
 |cons T' cx=>simp[mL]at hv
 |nil=>
 cases args with
 |nil=>simp[mL]at hv
 |cons x args=>
 cases args with
 |cons y args=>simp[mL]at hv
 |nil=>
 simp only[mC,List.map_nil,mL,mS]at hv;obtain⟨n,hn,rfl⟩:=hv;have hx:=h.ev x;generalize ev σ x=dx at hn hx;refine aQ _ (ou (f:=Builtin.len_) (fun _ _ _ _=>rfl) (v:=.int .i64 (n:Int)) ?_) (.pure (.int _ _));simp only[List.map_toArray,mC,List.map_nil];unfold tN at hn;split at hn<;>try (cases hn;done)
 all_goals injection hn with hn;subst hn
 ·rename_i s hk;have bP:(⟨s.toArray⟩:ByteArray).size=s.length:=by simp[ByteArray.size]
  simp only[Builtin.len_,List.getElem?_toArray,List.getElem?_cons_zero,hx.iU,Sem.run_bind,run_underlying (qa hk),Result.andThen_ok,Sem.run_pure,goInt,bP]
 ·rename_i hk;have eJ:=hx.fy rfl;generalize e_:a.eval x=vx at eJ;cases eJ with
  |sl hn _ _ _ _ _ _ _=>subst hn;simp[Builtin.len_,run_underlying (dh hk).1,goInt]
 ·rename_i hk;simp[Builtin.len_,hx.gd,run_underlying (dh hk).1,goInt]
 ·rename_i hk;generalize e_:a.eval x=vx at hx;cases hx with
  |pure h=>cases h
  |bE=>simp[Builtin.len_,run_underlying (dh hk).1,goInt]
 ·rename_i hk;obtain⟨A,e_⟩:=(hx.fy rfl).vl;simp[Builtin.len_,e_,run_underlying (dh hk).1,goInt]
 ·rename_i hk;generalize e_:a.eval x=vx at hx;cases hx with
  |pure h=>cases h
  |fH=>simp[Builtin.len_,run_underlying (dh hk).1,goInt]
 ·rename_i hk;obtain⟨e,hu,_⟩:=vP hk;simp[Builtin.len_,run_underlying hu,goInt]
def MN(h:aA X ρ σ bx a w){cx:Array TypeId}{args:Array Operand}{d:D}(hv:mL .cap (cx.toList.map (an P)) (args.toList.map (ev σ))=some d):Yields P X ρ bx a w ⟨dst,.call {callee:=.builtin .cap,args,argTypes:=cx},ty,pos,af,g⟩ d:=by
 obtain⟨cx⟩:=cx;obtain⟨args⟩:=args;cases cx with
 |nil=>simp[mL]at hv
 |cons T cx=>
 cases cx with
 |cons T' cx=>simp[mL]at hv
 |nil=>
 cases args with
 |nil=>simp[mL]at hv
 |cons x args=>
 cases args with
 |cons y args=>simp[mL]at hv
 |nil=>
 simp only[mC,List.map_nil]at hv;have hx:=h.ev x;generalize hti:an P T=ti at hv;generalize ev σ x=dx at hv hx;obtain⟨k,size,ag,z⟩:=ti;cases k<;>try (simp[mL]at hv;done)
 cases dx<;>try (simp[mL]at hv;done)
 simp only[mL,sJ]at hv;subst hv;rename_i e esz b g;have hk:(an P T).k= .slice e esz b g:=by rw[hti]
 refine aQ _ (ou (f:=Builtin.cap_) (fun _ _ _ _=>rfl) (v:=.int .i64 0) ?_) (.pure (.int _ _));simp only[List.map_toArray,mC,List.map_nil];simp[Builtin.cap_,hx.gd,run_underlying (dh hk).1,goInt]
def N1(h:aA X ρ σ bx a w){cx:Array TypeId}{args:Array Operand}{d:D}(hv:minD (args.toList.map (ev σ))=some d):Yields P X ρ bx a w ⟨dst,.call {callee:=.builtin .min,args,argTypes:=cx},ty,pos,af,g⟩ d:=by
 obtain⟨args⟩:=args;unfold minD at hv;split at hv
 ·rename_i k m k' n he;cases args with
  |nil=>simp at he
  |cons x args=>
  cases args with
  |nil=>simp at he
  |cons y args=>
  cases args with
  |cons z args=>simp at he
  |nil=>
  simp only[mC,List.map_nil,List.cons.injEq,and_true]at he;split at hv
  ·injection hv with hv;subst hv;have hx:=h.ev x;have hy:=h.ev y;rw[he.1]at hx;rw[he.2]at hy;refine aQ _ (ou (f:=Builtin.min_) (fun _ _ _ _=>rfl) (v:=.int k (if n<m then n else m)) ?_) (.pure (.int _ _));simp[Builtin.min_,Builtin.min2,hx.dX,hy.dX]
  ·cases hv
 ·cases hv
def Bk{S:Nat->Prop}{x y d:D}{u v:Value}(h:wL x y=some d)(hx:aH w S ρ x u)(hy:aH w S ρ y v):∃k n,d= .int k n/\(Builtin.max2 u v).run P w= .ok (.int k n) w:=by
 unfold wL at h;split at h
 ·rename_i k m k' n;split at h
  ·injection h with h;subst h;rw[hx.dX,hy.dX];exact⟨_,_,rfl,by simp[Builtin.max2]⟩
  ·cases h
 ·cases h
theorem NZ(h:aA X ρ σ bx a w){cx:Array TypeId}{args:Array Operand}{d:D}(hv:maxD (args.toList.map (ev σ))=some d):Yields P X ρ bx a w ⟨dst,.call {callee:=.builtin .max,args,argTypes:=cx},ty,pos,af,g⟩ d:=by
 obtain⟨args⟩:=args
 match args,hv with
 |[x,y],hv=>
  obtain⟨k,n,rfl,h1⟩:=Bk (P:=P) hv (h.ev x) (h.ev y);refine aQ _ (ou (f:=Builtin.max_) (fun _ _ _ _=>rfl) (v:=.int k n) ?_) (.pure (.int _ _));simp[Builtin.max_,h1]
 |[x,y,z],hv=>
  obtain⟨m,hm,hv⟩:=Option.bind_eq_some_iff.1 hv;obtain⟨k,n,rfl,h1⟩:=Bk (P:=P) hm (h.ev x) (h.ev y);obtain⟨k',n',rfl,h2⟩:=Bk (P:=P) hv (.pure (.int k n)) (h.ev z);refine aQ _ (ou (f:=Builtin.max_) (fun _ _ _ _=>rfl) (v:=.int k' n') ?_) (.pure (.int _ _));simp[Builtin.max_,h1,h2]
 |[],hv=>cases hv
 |[_],hv=>cases hv
 |_::_::_::_::_,hv=>cases hv
theorem Er:∀(es:List D) (l:List UInt8),jd es=some l->∃ns:List Int,es=ns.map (D.int .u8)/\l=ns.map fun n=>UInt8.ofNat n.toNat
 |[],l,h=>by simp only[jd,sJ]at h;subst h;exact⟨[],rfl,rfl⟩
 |x::es,l,h=>by
  unfold jd at h;split at h
  ·rename_i heq;cases heq
  ·rename_i n es' heq;injection heq with h1 h2;subst h1;subst h2;rw[mS]at h;obtain⟨l',h',rfl⟩:=h;obtain⟨ns,rfl,rfl⟩:=Er _ _ h';exact⟨n::ns,rfl,rfl⟩
  ·cases h
theorem MH{S:Nat->Prop}{es:List D}{A:Option Addr}{n cap:Nat}{l:List UInt8}(hx:br w S (.sl 1 es) (.slice A n cap))(hl:jd es=some l):(Conv.bytesToString (.slice A n cap)).run P w= .ok (.string ⟨l.toArray⟩) w:=by
 obtain⟨ns,rfl,rfl⟩:=Er es l hl;cases hx with
 |@sl _ _ _ _ _ b off us hn dF ja hA bP hc h1 hr=>
  by_cases bq:ns=[]
  ·subst bq;simp only[List.map_nil,List.length_nil]at hn;subst hn;cases A with
   |none=>rw[Conv.bytesToString,Sem.run_pure];rfl
   |some ad=>
    rw[run_bytesToString w ad 0 cap [] (run_loadCells_list (P:=P) (w:=w) ad [] (fun j v hj=>by simp at hj))];rfl
  ·obtain⟨rfl,_⟩:=hA (by simpa using bq);have hl:(loadCells ⟨b,off,none⟩ n).run P w= .ok (ns.map (Value.int .u8)).toArray w:=by
    have:=run_loadCells_list (P:=P) (w:=w) ⟨b,off,none⟩ (ns.map (Value.int .u8)) (fun j v hj=>by
     rw[gM,mS]at hj;obtain⟨m,hm,rfl⟩:=hj;have h0:=hc j (.int .u8 m) 0 (.int .u8 m) (by simp[hm]) rfl;have h2:=hr j (.int .u8 m) 0 (.int .u8 m) (by simp[hm]) rfl;have e:us j 0= .int .u8 m:=(aH.pure (ρ:=⟨fun _ _=>none,fun _=>none⟩) h2).dX;rw[e]at h0;rw[Addr.ea];simpa using h0)
    rw[List.length_map]at this;rw[List.length_map]at hn;rw[hn];exact this
   rw[run_bytesToString w _ n cap ns hl,foldl_push_bytes]
   congr 2
   simp[ByteArray.empty,ByteArray.emptyWithCapacity];rfl
def KN(h:aA X ρ σ bx a w){s t:TypeId}{x:Operand}{d:D}(hv:qM (an P) (an P s) (an P t) (ev σ x)=some d):Yields P X ρ bx a w ⟨dst,.convert s t x,ty,pos,af,g⟩ d:=by
 have hx:=h.ev x;generalize ev σ x=dx at hv hx;have key:∀(sz:Nat) (es:List D) (e z0 b0:Nat) (g0:Bool),(an P s).k= .slice e z0 b0 g0->(an P t).k= .str->(sz=1/\(an P e).k.qB=true)->br w (az X ρ bx w) (.sl sz es) (a.eval x)->(jd es).map D.str=some d->Yields P X ρ bx a w ⟨dst,.convert s t x,ty,pos,af,g⟩ d:=by
  intro sz es e z0 b0 g0 h1 h2 bP eJ dZ;obtain⟨bP,Hg⟩:=bP;subst bP;have hu:P.underlying e=some (.int .u8):=by
   unfold TK.qB at Hg;split at Hg
   ·rename_i hk;exact uc hk
   ·cases Hg
  rw[mS]at dZ;obtain⟨l,hl,rfl⟩:=dZ;refine aQ (.string ⟨l.toArray⟩) ?_ (.pure (.str _));generalize e_:a.eval x=vx at eJ;have mP:∃A n cap,vx= .slice A n cap:=by cases eJ;exact⟨_,_,_,rfl⟩
  obtain⟨A,n,cap,rfl⟩:=mP;have bR:=MH (P:=P) eJ hl;simp only[execOp,convert,e_,Sem.run_bind,run_underlying (dh h1).1,run_underlying (qa h2),run_underlying hu,Result.andThen_ok,bR,Sem.run_pure]
 unfold qM at hv;split at hv
 ·rename_i k n;split at hv
  ·rename_i k1 k2 h1 h2;injection hv with hv;subst hv;refine aQ (.int k2 (k2.wrap n)) ?_ (.pure (.int _ _));simp[execOp,convert,run_underlying (uc h1),run_underlying (uc h2),hx.dX,Conv.intToInt]
  ·cases hv
 ·rename_i l;split at hv
  ·rename_i h1 h2;injection hv with hv;subst hv;refine aQ (.string ⟨l.toArray⟩) ?_ (.pure (.str _));simp[execOp,convert,run_underlying (qa h1),run_underlying (qa h2),hx.iU]
  ·cases hv
 ·rename_i sz es;split at hv
  ·rename_i e z0 b0 g0 h1 h2;split at hv
   ·rename_i bP;exact key sz es e z0 b0 g0 h1 h2 bP (hx.fy rfl) hv
   ·cases hv
  ·cases hv
 ·rename_i sz es;split at hv
  ·rename_i e z0 b0 g0 h1 h2;split at hv
   ·rename_i bP;exact key sz es e z0 b0 g0 h1 h2 bP (hx.fy rfl).rC hv
   ·cases hv
  ·cases hv
 ·split at hv
  ·rename_i e z0 b0 g0 h1 h2;split at hv
   ·rename_i Hg;injection hv with hv;subst hv;have hu:P.underlying e=some (.int .u8):=by
     unfold TK.qB at Hg;split at Hg
     ·rename_i hk;exact uc hk
     ·cases Hg
    refine aQ (.string ⟨([]:List UInt8).toArray⟩) ?_ (.pure (.str _));simp only[execOp,convert,hx.gd,Sem.run_bind,run_underlying (dh h1).1,run_underlying (qa h2),run_underlying hu,Result.andThen_ok,Conv.bytesToString,Sem.run_pure];rfl
   ·cases hv
  ·cases hv
 ·cases hv
def Iu(h:aA X ρ σ bx a w){t:TypeId}{x m:Operand}{lo hi:Option Operand}{d:D}(hv:HM (an P t) (ev σ x) (eV σ lo) (eV σ hi) (yP (ev σ m))=some d):Yields P X ρ bx a w ⟨dst,.slice t x lo hi (some m),ty,pos,af,g⟩ d:=by
 have hx:=h.ev x;have hm:=h.ev m;generalize ev σ x=dx at hv hx;generalize ev σ m=dm at hv hm;unfold HM at hv;split at hv
 ·rename_i l hh mm hl hhi rp;obtain⟨k,GZ⟩:∃k,dm= .int k mm:=by
   cases dm<;>simp only[yP]at rp<;>try (cases rp;done)
   injection rp with rp;injection rp with rp;subst rp;exact⟨_,rfl⟩
  subst GZ;have RY:=hm.dX;rcases pW h hhi with⟨_,h0⟩|⟨y,k',n',hy1,Wz,hy⟩
  ·cases h0
  injection Wz with Wz;subst Wz;subst hy1;have bound:∀(p q:Nat) (len cap:Nat),eb len l (some hh)=some (p,q)->mm=hh->len<=cap->(Instr.sliceBounds true len cap (lo.map a.eval) (some (a.eval y)) (some (a.eval m))).run P w= .ok (p,q,q) w/\p<=q/\q<=len:=by
   intro p q len cap hc V_ hle;subst V_;unfold eb at hc;simp only[Option.getD_some]at hc;split at hc
   ·rename_i hb;injection hc with hc;injection hc with h1 h2;have c1:0<=mm/\mm<=(cap:Int):=⟨by omega,by omega⟩
    have c2:0<=mm/\mm<=((mm.toNat:Nat):Int):=⟨by omega,by omega⟩
    rcases pW h hl with⟨rfl,rfl⟩|⟨z,kz,nz,rfl,rfl,hz⟩<;>simp only[Option.getD_none,Option.getD_some]at hb h1
    ·subst h1;subst h2;refine⟨by simp only[Instr.sliceBounds,Instr.sliceBound,hy,RY,asIntOf,Option.map_none,Sem.run_bind,Sem.run_pure,Result.andThen_ok,Sem.run_ite,c1,c2,and_self,if_true];rfl,by omega,by omega⟩
    ·subst h1;subst h2;have c3:0<=nz/\nz<=((mm.toNat:Nat):Int):=⟨by omega,by omega⟩
     refine⟨by simp only[Instr.sliceBounds,Instr.sliceBound,hy,hz,RY,asIntOf,Option.map_some,Sem.run_bind,Sem.run_pure,Result.andThen_ok,Sem.run_ite,c1,c2,c3,and_self,if_true],by omega,by omega⟩
   ·cases hc
  unfold vM at hv;split at hv
  ·rename_i e esz b ag sz es hk;split at hv
   ·rename_i VT;obtain⟨he,eI,V_⟩:=VT;subst he;obtain⟨hu,gn,_,_⟩:=dh hk;cases hc:eb es.length l (some hh)with
    |none=>simp[hc]at hv
    |some pq=>
     obtain⟨p,q⟩:=pq;simp only[hc,Option.map_some,sJ]at hv;subst hv;have eJ:br w (az X ρ bx w) (.sl sz es) (a.eval x):=hx.fy rfl;generalize e_:a.eval x=vx at eJ;cases eJ with
     |@sl _ _ A n cap b' off us hn dF ja hA bP jh h1 hr=>
      subst hn;obtain⟨bR,k1,k2⟩:=bound p q _ cap hc V_ dF;have eF:∀(i:Nat) c,((es.drop p).take (q - p))[i]? =some c->es[p+i]? =some c:=fun i c hi=>by
       have ar:=(gS.1 hi).1;simp at ar;rwa[List.getElem?_take_of_lt oM,List.getElem?_drop]at hi
      refine aQ (.slice (if q=p then A else A.map (·.add (p * sz))) (q - p) (q - p)) ?_ (.pure (.g_ (.sl (b:=b') (off:=off+p * sz) (us:=fun i j=>us (p+i) j) (by simp;omega) oM oM (fun bq=>?_)
       (fun i c hi=>bP _ _ (eF i c hi)) (fun i c j c' hi hj=>?_) (fun i c j c' hi hj=>h1 _ _ _ _ (eF i c hi) hj) (fun i c j c' hi hj=>hr _ _ _ _ (eF i c hi) hj))))
      ·simp only[execOp,Instr.sliceAt,Instr.slice,e_,Sem.run_bind,Sem.run_pure,Result.andThen_ok,run_underlying hu,Option.map_some,bR,cW (gn▸eI),<-gn]
      ·have ar:p<es.length:=by
        rcases Nat.lt_or_ge p es.length with h'|h'
        ·exact h'
        ·exfalso;apply bq;rw[List.drop_eq_nil_of_le h'];simp
       have hqp:q≠p:=by rintro rfl;apply bq;simp
       obtain⟨rfl,hb⟩:=hA (by rintro rfl;simp at ar);rw[if_neg hqp];exact⟨by simp[Addr.ea],hb⟩
      ·have:=jh _ _ _ _ (eF i c hi) hj;rwa[Nat.add_mul,<-Nat.add_assoc]at this
   ·cases hv
  ·rename_i e esz b ag hk;split at hv
   ·rename_i VT;obtain⟨h1,h2,h3,eI⟩:=VT;injection hv with hv;subst hv;obtain⟨hu,gn,_,_⟩:=dh hk;have e_:=hx.gd;obtain⟨bR,_,_⟩:=bound 0 0 0 0 (by unfold eb;rw[h2,h3];rfl) (h1.trans h2.symm) (Nat.le_refl _);refine aQ (.slice none 0 0) ?_ (.pure .aq);simp only[execOp,Instr.sliceAt,Instr.slice,e_,Sem.run_bind,Sem.run_pure,Result.andThen_ok,run_underlying hu,Option.map_some,bR,cW (gn▸eI),if_true,Nat.sub_self]
   ·cases hv
  ·cases hv
 ·cases hv
def LJ(h:aA X ρ σ bx a w){c x y:Operand}{d:D}(hv:qU (ev σ c) (ev σ x) (ev σ y)=some d):Yields P X ρ bx a w ⟨dst,.pick c x y,ty,pos,af,g⟩ d:=by
 have hc:=h.ev c;generalize ev σ c=dc at hv hc;cases dc<;>simp only[qU]at hv<;>try (cases hv;done)
 rename_i t;injection hv with hv;subst hv;refine aQ (if t then a.eval x else a.eval y) ?_ ?_
 ·simp[execOp,asBool,hc.jQ]
 ·cases t
  ·exact h.ev y
  ·exact h.ev x
def N4(h:aA X ρ σ bx a w){op:BinOp}{t t':TypeId}{x:Operand}{d:D}(hv:Qz (an P t) op (ev σ x)=some d):Yields P X ρ bx a w ⟨dst,.binOp op t x (.const .nilIface) t',ty,pos,af,g⟩ d:=by
 have hx:=h.ev x;generalize ev σ x=dx at hv hx;have key:∀b ms,P.underlying t=some (.interface ms)->y6 dx=some b->(Op.equal t (a.eval x) .nilIface).run P w= .ok b w/\(∀op,(eqGuard op t x (.const .nilIface) (a.eval x) .nilIface).run P w= .ok () w)/\((∃t v,a.eval x= .iface t v)\/a.eval x= .nilIface):=by
  intro b ms hu hb;unfold y6 at hb;split at hb
  ·injection hb with hb;subst hb;generalize a.eval x=vx at hx;have:∃t v,vx= .iface t v:=by cases hx with
    |pure h=>cases h with|dB h=>exact⟨_,_,rfl⟩
    |dB h=>exact⟨_,_,rfl⟩
   obtain⟨t1,v1,rfl⟩:=this;have e1:∀n,(Op.equalIn (n+1) t (.iface t1 v1) .nilIface).run P w= .ok false w:=fun n=>by simp[Op.equalIn,run_underlying hu]
   exact⟨e1 9999,fun op=>by cases op<;>simp[eqGuard],.inl ⟨_,_,rfl⟩⟩
  ·injection hb with hb;subst hb;have hx:=hx.DW;rw[hx];have e1:∀n,(Op.equalIn (n+1) t .nilIface .nilIface).run P w= .ok true w:=fun n=>by simp[Op.equalIn,run_underlying hu]
   exact⟨e1 9999,fun op=>by cases op<;>simp[eqGuard],.inr rfl⟩
  ·cases hb
 unfold Qz at hv;split at hv
 ·rename_i hk;obtain⟨ms,hu⟩:=OJ hk;rw[mS]at hv;obtain⟨b,hb,rfl⟩:=hv;obtain⟨h1,h2,h3⟩:=key b ms hu hb;refine aQ (.bool b) ?_ (.pure (.bool _));have he:a.eval (.const .nilIface)= .nilIface:=rfl;have:(binOp .eql t (a.eval x) .nilIface).run P w= .ok (.bool b) w:=by rcases h3 with⟨t1,v1,e⟩|e<;>rw[e]at h1⊢ <;>simp[binOp,h1]
  simp only[execOp,he,Sem.run_bind,h2,this,Result.andThen_ok,Sem.run_pure]
 ·rename_i hk;obtain⟨ms,hu⟩:=OJ hk;rw[mS]at hv;obtain⟨b,hb,rfl⟩:=hv;obtain⟨h1,h2,h3⟩:=key b ms hu hb;refine aQ (.bool (!b)) ?_ (.pure (.bool _));have he:a.eval (.const .nilIface)= .nilIface:=rfl;have:(binOp .neq t (a.eval x) .nilIface).run P w= .ok (.bool (!b)) w:=by rcases h3 with⟨t1,v1,e⟩|e<;>rw[e]at h1⊢ <;>simp[binOp,h1]
  simp only[execOp,he,Sem.run_bind,h2,this,Result.andThen_ok,Sem.run_pure]
 ·cases hv
def I3(h:aA X ρ σ bx a w){t:TypeId}{x:Operand}{d:D}(hv:CX (an P t) t (ev σ x)=some d):Yields P X ρ bx a w ⟨dst,.makeInterface t x,ty,pos,af,g⟩ d:=by
 unfold CX at hv;split at hv
 ·cases hv
 ·cases hv
 ·rename_i h1 h2;injection hv with hv;subst hv;obtain⟨dd,hu,hn⟩:=IA h1 h2;refine aQ (.iface t (a.eval x)) ?_ (.dB (h.ev x));simp only[execOp,Instr.makeInterface,Sem.run_bind,run_underlying hu,Result.andThen_ok];cases dd<;>first|(exact absurd rfl (hn _))|simp
def Mc(h:aA X ρ σ bx a w){t xt:TypeId}{x:Operand}{ok:Bool}{d:D}(hv:Du (an P t) t ok (ev σ x)=some d):Yields P X ρ bx a w ⟨dst,.typeAssert x xt t ok,ty,pos,af,g⟩ d:=by
 have hx:=h.ev x;generalize ev σ x=dx at hv hx;have hzero:(an P t).zero.isEmpty=false->∃z,(zeroValue t).run P w= .ok z w:=by
  intro h2;simp only[an]at h2;cases hi:P.info? t with
  |none=>simp[hi]at h2
  |some i=>
   cases hz:i.zero with
   |none=>simp[hi,hz]at h2
   |some z=>exact⟨z,by simp[zeroValue,typeInfo,hi,hz,go_sem]⟩
 have Qo:∀(v v2:Value) (d d2:D),aH w (az X ρ bx w) ρ d v->aH w (az X ρ bx w) ρ d2 v2->aH w (az X ρ bx w) ρ (.aL [d,d2]) (.tuple #[v,v2]):=by
  intro v v2 d d2 h1 h2;refine .aL rfl fun i dd vv hd hv=>?_;rcases i with _|_|i
  ·simp at hd hv;subst hd;subst hv;exact h1
  ·simp at hd hv;subst hd;subst hv;exact h2
  ·simp at hd
 unfold Du at hv;split at hv
 ·cases hv
 ·cases hv
 ·rename_i h1 h2;obtain⟨dd,hu,hn⟩:=IA h1 h2;split at hv
  ·rename_i t' v0;generalize e_:a.eval x=vx at hx;have:∃v,vx= .iface t' v/\aH w (az X ρ bx w) ρ v0 v:=by cases hx with
    |pure h=>cases h with|dB h=>exact⟨_,rfl,.pure h⟩
    |dB h=>exact⟨_,rfl,h⟩
   obtain⟨v,rfl,hr⟩:=this;split at hv
   ·rename_i ht;subst ht;injection hv with hv;subst hv;refine aQ (if ok then .tuple #[v,.bool true]else v) ?_ ?_
    ·simp only[execOp,Instr.typeAssert,Sem.run_bind,run_underlying hu,Result.andThen_ok,e_];cases dd<;>first|(exact absurd rfl (hn _))|(cases ok<;>simp)
    ·cases ok
     ·exact hr
     ·exact Qo _ _ _ _ hr (.pure (.bool _))
   ·rename_i ht;split at hv
    ·rename_i hz;simp only[bA,Bool.not_eq_true']at hz;obtain⟨rfl,hz⟩:=hz;injection hv with hv;subst hv;obtain⟨z,hz⟩:=hzero hz;refine aQ (.tuple #[z,.bool false]) ?_ (Qo _ _ _ _ (.pure (.undef _)) (.pure (.bool _)));simp only[execOp,Instr.typeAssert,Sem.run_bind,run_underlying hu,Result.andThen_ok,e_];cases dd<;>first|(exact absurd rfl (hn _))|simp[ht,hz]
    ·cases hv
  ·split at hv
   ·rename_i hz;simp only[bA,Bool.not_eq_true']at hz;obtain⟨rfl,hz⟩:=hz;injection hv with hv;subst hv;obtain⟨z,hz⟩:=hzero hz;refine aQ (.tuple #[z,.bool false]) ?_ (Qo _ _ _ _ (.pure (.undef _)) (.pure (.bool _)));simp only[execOp,Instr.typeAssert,Sem.run_bind,run_underlying hu,Result.andThen_ok,hx.DW];cases dd<;>first|(exact absurd rfl (hn _))|simp[hz]
   ·cases hv
  ·cases hv
def Fx(h:aA X ρ σ bx a w)(o:Oper){d:D}(hv:cQ P σ bx o.op=some d):Yields P X ρ bx a w o d:=by
 obtain⟨dst,op,ty,pos,af,g⟩:=o;simp only at hv;cases op with
 |move x=>simp only[cQ,sJ]at hv;subst hv;exact aQ (a.eval x) (by simp[execOp]) (h.ev x)
 |assign x=>simp only[cQ,sJ]at hv;subst hv;exact aQ (a.eval x) (by simp[execOp]) (h.ev x)
 |pick c x y=>exact LJ h hv
 |binOp op t x y t'=>
  simp only[cQ,A5]at hv;cases hn:isNil y with
  |false=>rw[hn]at hv;exact IL h hv
  |true=>
   rw[hn]at hv;have hy:y= .const .nilIface:=by
    unfold isNil at hn;split at hn
    ·rfl
    ·cases hn
   subst hy;exact N4 h hv
 |makeInterface t x=>exact I3 h hv
 |typeAssert x xt t ok=>exact Mc h hv
 |unOp op t x=>exact Me h hv
 |fieldAddr t x i=>exact Cn h hv
 |field t x i=>exact IX h hv
 |indexAddr t x y=>exact CP h hv
 |index t x y=>exact I1 h hv
 |load t x=>exact Lq h hv
 |extract x i=>
  simp only[cQ]at hv;have hx:=h.ev x;generalize ev σ x=dx at hv hx;cases dx<;>simp only[FH]at hv<;>try (cases hv;done)
  rename_i ds;obtain⟨vs,e_,hl,hr⟩:=hx.J3;have hi:i<vs.size:=by have:=(gS.1 hv).1;omega
  have hvi:vs[i]? =some vs[i]:=Array.getElem?_eq_getElem hi;exact aQ vs[i] (by simp[execOp,Instr.extract,e_,hvi]) (hr _ _ _ hv hvi)
 |slice t x lo hi mx=>
  cases mx with
  |none=>exact Jd h hv
  |some m=>exact Iu h hv
 |build t ps=>
  simp only[cQ]at hv;cases hb:mc (an P t) (ps.toList.map fun p=>(p.1,ev σ p.2))with
  |some d'=>rw[hb]at hv;injection hv with hv;subst hv;exact Ge h hb
  |none=>
   rw[hb]at hv;simp only[xO]at hv;split at hv
   ·rename_i hc;injection hv with hv;subst hv;rw[bA]at hc;obtain⟨h0,hu,i,z,hi,hz,qn,bP⟩:=KQ hc.2;have CI:ps= #[]:=by apply Array.toList_inj.1;simpa using hc.1
    subst CI;refine aQ (.agg #[]) ?_ (.pure (.agg rfl fun i d u hd hu=>by simp at hd));simp[execOp,Instr.build,zeroValue,typeInfo,hi,hz,go_sem,run_underlying hu,Instr.fill];exact N6 qn
   ·cases hv
 |buildSlice t n ps=>exact A6 h hv
 |nilCheck x=>
  simp only[cQ]at hv;have hx:=h.ev x;generalize ev σ x=dx at hv hx;cases dx<;>simp only[Hz]at hv<;>try (cases hv;done)
  ·injection hv with hv;subst hv;have eJ:=hx.fy rfl;generalize e_:a.eval x=vx at hx eJ;refine aQ vx ?_ hx;cases eJ;simp[execOp,e_]
  ·injection hv with hv;subst hv;obtain⟨p,hp,e_⟩:=hx.lJ;exact aQ (a.eval x) (by simp[execOp,e_]) hx
 |makeFunc f first caps=>
  simp only[cQ]at hv;split at hv
  ·rename_i hf;injection hv with hv;subst hv;have hf:first= #[]:=by simpa using hf
   subst hf;refine aQ (.func f #[] (caps.map a.eval)) (by simp[execOp,Instr.makeFunc]) (.fn sI fun i d v hd hv=>?_);simp only[gM,aG,Array.getElem?_map,mS]at hd hv;obtain⟨x,hx,rfl⟩:=hd;obtain⟨y,hy,rfl⟩:=hv;rw[hx]at hy;injection hy with hy;subst hy;exact h.ev x
  ·split at hv
   ·rename_i hf;have hf:caps= #[]:=by simpa using hf
    subst hf;unfold UR at hv;split at hv
    ·injection hv with hv;subst hv;refine aQ (.func (.func _) (first.map a.eval) #[]) (by simp[execOp,Instr.makeFunc]) (.iw sI fun i d v hd hv=>?_);simp only[gM,aG,Array.getElem?_map,mS]at hd hv;obtain⟨x,hx,rfl⟩:=hd;obtain⟨y,hy,rfl⟩:=hv;rw[hx]at hy;injection hy with hy;subst hy;exact h.ev x
    ·cases hv
   ·cases hv
 |convert s t x=>exact KN h hv
 |call c=>
  obtain⟨callee,args,cx⟩:=c;cases callee with
  |builtin b=>
   simp only[cQ]at hv;cases b with
   |len=>exact NX h hv
   |cap=>exact MN h hv
   |min=>exact N1 h (by simpa only[mL]using hv)
   |max=>exact NZ h (by simpa only[mL]using hv)
   |_=>simp[mL]at hv
  |_=>simp[cQ]at hv
 |_=>simp[cQ]at hv
end Go.V
namespace Go.V
open Go.RowKit
variable {P:Program} {X:Ctx} {ρ:cM} {σ:Env} {bx:ae} {a:Act} {w:World}
variable {ty:TypeId} {pos:String} {af:Array Edge} {g:Option (Nat×Bool)}
def Hy(h:aA X ρ σ bx a w){T d s:Nat}(hd:d<X.N)(bF:X.lo<=s){v:Value}{x:D}(hs:v.cells.size=x.cells.length)
 (hc:∀(j:Nat) c,x.cells[j]? =some c->∃u,v.cells[j]? =some u/\aH w (az X ρ bx w) ρ c u/\u.oneCell'=true):
 ∃ρ',aA X ρ' (ak σ d (.loc s ((bx s).ep+1) 0 0)) (ak bx s ⟨(bx s).ep+1,1,x.cells.length,T,[x]⟩) (a.put (some d) (.pointer (some ⟨w.heap.size,0,none⟩))) (w.alloc (.cells v.cells T)):=by
 have hb:=(Below.refl w.heap.size w).alloc (Nat.le_refl _) (.cells v.cells T);have h2:=h.own (w':=w.alloc (.cells v.cells T)) (t:=s) (p:=⟨w.heap.size,1,x.cells.length,T⟩) (es:=[x]) (bx1:=bx) bF (fun _=> .inl rfl) (Old:=fun _=>False) (.tR hb) (fun _ h=>h.elim) (.inl (Nat.le_refl _)) (fun S' ρ' hS hρ=>by
  refine⟨⟨v.cells,heap_alloc_new w _,by simp[hs],fun _ j=>v.cells.getD j undef,fun i y j c hi hj=>?_⟩,by simp,by simp[maxLen],fun i y hi=>?_⟩
  ·cases i with
   |zero=>
    simp only[List.getElem?_cons_zero,sJ]at hi;subst hi;dsimp only;obtain⟨u,hu,hr,h1⟩:=hc j c hj;have:v.cells.getD j undef=u:=by rw[Array.getD_eq_getD_getElem?,hu];rfl
    rw[this,Nat.zero_mul,Nat.zero_add];exact⟨hu,hr.mono (fun b eg=>hb.block b eg.1) hS hρ,h1⟩
   |succ i=>simp at hi
  ·cases i with
   |zero=>simp only[List.getElem?_cons_zero,sJ]at hi;subst hi;rfl
   |succ i=>simp at hi)
 refine⟨_,h2.put (dst:=some d) (fun t ht=>by injection ht with ht;subst ht;exact hd) (.loc (p:=⟨w.heap.size,1,x.cells.length,T⟩) ?_ sI)⟩;simp
theorem s7{t:TypeId}(h:(an P t).zero.length≠0):∃i z,P.info? t=some i/\i.zero=some z/\(an P t).zero=z.cells.toList.map AP:=by
 simp only[an]at h⊢;cases hi:P.info? t with
 |none=>simp[hi]at h
 |some i=>
  cases hz:i.zero with
  |none=>simp[hi,hz]at h
  |some z=>exact⟨i,z,rfl,hz,by simp[hz]⟩
def F5(h:aA X ρ σ bx a w){T d s:Nat}(hd:d<X.N)(bF:X.lo<=s){z:D}(hz:iZ (an P T)=some z):
 ∃v w',(execOp a.eval ⟨some d,.alloc T,ty,pos,af,g⟩).run P w= .ok (.value v) w'/\
  ∃ρ',aA X ρ' (ak σ d (.loc s ((bx s).ep+1) 0 0)) (ak bx s ⟨(bx s).ep+1,1,(an P T).size,T,[z]⟩) (a.put (some d) v) w':=by
 unfold iZ at hz;split at hz
 ·rename_i hc;obtain⟨eI,hl,iy,fg⟩:=hc;injection hz with hz;have hzero:∃zv,(zeroValue T).run P w= .ok zv w/\(an P T).zero=zv.cells.toList.map AP:=by
   have h2:(an P T).zero.length≠0:=oM;simp only[an]at h2⊢;cases hi:P.info? T with
   |none=>simp[hi]at h2
   |some i=>
    cases hz:i.zero with
    |none=>simp[hi,hz]at h2
    |some z=>exact⟨z,by simp[zeroValue,typeInfo,hi,hz,go_sem],by simp[hz]⟩
  obtain⟨zv,pt,qn⟩:=hzero;have oz:z.cells=(an P T).zero:=by
   subst hz;unfold AO;cases hA:(an P T).agg with
   |true=>rfl
   |false=>
    rcases iy with iy|iy
    ·rw[hA]at iy;cases iy
    ·rw[iy]at hl
     match vF:(an P T).zero,hl with
     |[c],_=>
      rw[vF]at fg;simp only[List.all_cons,List.all_nil,Bool.and_true]at fg;simp[gh fg]
  have hlen:z.cells.length=(an P T).size:=by rw[oz,hl]
  obtain⟨ρ',h'⟩:=Hy (T:=T) h hd bF (v:=zv) (x:=z) (by rw[oz,qn];simp) (fun j c hj=>by
   rw[oz]at hj;have h1:=List.all_eq_true.1 fg c (mG hj);rw[qn,gM,mS]at hj;obtain⟨u,hu,rfl⟩:=hj;rw[aG]at hu;exact⟨u,hu,.pure (mz u),(aH.pure (w:=w) (S:=az X ρ bx w) (ρ:=ρ) (mz u)).one h1⟩)
  rw[hlen]at h';refine⟨_,_,?_,ρ',h'⟩;simp only[execOp,Instr.alloc,Sem.run_bind,pt,Result.andThen_ok,newVar,newRow,newObj,Sem.run_pure,Sem.run,World.alloc]
 ·cases hz
def IK(h:aA X ρ σ bx a w){T d s:Nat}(hd:d<X.N)(bF:X.lo<=s){z:D}(hz:xO (iZ (an P T)) (r9 (an P T) (zeroV P T))=some z):
 ∃v w',(execOp a.eval ⟨some d,.alloc T,ty,pos,af,g⟩).run P w= .ok (.value v) w'/\
  ∃ρ',aA X ρ' (ak σ d (.loc s ((bx s).ep+1) 0 0)) (ak bx s ⟨(bx s).ep+1,1,(an P T).size,T,[z]⟩) (a.put (some d) v) w':=by
 cases hq:iZ (an P T)with
 |some z'=>rw[hq]at hz;injection hz with hz;subst hz;exact F5 h hd bF hq
 |none=>
  rw[hq]at hz;simp only[xO]at hz;split at hz
  ·rename_i hc;injection hz with hz;subst hz;obtain⟨h0,hu,i,zv,hi,pt,qn,bP⟩:=KQ hc;obtain⟨ρ',h'⟩:=Hy (T:=T) h hd bF (v:=zv) (x:=.agg []) (by rw[N6 qn];rfl) (fun j c hj=>by simp[D.cells]at hj);rw[h0];refine⟨_,_,?_,ρ',h'⟩;have pt:(zeroValue T).run P w= .ok zv w:=by simp[zeroValue,typeInfo,hi,pt,go_sem]
   simp only[execOp,Instr.alloc,Sem.run_bind,pt,Result.andThen_ok,newVar,newRow,newObj,Sem.run_pure,Sem.run,World.alloc]
  ·cases hz
def Ly(h:aA X ρ σ bx a w){T d s:Nat}(hd:d<X.N)(bF:X.lo<=s){l c:Operand}{r:Nat×TypeId×List D}(hz:uG (an P) (an P T) (ev σ l) (ev σ c)=some r):
 ∃v w',(execOp a.eval ⟨some d,.makeSlice T l c,ty,pos,af,g⟩).run P w= .ok (.value v) w'/\
  ∃ρ',aA X ρ' (ak σ d (.bE s ((bx s).ep+1) r.1 0 r.2.2.length)) (ak bx s ⟨(bx s).ep+1,1,r.1,r.2.1,r.2.2⟩) (a.put (some d) v) w':=by
 have hl:=h.ev l;have hc:=h.ev c;generalize ev σ l=dl at hz hl;generalize ev σ c=dc at hz hc;unfold uG at hz;split at hz
 ·rename_i el esz bytes g0 k1 n k2 m hk;split at hz
  ·rename_i sB;obtain⟨h0,vz,yu,Aw,qi,bP⟩:=sB;rw[mS]at hz;obtain⟨z,hz,rfl⟩:=hz;obtain⟨hu,he,r_,_⟩:=dh hk;unfold iZ at hz;split at hz
   ·rename_i VW;obtain⟨eI,lI,iy,fg⟩:=VW;injection hz with hz;obtain⟨i,zv,hi,pt,qn⟩:=s7 (P:=P) (t:=el) oM;have oz:z.cells=(an P el).zero:=by
     subst hz;unfold AO;cases hA:(an P el).agg with
     |true=>rfl
     |false=>
      rcases iy with iy|iy
      ·rw[hA]at iy;cases iy
      ·rw[iy]at lI
       match vF:(an P el).zero,lI with
       |[c],_=>
        rw[vF]at fg;simp only[List.all_cons,List.all_nil,Bool.and_true]at fg;simp[gh fg]
    have Cy:i.bytes=bytes:=by rw[r_,hi];rfl
    have tI:zv.cells.size=esz:=by
     have:(an P el).zero.length=zv.cells.size:=by rw[qn];simp
     omega
    have hmb:m<=m * bytes:=by
     have:m * 1<=m * (bytes:Int):=Int.mul_le_mul_of_nonneg_left oM oM;omega
    have hmz:0<m.toNat * esz\/m.toNat=0:=by
     rcases Nat.eq_zero_or_pos m.toNat with h|h
     ·exact .inr h
     ·exact .inl (Nat.mul_pos h Aw)
    generalize qx:((Array.range (m.toNat * esz)).map ((if m.toNat * esz=0 then(#[]:Array Value)else zv.cells)[· % (if m.toNat * esz=0 then(#[]:Array Value)else zv.cells).size]!))=arr;have CK:arr.size=m.toNat * esz:=by rw[<-qx];simp
    have eo:∀i' j,i'<m.toNat->j<esz->arr[i' * esz+j]? =some (zv.cells.getD j undef):=by
     intro i' j dH hj;have ar:i' * esz+j<m.toNat * esz:=by
      have:(i'+1) * esz<=m.toNat * esz:=Nat.mul_le_mul_right _ dH;rw[Nat.add_mul]at this;omega
     rw[<-qx];simp only[Array.getElem?_map,Array.getElem?_range,ar,if_true,Option.map_some];have bq:¬m.toNat * esz=0:=oM;simp only[bq,if_false,tI];have:(i' * esz+j) % esz=j:=by rw[Nat.mul_comm,Nat.mul_add_mod,Nat.mod_eq_of_lt hj]
     rw[this,Array.getD_eq_getD_getElem?];have:zv.cells[j]? =some (zv.cells[j]'oM):=Array.getElem?_eq_getElem oM;rw[this,getElem!_pos zv.cells j oM];rfl
    have hb:=(Below.refl w.heap.size w).alloc (Nat.le_refl _) (.cells arr el);have h2:=h.own (w':=w.alloc (.cells arr el)) (t:=s) (p:=⟨w.heap.size,m.toNat,esz,el⟩) (es:=List.replicate n.toNat z) (bx1:=bx) bF (fun _=> .inl rfl) (Old:=fun _=>False) (.tR hb) (fun _ h=>h.elim) (.inl (Nat.le_refl _)) (fun S' ρ' hS hρ=>by
     refine⟨⟨arr,heap_alloc_new w _,CK,fun _ j=>zv.cells.getD j undef,fun i' y j c dH hj=>?_⟩,by simp;omega,by simp only[maxLen];omega,fun i' y dH=>?_⟩
     ·have gx:=(gS.1 dH).1;simp only[List.length_replicate]at gx;have hy:y=z:=by
       have:=mG dH;exact List.eq_of_mem_replicate this
      subst hy;rw[oz]at hj;have yD:=(gS.1 hj).1;have h1:=List.all_eq_true.1 fg c (mG hj);rw[qn,gM,mS]at hj;obtain⟨u,hu,rfl⟩:=hj;rw[aG]at hu;have cX:zv.cells.getD j undef=u:=by rw[Array.getD_eq_getD_getElem?,hu];rfl
      refine⟨eo i' j oM oM,?_,?_⟩
      ·dsimp only;rw[cX];exact .pure (mz u)
      ·dsimp only;rw[cX];exact(aH.pure (w:=w) (S:=az X ρ bx w) (ρ:=ρ) (mz u)).one h1
     ·have hy:y=z:=List.eq_of_mem_replicate (mG dH);subst hy;rw[oz];show(an P el).zero.length=esz;omega)
    refine⟨.slice (some ⟨w.heap.size,0,none⟩) n.toNat m.toNat,_,?_,_,h2.put (dst:=some d) (fun t ht=>by injection ht with ht;subst ht;exact hd) ?_⟩
    ·have hby2:(bytes:Int) * m<=140737488355328:=by rw[Int.mul_comm];exact yu
     have hp:(2:Int) ^ 48=281474976710656:=by decide
     have sB:(decide (m<0)||decide ((bytes:Int) * m>2 ^ 48)||decide (n<0)||decide (n>m))=false:=by
      rw[hp];simp only[Bool.or_eq_false_iff,decide_eq_false_iff_not];omega
     have ha:∀k (n:Int),(asInt (.int k n)).run P w= .ok n w:=fun k n=>by simp[asInt,asIntOf]
     have uB:IntKind.i64.wrap n=n:=IntWalk.i64_in n ⟨by omega,by omega⟩;have iL:IntKind.i64.wrap m=m:=IntWalk.i64_in m ⟨by omega,by omega⟩;have ZA:(program).run P w= .ok P w:=by simp[go_sem]
     have hzv:(zeroValue el).run P w= .ok zv w:=by simp[zeroValue,typeInfo,hi,pt,go_sem]
     simp only[execOp,Instr.makeSlice,hl.dX,hc.dX,Sem.run_bind,run_underlying hu,Sem.run_pure,Result.andThen_ok,ha,typeInfo,ZA,hi,Cy,uB,iL,sB,Bool.false_eq_true,if_false,run_askRoom,cW (P:=P) (t:=el) oM,<-he];by_cases JZ:m.toNat * esz=0
     ·simp only[JZ,if_true]at qx;simp only[JZ,if_true,Sem.run_bind,Sem.run_pure,Result.andThen_ok,newRow,newObj,Sem.run,World.alloc];rw[<-qx]
     ·simp only[JZ,if_false]at qx;simp only[JZ,if_false,Sem.run_bind,Sem.run_pure,Result.andThen_ok,hzv,newRow,newObj,Sem.run,World.alloc];rw[<-qx]
    ·simp only[List.length_replicate];refine .bE (p:=⟨w.heap.size,m.toNat,esz,el⟩) ?_ rfl (fun _=>⟨rfl,rfl⟩) (fun _=>by simp) ?_ ?_
     ·simp
     ·simp;omega
     ·simp only[maxLen];omega
   ·cases hz
  ·cases hz
 ·cases hz
def Lp(h:aA X ρ σ bx a w){T d s n:Nat}(hd:d<X.N)(bF:X.lo<=s){ps:Array (Nat×Operand)}{r:Nat×TypeId×List D}(hz:uF (an P) (an P T) n (ps.toList.map fun p=>(p.1,ev σ p.2))=some r):
 ∃v w',(execOp a.eval ⟨some d,.buildSlice T n ps,ty,pos,af,g⟩).run P w= .ok (.value v) w'/\
  ∃ρ',aA X ρ' (ak σ d (.bE s ((bx s).ep+1) r.1 0 r.2.2.length)) (ak bx s ⟨(bx s).ep+1,1,r.1,r.2.1,r.2.2⟩) (a.put (some d) v) w':=by
 unfold uF at hz;split at hz
 ·rename_i e esz b ag hk;split at hz
  ·rename_i hc;obtain⟨hm,ha,eI,wC,lI⟩:=hc;injection hz with hz;subst hz;obtain⟨hu,gn,_,_⟩:=dh hk;generalize JJ:(ps.toList.map fun p=>(p.1,ev σ p.2))=mY at hm ha;have hlen:mY.length=n:=by have:=congrArg List.length hm;simpa using this
   obtain⟨ff,bR,fq⟩:=J9 (ag:=ag) h hu gn JJ hm ha eI wC lI;have eF:∀x∈mY.map (·.2),x.cells.length=esz/\x.cells.all D.one=true:=by
    intro x hx;obtain⟨p,hp,rfl⟩:=List.mem_map.1 hx;have:=List.all_eq_true.1 ha p hp;simp only[bA,beq_iff_eq]at this;exact this
   have jt:∀(i:Nat) d (j:Nat) c,(mY.map (·.2))[i]? =some d->d.cells[j]? =some c->∃u,ff[i * esz+j]? =some u/\aH w (az X ρ bx w) ρ c u:=by
    intro i d j c hi hj;have hd:=eF d (mG hi);have pj:j<esz:=by have:=(gS.1 hj).1;omega
    have hf:=Bb (sz:=esz) (mY.map (·.2)) i j d (fun x hx=>(eF x hx).1) hi pj;rw[hj]at hf;have ar:=(gS.1 hf).1;have Be:i * esz+j<ff.size:=by rw[fq.1];exact ar
    have gp:ff[i * esz+j]? =some ff[i * esz+j]:=Array.getElem?_eq_getElem Be;exact⟨_,gp,fq.2 _ _ _ hf gp⟩
   have cX:∀(i:Nat) d (j:Nat) c,(mY.map (·.2))[i]? =some d->d.cells[j]? =some c->ff[i * esz+j]? =some (ff.getD (i * esz+j) undef)/\aH w (az X ρ bx w) ρ c (ff.getD (i * esz+j) undef):=by
    intro i d j c hi hj;obtain⟨u,gp,hr⟩:=jt i d j c hi hj;have:ff.getD (i * esz+j) undef=u:=by rw[Array.getD_eq_getD_getElem?,gp];rfl
    rw[this];exact⟨gp,hr⟩
   have CK:ff.size=n * esz:=by
    rw[fq.1,GD (mY.map (·.2)) (fun x hx=>(eF x hx).1)];simp[hlen]
   have hb:=(Below.refl w.heap.size w).alloc (Nat.le_refl _) (.cells ff e);have hmn:n<=n * esz:=Nat.le_mul_of_pos_right n eI;have h2:=h.own (w':=w.alloc (.cells ff e)) (t:=s) (p:=⟨w.heap.size,n,esz,e⟩) (es:=mY.map (·.2)) (bx1:=bx) bF (fun _=> .inl rfl) (Old:=fun _=>False) (.tR hb) (fun _ h=>h.elim) (.inl (Nat.le_refl _)) (fun S' ρ' hS hρ=>by
    refine⟨⟨ff,heap_alloc_new w _,CK,fun i j=>ff.getD (i * esz+j) undef,fun i' y j c dH hj=>?_⟩,by simp;omega,by simp only[maxLen];omega,fun i' y dH=>?_⟩
    ·obtain⟨g1,g2⟩:=cX i' y j c dH hj;have h1:=List.all_eq_true.1 (eF y (mG dH)).2 c (mG hj);exact⟨g1,(g2.mono (fun b eg=>hb.block b eg.1) (fun b eg=>hS b eg) hρ),g2.one h1⟩
    ·exact(eF y (mG dH)).1)
   refine⟨.slice (some ⟨w.heap.size,0,none⟩) n n,_,?_,_,h2.put (dst:=some d) (fun t ht=>by injection ht with ht;subst ht;exact hd) ?_⟩
   ·simp only[execOp,Sem.run_bind,bR,Result.andThen_ok,Sem.run_pure]
   ·simp only[List.length_map,hlen];refine .bE (p:=⟨w.heap.size,n,esz,e⟩) ?_ rfl (fun _=>⟨rfl,rfl⟩) (fun _=>by simp) ?_ ?_
    ·simp
    ·simp
    ·simp only[maxLen];omega
  ·cases hz
 ·cases hz
def MD(h:aA X ρ σ bx a w){T d s:Nat}(hd:d<X.N)(bF:X.lo<=s){x:Operand}{z:D}(hz:x8 (an P T) (ev σ x)=some z):
 ∃v w',(execOp a.eval ⟨some d,.box T x,ty,pos,af,g⟩).run P w= .ok (.value v) w'/\
  ∃ρ',aA X ρ' (ak σ d (.loc s ((bx s).ep+1) 0 0)) (ak bx s ⟨(bx s).ep+1,1,(an P T).size,T,[z]⟩) (a.put (some d) v) w':=by
 have hx:=h.ev x;generalize ev σ x=dx at hz hx;unfold x8 at hz;split at hz
 ·rename_i hc;obtain⟨eI,hl,fg⟩:=hc;injection hz with hz;subst hz;obtain⟨hs,jh⟩:=hx.cells fg;obtain⟨ρ',h'⟩:=Hy (T:=T) h hd bF (v:=a.eval x) (x:=dx) hs jh;rw[hl]at h';refine⟨_,_,?_,ρ',h'⟩;simp only[execOp,Instr.box,Sem.run_bind,Result.andThen_ok,newVar,newRow,newObj,Sem.run_pure,Sem.run,World.alloc]
 ·cases hz
def QW{d d':D}{j:Nat}{cs:List D}(h:fi d j cs=some d')(fg:cs.all D.one=true):d'.cells.length=d.cells.length/\j+cs.length<=d.cells.length/\∀(k:Nat) c,d'.cells[k]? =some c->(j<=k/\k<j+cs.length/\cs[k - j]? =some c)\/((k<j\/j+cs.length<=k)/\d.cells[k]? =some c):=by
 unfold fi at h;split at h
 ·rename_i hle;cases d with
  |agg ds=>
   simp only[sJ]at h;subst h;simp only[D.cells]at hle⊢;refine⟨by simp;omega,hle,fun k c hk=>?_⟩;by_cases h1:k<j
   ·rw[List.append_assoc,List.getElem?_append_left (by simp;omega),List.getElem?_take_of_lt h1]at hk;exact .inr ⟨.inl h1,hk⟩
   ·have hl:(ds.take j).length=j:=by simp;omega
    by_cases h2:k<j+cs.length
    ·rw[List.append_assoc,List.getElem?_append_right oM,hl,List.getElem?_append_left oM]at hk;exact .inl ⟨by omega,h2,hk⟩
    ·have pk:(ds.take j++cs).length=j+cs.length:=by simp;omega
     rw[List.getElem?_append_right oM,pk,List.getElem?_drop]at hk;have:j+cs.length+(k - (j+cs.length))=k:=oM;rw[this]at hk;exact .inr ⟨.inr oM,hk⟩
  |_=>
   all_goals
    match cs,h with
    |[c],h=>
     simp only[sJ]at h;subst h;simp only[List.all_cons,List.all_nil,Bool.and_true]at fg;rw[gh fg];simp only[D.cells,List.length_cons,List.length_nil]at hle⊢;refine⟨by simp,hle,fun k c' hk=>?_⟩;obtain rfl:j=0:=oM;have iz:k=0:=by have:=(gS.1 hk).1;simp at this;exact this
     subst iz;exact .inl ⟨Nat.le_refl _,by omega,hk⟩
 ·cases h
def putRow(cur:Array Value)(o:Nat)(vs:Array Value):Array Value:=
 (cur.toList.take o++vs.toList++cur.toList.drop (o+vs.size)).toArray
def I6{cur vs:Array Value}{o:Nat}(h:o+vs.size<=cur.size):(putRow cur o vs).size=cur.size:=by
 unfold putRow;simp only[List.size_toArray,List.length_append,List.length_take,List.length_drop,Array.length_toList];omega
def LO{cur vs:Array Value}{o:Nat}(h:o+vs.size<=cur.size)(k:Nat):(putRow cur o vs)[k]? =if o<=k/\k<o+vs.size then vs[k - o]? else cur[k]?:=by
 unfold putRow;rw[List.getElem?_toArray];have yF:(cur.toList.take o).length=o:=by simp only[List.length_take,Array.length_toList];omega
 by_cases h1:k<o
 ·rw[if_neg oM,List.append_assoc,List.getElem?_append_left oM,List.getElem?_take_of_lt h1,aG]
 ·by_cases h2:k<o+vs.size
  ·rw[if_pos oM,List.append_assoc,List.getElem?_append_right oM,yF,List.getElem?_append_left (by simp only[Array.length_toList];omega),aG]
  ·have pk:(cur.toList.take o++vs.toList).length=o+vs.size:=by simp only[List.length_append,yF,Array.length_toList]
   rw[if_neg oM,List.getElem?_append_right oM,pk,List.getElem?_drop,aG]
   congr 1
   omega
def ET{S:Nat->Prop}{p:Place}{es:List D}{i j:Nat}{d0 d' dy:D}{v:Value}
 (hh:Holds w S ρ p es) (hS:∀b,S b->b≠p.b) (hi:es[i]? =some d0) (gG:fi d0 j dy.cells=some d') (fg:dy.cells.all D.one=true) (hy:aH w S ρ dy v):
 ∃cur,w.heap[p.b]? =some (.cells cur p.ty)/\i * p.sz+j+v.cells.size<=cur.size/\(∀u∈v.cells.toList,u.oneCell'=true)/\
  Holds (w.setRow p.b (putRow cur (i * p.sz+j) v.cells)) S ρ p (es.set i d'):=by
 obtain⟨⟨cur,gj,eU,us,gL⟩,rn,xJ,bP⟩:=hh;obtain⟨hs,jh⟩:=hy.cells fg;obtain⟨hlen,jL,eo⟩:=QW gG fg;have nd:=bP i d0 hi;have hilt:=(gS.1 hi).1;have hmul:i * p.sz+p.sz<=cur.size:=by rw[eU,<-Nat.succ_mul];exact Nat.mul_le_mul_right _ oM
 have jv:i * p.sz+j+v.cells.size<=cur.size:=oM;refine⟨cur,gj,jv,fun u hu=>?_,?_⟩
 ·obtain⟨k,ji,bV⟩:=List.mem_iff_getElem.1 hu;have tz:k<dy.cells.length:=by rw[<-hs];simpa using ji
  obtain⟨u',gp,_,h1⟩:=jh k _ (gE tz);have:u=u':=by
   have h3:v.cells.toList[k]? =some u:=by rw[gE ji,bV]
   rw[aG,gp]at h3;injection h3 with h3;exact h3.symm
  rw[this];exact h1
 ·have NI:=I6 jv;have zX:=LO jv;generalize putRow cur (i * p.sz+j) v.cells=new at NI zX⊢;have lx:∀c u,aH w S ρ c u->aH (w.setRow p.b new) S ρ c u:=fun c u hr=>hr.mono (fun b eg=>setRow_other w p.b b new (hS b eg)) (fun _ h=>h) (fun _ _ _ h=>h);have fin:∀c q u,new[q]? =some u->aH w S ρ c u->u.oneCell'=true->new[q]? =some (new.getD q undef)/\aH (w.setRow p.b new) S ρ c (new.getD q undef)/\(new.getD q undef).oneCell'=true:=by
   intro c q u hu hr h1;have:new.getD q undef=u:=by rw[Array.getD_eq_getD_getElem?,hu];rfl
   rw[this];exact⟨hu,lx _ _ hr,h1⟩
  refine⟨⟨new,setRow_heap w p.b cur new p.ty (0,0) gj,by rw[NI,eU],fun i' k=>new.getD (i' * p.sz+k) undef,fun i' d k c dH cT=>?_⟩,by simpa using rn,xJ,fun i' d dH=>?_⟩
  ·by_cases JN:i'=i
   ·subst JN;rw[List.getElem?_set_self oM]at dH;injection dH with dH;subst dH;rcases eo k c cT with⟨k1,k2,k3⟩|⟨k1,k3⟩
    ·obtain⟨u,hu,hr,h1⟩:=jh _ _ k3;refine fin _ _ u ?_ hr h1;rw[zX,if_pos oM];have:i' * p.sz+k - (i' * p.sz+j)=k - j:=oM;rw[this];exact hu
    ·obtain⟨u1,u2,u3⟩:=gL i' d0 k c hi k3;refine fin _ _ _ ?_ u2 u3;rw[zX,if_neg oM];exact u1
   ·rw[List.getElem?_set_ne (Ne.symm JN)]at dH;have hkz:k<p.sz:=by have:=(gS.1 cT).1;rw[bP i' d dH]at this;exact this
    obtain⟨u1,u2,u3⟩:=gL i' d k c dH cT;refine fin _ _ _ ?_ u2 u3;rw[zX,if_neg ?_]
    ·exact u1
    ·rcases Nat.lt_or_gt_of_ne JN with ar|V4
     ·have:=Nat.mul_le_mul_right p.sz (show i'+1<=i from ar);rw[Nat.succ_mul]at this;omega
     ·have:=Nat.mul_le_mul_right p.sz (show i+1<=i' from V4);rw[Nat.succ_mul]at this;omega
  ·by_cases JN:i'=i
   ·subst JN;rw[List.getElem?_set_self oM]at dH;injection dH with dH;subst dH;rw[hlen,nd]
   ·rw[List.getElem?_set_ne (Ne.symm JN)]at dH;exact bP i' d dH
def Ix(h:aA X ρ σ bx a w){T:Nat}{x y:Operand}{dst:Option Tmp}(ct:∀t,dst=some t->t<X.N){lo:Nat}(bF:X.lo<=lo){bx':ae}(hv:gB lo (an P T) bx (ev σ x) (ev σ y)=some bx'):
 ∃w',(execOp a.eval ⟨dst,.store T x y,ty,pos,af,g⟩).run P w= .ok .skip w'/\∃ρ',aA X ρ' (put σ dst (.raw undef)) bx' (a.put dst undef) w':=by
 have hx:=h.ev x;have hy:=h.ev y;generalize ev σ x=dx at hv hx;generalize ev σ y=dy at hv hy;unfold gB at hv;split at hv
 ·rename_i t e i j;split at hv
  ·rename_i hc;obtain⟨ar,hl,eI,fg⟩:=hc;unfold v_ at hv;split at hv
   ·rename_i hk;obtain⟨he,hk⟩:=hk;cases hi:(bx t).es[i]? with
    |none=>simp[hi]at hv
    |some d0=>
     simp only[hi,mS]at hv;obtain⟨d',gG,rfl⟩:=hv;obtain⟨p,hp,e_⟩:=hx.lJ;obtain⟨p',bJ,j9,vB,gJ,hh⟩:=h.box t (by rw[hk];decide);rw[he,hp]at bJ;injection bJ with bJ;subst bJ;have EV:ρ t (bx t).ep=some p:=by rw[he];exact hp
     obtain⟨cur,gj,jv,eG,JM⟩:=ET hh (fun b hb e=>hb.2.2 t hk p EV e.symm) hi gG fg hy;obtain⟨hs,_⟩:=hy.cells fg;have bw:=run_storeCells_at P p.b (i * p.sz+j) p.ty (a.eval y).cells.toList 0 cur w gj (by simpa using jv) eG;simp only[Nat.add_zero,Array.length_toList]at bw;have yB:Fr (fun b=>b=p.b) w (w.setRow p.b (putRow cur (i * p.sz+j) (a.eval y).cells)):=⟨rfl,rfl,rfl,by simp[World.setRow],fun k _ hk=>setRow_other w p.b k _ hk⟩
     refine⟨w.setRow p.b (putRow cur (i * p.sz+j) (a.eval y).cells),?_,ρ,((h.stored (Nat.le_trans bF ar) hk EV yB JM).put ct (.pure (.raw _)))⟩;have nR:=cW (P:=P) (t:=T) eI w;have aeq:(an P T).size=cG P T:=rfl;have bq:¬((a.eval y).cells.size≠cG P T):=by rw[hs,hl,aeq];simp
     simp only[execOp,Instr.storeAt,Instr.sureAddr,e_,Sem.run_bind,Sem.run_pure,Result.andThen_ok,storeVar,nR,bq,if_false];rw[bw];simp only[Result.andThen_ok,putRow]
   ·cases hv
  ·cases hv
 ·cases hv
theorem Je(h:aA X ρ σ bx a w){T:Nat}{x y:Operand}{dst:Option Tmp}(ct:∀t,dst=some t->t<X.N){lo:Nat}(bF:X.lo<=lo){bx':ae}(hv:vJ (gB lo (an P T) bx (ev σ x) (ev σ y)) (r9 (an P T) (zeroV P T)) bx (ev σ x) (ev σ y)=some bx'):
 ∃w',(execOp a.eval ⟨dst,.store T x y,ty,pos,af,g⟩).run P w= .ok .skip w'/\∃ρ',aA X ρ' (put σ dst (.raw undef)) bx' (a.put dst undef) w':=by
 cases hq:gB lo (an P T) bx (ev σ x) (ev σ y)with
 |some z'=>rw[hq]at hv;injection hv with hv;subst hv;exact Ix h ct bF hq
 |none=>
  rw[hq]at hv;have hx:=h.ev x;have hy:=h.ev y;generalize ev σ x=dx at hv hx;generalize ev σ y=dy at hv hy;simp only[vJ]at hv;split at hv
  ·split at hv
   ·rename_i hc;injection hv with hv;subst hv;obtain⟨h0,hu,i,zv,hi,pt,qn,bP⟩:=KQ hc.1;obtain⟨p,hp,e_⟩:=hx.lJ;obtain⟨hs,_⟩:=hy.cells (by rw[hc.2];rfl);have he:(a.eval y).cells= #[]:=Array.eq_empty_of_size_eq_zero (by rw[hs,hc.2];rfl);refine⟨w,?_,ρ,h.put ct (.pure (.raw _))⟩;have hso:(sizeOf T).run P w= .ok 0 w:=by simp[sizeOf,typeInfo,hi,bP,go_sem]
    have bq:¬((a.eval y).cells.size≠0):=by rw[he];simp
    simp only[execOp,Instr.storeAt,Instr.sureAddr,e_,Sem.run_bind,Sem.run_pure,Result.andThen_ok,storeVar,hso,bq,if_false];rw[he];simp[storeCells,go_sem]
   ·cases hv
  ·cases hv
end Go.V
namespace Go.V
open Go.RowKit
variable {P:Program} {X:Ctx} {ρ:cM} {σ:Env} {bx:ae} {a:Act} {w:World}
variable {ty:TypeId} {pos:String} {af:Array Edge} {g:Option (Nat×Bool)}
theorem aH.pw{S:Nat->Prop}{t e sz o n:Nat}{v:Value}(h:aH w S ρ (.bE t e sz o n) v):∃p off cap,ρ t e=some p/\p.sz=sz/\(o=0->off=0/\cap=p.cap)/\(0<n->off=o * sz)/\n<=cap/\o+cap<=p.cap/\p.cap<=maxLen/\
 v= .slice (some ⟨p.b,off,none⟩) n cap:=by
 cases h with
 |pure h=>cases h
 |bE hp bP h0 dQ hn dF=>exact⟨_,_,_,hp,bP,h0,fun h=>dQ oM,hn,dF.1,dF.2,rfl⟩
theorem aH.DU{S:Nat->Prop}{t e i j n:Nat}{v:Value}(h:aH w S ρ (.fH t e i j n) v):∃p off cap,ρ t e=some p/\(0<n->off=i * p.sz+j)/\n<=cap/\cap<=65536/\v= .slice (some ⟨p.b,off,none⟩) n cap:=by
 cases h with
 |pure h=>cases h
 |fH hp dQ hn dF=>exact⟨_,_,_,hp,fun h=>dQ oM,hn,dF,rfl⟩
def ox(h:aA X ρ σ bx a w){esz:Nat}{x:D}{v:Value}(hx:aH w (az X ρ bx w) ρ x v){ys:List D}(he:iJ bx esz x=some ys):
 ∃A c b off,∃us:Nat->Nat->Value,v= .slice A ys.length c/\(ys≠[]->A=some ⟨b,off,none⟩)/\(∀(i:Nat) d,ys[i]? =some d->d.cells.length=esz)/\
  ∀(i:Nat) d (j:Nat) c,ys[i]? =some d->d.cells[j]? =some c->w.cell? ⟨b,off+i * esz+j,none⟩=some (us i j)/\aH w (az X ρ bx w) ρ c (us i j)/\(us i j).oneCell'=true:=by
 unfold iJ at he;split at he
 ·injection he with he;subst he;exact⟨none,0,0,0,fun _ _=>undef,hx.gd,by simp,by simp,by simp⟩
 ·rename_i sz es;split at he
  ·rename_i hs;injection he with he;subst he;subst hs;cases hx with
   |pure hx=>
    cases hx with
    |@sl _ _ A n cap b off us hn dF ja hA bP hc h1 hr=>
     subst hn;exact⟨A,cap,b,off,us,rfl,fun bq=>(hA bq).1,bP,fun i d j c hi hj=>⟨hc i d j c hi hj,.pure (hr i d j c hi hj),h1 i d j c hi hj⟩⟩
  ·cases he
 ·rename_i t e sz o n;split at he
  ·rename_i hs;obtain⟨hs,JK,hk,hbs,hle⟩:=hs;injection he with he;subst hs;obtain⟨p,off,cap,hp,j9,h0,dQ,hn,NJ,ja,rfl⟩:=hx.pw;obtain⟨p',bJ,DS,vB,gJ,hh⟩:=h.box t hk;rw[JK,hp]at bJ;injection bJ with bJ;subst bJ;have hl:ys.length=n:=by rw[<-he];simp;omega
   have eo:∀(i:Nat) d,ys[i]? =some d->(bx t).es[o+i]? =some d/\0<n:=by
    intro i d hi;have dH:=(gS.1 hi).1;rw[<-he,List.getElem?_take_of_lt oM,List.getElem?_drop]at hi;exact⟨hi,by omega⟩
   obtain⟨⟨cur,gj,eU,us,gL⟩,rn,xJ,bP⟩:=hh;refine⟨_,_,p.b,off,fun i j=>us (o+i) j,by rw[hl],fun _=>rfl,fun i d hi=>(bP _ d (eo i d hi).1).trans j9,fun i d j c hi hj=>?_⟩;obtain⟨h1,h2⟩:=eo i d hi;obtain⟨u1,u2,u3⟩:=gL (o+i) d j c h1 hj;refine⟨?_,u2,u3⟩;have:off+i * sz+j=(o+i) * p.sz+j:=by rw[dQ h2,Nat.add_mul,j9]
   rw[this];simp[World.cell?,gj,u1]
  ·cases he
 ·rename_i sz es;split at he
  ·rename_i hs;injection he with he;subst he;subst hs;have hx:=(hx.fy rfl).rC;cases hx with
   |@sl _ _ A n cap b off us hn dF ja hA bP hc h1 hr=>
    subst hn;exact⟨A,cap,b,off,us,rfl,fun bq=>(hA bq).1,bP,fun i d j c hi hj=>⟨hc i d j c hi hj,.pure (hr i d j c hi hj),h1 i d j c hi hj⟩⟩
  ·cases he
 ·rename_i t e i j n;split at he
  ·rename_i hs;obtain⟨hs,JK,hk⟩:=hs;subst hs;split at he
   ·rename_i d0 nd;split at he
    ·rename_i lj;obtain⟨hle,dV⟩:=lj;injection he with he;obtain⟨p,off,cap,hp,dQ,hn,dF,rfl⟩:=hx.DU;obtain⟨p',bJ,DS,vB,gJ,hh⟩:=h.box t hk;rw[JK,hp]at bJ;injection bJ with bJ;subst bJ;have hl:ys.length=n:=by rw[<-he];simp;omega
     have eo:∀(m:Nat) d,ys[m]? =some d->d0.cells[j+m]? =some d/\0<n/\d.cells=[d]:=by
      intro m d hm;have tB:=(gS.1 hm).1;have fg:d.one=true:=List.all_eq_true.1 dV d (by rw[he];exact mG hm);rw[<-he,List.getElem?_take_of_lt oM,List.getElem?_drop]at hm;exact⟨hm,by omega,gh fg⟩
     obtain⟨⟨cur,gj,eU,us,gL⟩,rn,xJ,bP⟩:=hh;refine⟨_,_,p.b,off,fun m _=>us i (j+m),by rw[hl],fun _=>rfl,fun m d hm=>by rw[(eo m d hm).2.2];rfl,fun m d k c hm cT=>?_⟩;obtain⟨g1,g2,g3⟩:=eo m d hm;rw[g3]at cT;obtain rfl:k=0:=by
      rcases k with _|k
      ·rfl
      ·simp at cT
     simp only[List.getElem?_cons_zero,sJ]at cT;subst cT;obtain⟨u1,u2,u3⟩:=gL i d0 (j+m) d nd g1;refine⟨?_,u2,u3⟩;rw[dQ g2,show i * p.sz+j+m * 1+0=i * p.sz+(j+m) by omega];simp[World.cell?,gj,u1]
    ·cases he
   ·cases he
  ·cases he
 ·cases he
def rowOf(us:Nat->Nat->Value)(m sz:Nat):List Value:=(List.range (m * sz)).map fun k=>us (k / sz) (k % sz)
def iO(us:Nat->Nat->Value)(m sz:Nat):(rowOf us m sz).length=m * sz:=by simp[rowOf]
def rI{us:Nat->Nat->Value}{m sz i j:Nat}(hi:i<m)(hj:j<sz):(rowOf us m sz)[i * sz+j]? =some (us i j):=by
 have ar:i * sz+j<m * sz:=by
  have:=Nat.mul_le_mul_right sz (show i+1<=m from hi);rw[Nat.succ_mul]at this;omega
 unfold rowOf;rw[gM,List.getElem?_range ar,Option.map_some]
 congr 2
 ·rw[Nat.add_comm,Nat.add_mul_div_right _ _ oM,Nat.div_eq_of_lt hj,Nat.zero_add]
 ·rw[Nat.add_comm,Nat.add_mul_mod_self_right,Nat.mod_eq_of_lt hj]
def kQ{us:Nat->Nat->Value}{m sz k:Nat}{u:Value}(h:(rowOf us m sz)[k]? =some u):∃i j,i<m/\j<sz/\k=i * sz+j/\u=us i j:=by
 have hk:k<m * sz:=by have:=(gS.1 h).1;rw[iO]at this;exact this
 have hz:0<sz:=by
  rcases Nat.eq_zero_or_pos sz with h0|h0
  ·subst h0;simp at hk
  ·exact h0
 have GZ:k / sz * sz+k % sz=k:=Nat.div_add_mod' k sz;have hi:k / sz<m:=Nat.div_lt_of_lt_mul (by rw[Nat.mul_comm];exact hk);have hj:=Nat.mod_lt k hz;refine⟨k / sz,k % sz,hi,hj,GZ.symm,?_⟩;have:=rI (us:=us) hi hj;rw[GZ,h]at this;injection this
def Am(h:aA X ρ σ bx a w){T d sl el esz bytes n:Nat}{ag:Bool}(hd:d<X.N)(bF:X.lo<=sl)(hk:(an P T).k= .slice el esz bytes ag)(Aw:esz≠0)(hz:(an P el).zero.length=esz)
 {vx vy:Value} {xs:List Value} {xs0 ys:List D} {us0:Nat->Nat->Value} (mF:w.ownsRow 0 el esz vx n xs) (lG:xs0.length=n)
 (JX:∀(i:Nat) d,xs0[i]? =some d->d.cells.length=esz)
 (jI:∀(i:Nat) d (j:Nat) c,xs0[i]? =some d->d.cells[j]? =some c->xs[i * esz+j]? =some (us0 i j)/\aH w (az X ρ bx w) ρ c (us0 i j)/\(us0 i j).oneCell'=true)
 {c b off:Nat} {us:Nat->Nat->Value} (bq:ys≠[]) (xL:vy= .slice (some ⟨b,off,none⟩) ys.length c) (lH:∀(i:Nat) d,ys[i]? =some d->d.cells.length=esz)
 (h_:∀(i:Nat) d (j:Nat) c,ys[i]? =some d->d.cells[j]? =some c->w.cell? ⟨b,off+i * esz+j,none⟩=some (us i j)/\aH w (az X ρ bx w) ρ c (us i j)/\(us i j).oneCell'=true)
 (yu:(n+ys.length) * bytes<=140737488355328) (qi:0<bytes) {bx1:ae} (h1:∀s,bx1 s=bx s\/((bx1 s).k=0/\(bx1 s).ep=(bx s).ep/\X.lo<=s))
 (hO:∀b,some b=vx.ownBlock->∃t0 p0,(bx t0).k=1/\ρ t0 (bx t0).ep=some p0/\p0.b=b/\(t0=sl\/(bx1 t0).k=0)):
 ∃v w',(Builtin.append_ #[T,T] ty #[vx,vy]).run P w= .ok v w'/\
  ∃ρ',aA X ρ' (ak σ d (.bE sl ((bx sl).ep+1) esz 0 (n+ys.length))) (ak bx1 sl ⟨(bx sl).ep+1,1,esz,el,xs0++ys⟩) (a.put (some d) v) w':=by
 obtain⟨hu,he,r_,_⟩:=dh hk;obtain⟨i,z,hi,vF,AK⟩:=s7 (P:=P) (t:=el) oM;have bP:i.size=esz:=by
  obtain⟨i',_,dH,_,dW⟩:=lN (P:=P) (t:=el) oM;rw[hi]at dH;injection dH with dH;rw[dH,dW,he]
 have Cy:i.bytes=bytes:=by rw[r_,hi];rfl
 have tI:z.cells.size=esz:=by rw[<-hz,AK];simp
 have rp:(n+ys.length)<=maxLen:=by
  have:=Nat.le_mul_of_pos_right (n+ys.length) qi;simp only[maxLen];omega
 have V8:0<ys.length:=List.length_pos_iff.2 bq;have jt:∀i j,i<ys.length->j<esz->w.cell? ⟨b,off+i * esz+j,none⟩=some (us i j)/\(us i j).oneCell'=true:=by
  intro i j hi hj;have hd:=gE hi;have hc:=gE (show j<ys[i].cells.length by rw[lH i _ hd];exact hj);exact⟨(h_ i _ j _ hd hc).1,(h_ i _ j _ hd hc).2.2⟩
 obtain⟨v',w',hr,wG,vt,Wa,P8⟩:=run_append_own_at (P:=P) w 0 T ty el i z esz bytes hu hi vF bP Cy tI oM vx n xs mF ⟨b,off,none⟩ ys.length c (rowOf us ys.length esz) (iO _ _ _)
  (fun j u hj=>by
   obtain⟨k,l,hk,hl,rfl,rfl⟩:=kQ hj;rw[Addr.ea];have:=(jt k l hk hl).1;rw[<-Nat.add_assoc];exact this)
  (fun u hu=>by
   obtain⟨j,hj⟩:=List.mem_iff_getElem?.1 hu;obtain⟨k,l,hk,hl,rfl,rfl⟩:=kQ hj;exact(jt k l hk hl).2) rp yu (Nat.zero_le _)
 subst xL;obtain⟨hlen,wG⟩:=wG;rcases wG with⟨_,wG⟩|⟨gg,cap,cur,rfl,_,V3,AB,pO,eU,CL⟩
 ·omega
 have hold:w.heap.size<=gg\/some gg=vx.ownBlock:=by
  rcases P8 with hb|hb
  ·exact .inr hb
  ·simp only[Value.ownBlock,sJ]at hb;exact .inl oM
 have hw:∀b,az X ρ bx w b->w'.heap[b]? =w.heap[b]?:=fun b hb=>vt.block b hb.1 (fun e=>by
  obtain⟨t0,p0,iz,oF,EU,_⟩:=hO b e;exact hb.2.2 t0 iz p0 oF EU)
 have fN:∀(k:Nat) (u:Value),(xs++rowOf us ys.length esz)[k]? =some u->cur[k]? =some u:=by
  intro k u hk;rw[<-CL]at hk;have ar:=(gS.1 hk).1;rw[List.length_take]at ar;rw[List.getElem?_take_of_lt oM,aG]at hk;exact hk
 have h2:=h.own (w':=w') (t:=sl) (p:=⟨gg,cap,esz,el⟩) (es:=xs0++ys) (bx1:=bx1) bF h1 (Old:=fun b=>some b=vx.ownBlock) (.HG vt) hO hold (fun S' ρ' hS hρ=>by
  have lx:∀c u,aH w (az X ρ bx w) ρ c u->aH w' S' ρ' c u:=fun c u hr=>hr.mono hw hS hρ;refine⟨⟨cur,V3,eU,fun i j=>if i<n then us0 i j else us (i - n) j,fun i y j c hi hj=>?_⟩,by simp[lG,AB],pO,fun i y hi=>?_⟩
  ·dsimp only;by_cases kG:i<n
   ·rw[List.getElem?_append_left oM]at hi;obtain⟨u1,u2,u3⟩:=jI i y j c hi hj;simp only[kG,if_true];refine⟨fN _ _ ?_,lx _ _ u2,u3⟩;rw[List.getElem?_append_left ((gS.1 u1).1)];exact u1
   ·rw[List.getElem?_append_right oM,lG]at hi;obtain⟨u1,u2,u3⟩:=h_ (i - n) y j c hi hj;simp only[kG,if_false];refine⟨fN _ _ ?_,lx _ _ u2,u3⟩;have Az:j<esz:=by have:=(gS.1 hj).1;rw[lH _ y hi]at this;exact this
    have jF:=(gS.1 hi).1;have Hj:xs.length=n * esz:=mF.1;have e1:i * esz+j=n * esz+((i - n) * esz+j):=by
     have:i=n+(i - n):=oM
     conv=>lhs;rw[this,Nat.add_mul]
     omega
    rw[List.getElem?_append_right (by rw[Hj,e1];omega),Hj,e1,Nat.add_sub_cancel_left];exact rI jF Az
  ·by_cases kG:i<n
   ·rw[List.getElem?_append_left oM]at hi;exact JX i y hi
   ·rw[List.getElem?_append_right oM]at hi;exact lH _ y hi)
 refine⟨_,_,hr,_,h2.put (dst:=some d) (fun t ht=>by injection ht with ht;subst ht;exact hd) (.bE (p:=⟨gg,cap,esz,el⟩) ?_ rfl (fun _=>⟨rfl,rfl⟩) (fun _=>by simp) AB ⟨by simp,pO⟩)⟩;simp
end Go.V
namespace Go.V
open Go.RowKit
variable {P:Program} {X:Ctx} {ρ:cM} {σ:Env} {bx:ae} {a:Act} {w:World}
variable {ty:TypeId} {pos:String} {af:Array Edge} {g:Option (Nat×Bool)}
def xV(t tx ty e:TypeId)(i:TypeInfo)(ht:P.underlying t=some (.slice e))(hi:P.info? e=some i)
 (gg off o8 BE:Nat) (cur:Array Value) (hg:w.heap[gg]? =some (.cells cur e (0,0)))
 (x:Value) (m:Nat) (news:List Value) (hs:Src P i.size tx x m news w)
 (jv:o8+m<=BE) (jL:off+o8 * i.size+news.length<=cur.size):
 (Builtin.append_ #[t,tx] ty #[.slice (some ⟨gg,off,none⟩) o8 BE,x]).run P w=
  .ok (.slice (some ⟨gg,off,none⟩) (o8+m) BE) (w.setRow gg (cur.toList.take (off+o8 * i.size)++news++cur.toList.drop (off+o8 * i.size+news.length)).toArray):=by
 have bw:=run_storeCells_at P gg (off+o8 * i.size) e news 0 cur w hg (by simpa using jL) hs.one;simp only[Nat.add_zero]at bw;rcases hs.kind with⟨e',hk⟩|hk<;>simp[Builtin.append_,run_underlying ht,run_underlying hk,sizeOf,typeInfo,hi,hs.len,jv,hs.cells,Addr.add_lit,bw]
theorem aH.Qr{S:Nat->Prop}{t e sz o n:Nat}{v:Value}(h:aH w S ρ (.bE t e sz o n) v):∃p off cap,ρ t e=some p/\p.sz=sz/\(o=0->off=0/\cap=p.cap)/\(0<cap->off=o * sz)/\n<=cap/\o+cap<=p.cap/\p.cap<=maxLen/\
 v= .slice (some ⟨p.b,off,none⟩) n cap:=by
 cases h with
 |pure h=>cases h
 |bE hp bP h0 dQ hn dF=>exact⟨_,_,_,hp,bP,h0,dQ,hn,dF.1,dF.2,rfl⟩
def uv(h:aA X ρ σ bx a w){T T' d sl el esz bytes n cap:Nat}{ag:Bool}(hd:d<X.N)(bF:X.lo<=sl)(hk:(an P T).k= .slice el esz bytes ag)(Aw:esz≠0)(hz:(an P el).zero.length=esz)
 {base:Option Addr} {vy:Value} {xs0 ys:List D} {us gq:Nat->Nat->Value} (lG:xs0.length=n) (dF:cap<n+ys.length) (JX:∀(i:Nat) d,xs0[i]? =some d->d.cells.length=esz)
 (jI:∀(i:Nat) d (j:Nat) c,xs0[i]? =some d->d.cells[j]? =some c->aH w (az X ρ bx w) ρ c (us i j)/\(us i j).oneCell'=true)
 (hold:(Builtin.firstCells esz n (.slice base n cap)).run P w.drew= .ok (rowOf us n esz).toArray w.drew) (bq:ys≠[]) (qA:Src P esz T' vy ys.length (rowOf gq ys.length esz) w) (lH:∀(i:Nat) d,ys[i]? =some d->d.cells.length=esz)
 (h_:∀(i:Nat) d (j:Nat) c,ys[i]? =some d->d.cells[j]? =some c->aH w (az X ρ bx w) ρ c (gq i j)/\(gq i j).oneCell'=true)
 (yu:(n+ys.length) * bytes<=140737488355328) (qi:0<bytes) {bx1:ae} (yt:∀s,bx1 s=bx s\/((bx1 s).k=0/\(bx1 s).ep=(bx s).ep/\X.lo<=s)):
 ∃v w',(Builtin.append_ #[T,T'] ty #[.slice base n cap,vy]).run P w= .ok v w'/\
  ∃ρ',aA X ρ' (ak σ d (.bE sl ((bx sl).ep+1) esz 0 (n+ys.length))) (ak bx1 sl ⟨(bx sl).ep+1,1,esz,el,xs0++ys⟩) (a.put (some d) v) w':=by
 obtain⟨hu,he,r_,_⟩:=dh hk;obtain⟨i,z,hi,vF,AK⟩:=s7 (P:=P) (t:=el) oM;have bP:i.size=esz:=by
  obtain⟨i',_,dH,_,dW⟩:=lN (P:=P) (t:=el) oM;rw[hi]at dH;injection dH with dH;rw[dH,dW,he]
 have Cy:i.bytes=bytes:=by rw[r_,hi];rfl
 have tI:z.cells.size=esz:=by rw[<-hz,AK];simp
 have rp:(n+ys.length)<=maxLen:=by
  have:=Nat.le_mul_of_pos_right (n+ys.length) qi;simp only[maxLen];omega
 have V8:0<ys.length:=List.length_pos_iff.2 bq;have hr:=run_append_grow_src (P:=P) w T T' ty el i z hu hi vF base n cap (rowOf us n esz) (by rw[bP];exact hold) vy ys.length (rowOf gq ys.length esz) (by rw[bP];exact qA) dF (by simp only[maxLen]at rp;omega) (growslice_fits oM (by rw[Cy];exact yu));have Ax:=grownCap_ge w (n+ys.length) cap el;have pO:grownCap w (n+ys.length) cap el<=maxLen:=grownCap_le_maxLen w (n+ys.length) cap el rp;have nR:((rowOf us n esz++rowOf gq ys.length esz).toArray++Builtin.zeroCells z.cells (grownCap w (n+ys.length) cap el - (n+ys.length))).size=grownCap w (n+ys.length) cap el * esz:=by
  simp only[Array.size_append,List.size_toArray,List.length_append,size_zeroCells,tI,iO,<-Nat.add_mul]
  congr 1
  omega
 have fN:∀(k:Nat) u,(rowOf us n esz++rowOf gq ys.length esz)[k]? =some u->((rowOf us n esz++rowOf gq ys.length esz).toArray++Builtin.zeroCells z.cells (grownCap w (n+ys.length) cap el - (n+ys.length)))[k]? =some u:=fun k u hk=>by
  have tz:=(gS.1 hk).1;rw[Array.getElem?_append_left (by simpa using tz),List.getElem?_toArray];exact hk
 generalize(rowOf us n esz++rowOf gq ys.length esz).toArray++Builtin.zeroCells z.cells (grownCap w (n+ys.length) cap el - (n+ys.length))=qq at hr nR fN;generalize grownCap w (n+ys.length) cap el=U0 at hr Ax pO nR;have yB:Fr (fun _=>False) w (w.drew.alloc (.cells qq el)):=⟨rfl,rfl,rfl,by simp,fun k hk _=>heap_alloc_old w.drew _ (show k<w.drew.heap.size from hk)⟩
 have hw:∀b',az X ρ bx w b'->(w.drew.alloc (.cells qq el)).heap[b']? =w.heap[b']?:=fun b' hb=>yB.block b' hb.1 fun ee=>ee;have G_:(w.drew.alloc (.cells qq el)).heap[w.heap.size]? =some (.cells qq el (0,0)):=heap_alloc_new w.drew _;refine⟨_,_,hr,_,(aA.own (t:=sl) (p:=⟨w.heap.size,U0,esz,el⟩) (es:=xs0++ys) (bx1:=bx1) h bF yt (Old:=fun _=>False) yB (fun _ hh=>hh.elim) (.inl (Nat.le_refl _)) fun S' ρ' hS hρ=>?_).put (dst:=some d) (fun t ht=>by injection ht with ht;subst ht;exact hd) ?_⟩
 ·have lx:∀c u,aH w (az X ρ bx w) ρ c u->aH (w.drew.alloc (.cells qq el)) S' ρ' c u:=fun c u hr=>hr.mono hw hS hρ;refine⟨⟨qq,G_,nR,fun i j=>if i<n then us i j else gq (i - n) j,fun i y j c hi hj=>?_⟩,by simp;omega,pO,fun i y hi=>?_⟩
  ·dsimp only;by_cases kG:i<n
   ·rw[List.getElem?_append_left oM]at hi;obtain⟨u2,u3⟩:=jI i y j c hi hj;have Az:j<esz:=by have:=(gS.1 hj).1;rw[JX _ y hi]at this;exact this
    simp only[kG,if_true];refine⟨fN _ _ ?_,lx _ _ u2,u3⟩;have JR:=rI (us:=us) kG Az;rw[List.getElem?_append_left (gS.1 JR).1];exact JR
   ·rw[List.getElem?_append_right oM,lG]at hi;obtain⟨u2,u3⟩:=h_ (i - n) y j c hi hj;have Az:j<esz:=by have:=(gS.1 hj).1;rw[lH _ y hi]at this;exact this
    have jF:=(gS.1 hi).1;simp only[kG,if_false];refine⟨fN _ _ ?_,lx _ _ u2,u3⟩;have e1:i * esz+j=n * esz+((i - n) * esz+j):=by
     have:i=n+(i - n):=oM
     conv=>lhs;rw[this,Nat.add_mul]
     omega
    rw[List.getElem?_append_right (by rw[iO,e1];omega),iO,e1,Nat.add_sub_cancel_left];exact rI jF Az
  ·by_cases kG:i<n
   ·rw[List.getElem?_append_left oM]at hi;exact JX i y hi
   ·rw[List.getElem?_append_right oM]at hi;exact lH _ y hi
 ·exact .bE (p:=⟨w.heap.size,U0,esz,el⟩) sI rfl (fun _=>⟨rfl,rfl⟩) (fun _=>by simp) Ax ⟨by simp,pO⟩
def F9(h:aA X ρ σ bx a w){T T' d sl el esz bytes n t e o:Nat}{ag:Bool}(hd:d<X.N)(bF:X.lo<=sl)(hk:(an P T).k= .slice el esz bytes ag)(Aw:esz≠0)(hz:(an P el).zero.length=esz)
 {vx vy:Value} {ys:List D} (hx:aH w (az X ρ bx w) ρ (.bE t e esz o n) vx) (ar:X.lo<=t) (JK:(bx t).ep=e) (ji:(bx t).k=1) (hbz:(bx t).sz=esz) (hty:(bx t).ty=el) (hle:o+n<=(bx t).es.length)
 {gq:Nat->Nat->Value} (bq:ys≠[]) (qA:Src P esz T' vy ys.length (rowOf gq ys.length esz) w) (lH:∀(i:Nat) d,ys[i]? =some d->d.cells.length=esz)
 (h_:∀(i:Nat) d (j:Nat) c,ys[i]? =some d->d.cells[j]? =some c->aH w (az X ρ bx w) ρ c (gq i j)/\(gq i j).oneCell'=true)
 (yu:(n+ys.length) * bytes<=140737488355328) (qi:0<bytes):
 ∃v w',(Builtin.append_ #[T,T'] ty #[vx,vy]).run P w= .ok v w'/\
  ∃ρ',aA X ρ' (ak σ d (.bE sl ((bx sl).ep+1) esz 0 (n+ys.length))) (ak (ak bx t {bx t with k:=0}) sl ⟨(bx sl).ep+1,1,esz,el,((bx t).es.drop o).take n++ys⟩) (a.put (some d) v) w'\/
   aA X ρ' (ak σ d (.bE sl ((bx sl).ep+1) esz o (n+ys.length))) (ak (ak bx t {bx t with k:=0}) sl ⟨(bx sl).ep+1,1,esz,el,(bx t).es.take (o+n)++ys⟩) (a.put (some d) v) w':=by
 obtain⟨hu,he,r_,_⟩:=dh hk;obtain⟨i,z,hi,vF,AK⟩:=s7 (P:=P) (t:=el) oM;have bP:i.size=esz:=by
  obtain⟨i',_,dH,_,dW⟩:=lN (P:=P) (t:=el) oM;rw[hi]at dH;injection dH with dH;rw[dH,dW,he]
 have Cy:i.bytes=bytes:=by rw[r_,hi];rfl
 have tI:z.cells.size=esz:=by rw[<-hz,AK];simp
 have rp:(n+ys.length)<=maxLen:=by
  have:=Nat.le_mul_of_pos_right (n+ys.length) qi;simp only[maxLen];omega
 have V8:0<ys.length:=List.length_pos_iff.2 bq;obtain⟨p,off,cap,hp,j9,h0,dQ,hn,NJ,ja,rfl⟩:=hx.Qr;obtain⟨p',bJ,DS,vB,gJ,hh⟩:=h.box t (by rw[ji];decide);rw[JK,hp]at bJ;injection bJ with bJ;subst bJ;obtain⟨⟨cur,gj,eU,us,gL⟩,rn,xJ,Le⟩:=hh;have VU:∀i j,i<(bx t).es.length->j<esz->cur[i * esz+j]? =some (us i j):=by
  intro i j hi hj;have hd:=gE hi;have hc:=gE (show j<(bx t).es[i].cells.length by rw[Le i _ hd,j9];exact hj);have:=(gL i _ j _ hd hc).1;rwa[j9]at this
 have yt:∀s,ak bx t {bx t with k:=0} s=bx s\/((ak bx t {bx t with k:=0} s).k=0/\(ak bx t {bx t with k:=0} s).ep=(bx s).ep/\X.lo<=s):=fun s=>by
  by_cases hs:s=t
  ·subst hs;exact .inr ⟨by simp[ak],by simp[ak],ar⟩
  ·exact .inl (by simp[ak,hs])
 have hO:∀b',b'=p.b->∃t0 p0,(bx t0).k=1/\ρ t0 (bx t0).ep=some p0/\p0.b=b'/\(t0=sl\/(ak bx t {bx t with k:=0} t0).k=0):=fun b' hb=>⟨t,p,ji,by rw[JK];exact hp,hb.symm,.inr (by simp[ak])⟩
 by_cases jv:n+ys.length<=cap
 ·
  have R0:=dQ oM;have jL:off+n * i.size+(rowOf gq ys.length esz).length<=cur.size:=by
   rw[iO,eU,j9,bP,R0,<-Nat.add_mul,<-Nat.add_mul];exact Nat.mul_le_mul_right _ oM
  have hr:=xV (P:=P) (w:=w) T T' ty el i hu hi p.b off n cap cur (by rw[gj,vB,hty]) vy ys.length (rowOf gq ys.length esz) (by rw[bP];exact qA) jv jL;rw[bP]at hr jL;have eoff:off+n * esz=(o+n) * esz:=by rw[R0,Nat.add_mul]
  rw[eoff]at hr jL;have hA:(o+n) * esz<=cur.size:=oM;have VN:∀k,k<(o+n) * esz->(cur.toList.take ((o+n) * esz)++rowOf gq ys.length esz++cur.toList.drop ((o+n) * esz+(rowOf gq ys.length esz).length)).toArray[k]? =cur[k]?:=fun k hk=>by rw[List.getElem?_toArray,List.append_assoc,List.getElem?_append_left (by simp;omega),List.getElem?_take_of_lt hk,aG]
  have VO:∀(k:Nat) u,(rowOf gq ys.length esz)[k]? =some u->(cur.toList.take ((o+n) * esz)++rowOf gq ys.length esz++cur.toList.drop ((o+n) * esz+(rowOf gq ys.length esz).length)).toArray[(o+n) * esz+k]? =some u:=fun k u hk=>by
   have tz:=(gS.1 hk).1;have yF:(cur.toList.take ((o+n) * esz)).length=(o+n) * esz:=by simp;omega
   rw[List.getElem?_toArray,List.append_assoc,List.getElem?_append_right oM,yF,Nat.add_sub_cancel_left,List.getElem?_append_left tz,hk]
  have nR:(cur.toList.take ((o+n) * esz)++rowOf gq ys.length esz++cur.toList.drop ((o+n) * esz+(rowOf gq ys.length esz).length)).toArray.size=p.cap * p.sz:=by rw[<-eU];simp;omega
  generalize(cur.toList.take ((o+n) * esz)++rowOf gq ys.length esz++cur.toList.drop ((o+n) * esz+(rowOf gq ys.length esz).length)).toArray=qq at hr VN VO nR;have j_:(w.setRow p.b qq).heap[p.b]? =some (.cells qq p.ty (0,0)):=setRow_heap w p.b cur _ _ _ gj;have yB:Fr (fun b'=>b'=p.b) w (w.setRow p.b qq):=⟨rfl,rfl,rfl,by simp,fun k _ hk=>setRow_other w p.b k _ hk⟩
  have hw:∀b',az X ρ bx w b'->(w.setRow p.b qq).heap[b']? =w.heap[b']?:=fun b' hb=>yB.block b' hb.1 fun ee=>by
   obtain⟨t0,p0,iz,oF,EU,_⟩:=hO b' ee;exact hb.2.2 t0 iz p0 oF EU
  have fw:((bx t).es.take (o+n)).length=o+n:=by simp;omega
  refine⟨_,_,hr,_,.inr ((aA.own (t:=sl) (p:=⟨p.b,p.cap,esz,el⟩) (es:=(bx t).es.take (o+n)++ys) (bx1:=ak bx t {bx t with k:=0}) h bF yt (Old:=fun b'=>b'=p.b) yB hO (.inr rfl) fun S' ρ' hS hρ=>?_).put (dst:=some d) (fun t ht=>by injection ht with ht;subst ht;exact hd) ?_)⟩
  ·have lx:∀c u,aH w (az X ρ bx w) ρ c u->aH (w.setRow p.b qq) S' ρ' c u:=fun c u hr=>hr.mono hw hS hρ;refine⟨⟨qq,by rw[j_,vB,hty],by rw[nR,j9],fun i j=>if i<o+n then us i j else gq (i - (o+n)) j,fun i y j c hi hj=>?_⟩,by simp;omega,ja,fun i y hi=>?_⟩
   ·dsimp only;by_cases kG:i<o+n
    ·rw[List.getElem?_append_left oM,List.getElem?_take_of_lt kG]at hi;obtain⟨u1,u2,u3⟩:=gL i y j c hi hj;have Az:j<esz:=by have:=(gS.1 hj).1;rw[Le i y hi,j9]at this;exact this
     have wF:i * esz+j<(o+n) * esz:=by
      have:=Nat.mul_le_mul_right esz (show i+1<=o+n from kG);rw[Nat.succ_mul]at this;omega
     simp only[kG,if_true];rw[j9]at u1;exact⟨(VN _ wF).trans u1,lx _ _ u2,u3⟩
    ·rw[List.getElem?_append_right oM,fw]at hi;obtain⟨u2,u3⟩:=h_ (i - (o+n)) y j c hi hj;have Az:j<esz:=by have:=(gS.1 hj).1;rw[lH _ y hi]at this;exact this
     have jF:=(gS.1 hi).1;simp only[kG,if_false];have e1:i * esz+j=(o+n) * esz+((i - (o+n)) * esz+j):=by
      have:i=(o+n)+(i - (o+n)):=oM
      conv=>lhs;rw[this,Nat.add_mul]
      omega
     rw[e1];exact⟨VO _ _ (rI jF Az),lx _ _ u2,u3⟩
   ·by_cases kG:i<o+n
    ·rw[List.getElem?_append_left oM,List.getElem?_take_of_lt kG]at hi;exact(Le i y hi).trans j9
    ·rw[List.getElem?_append_right oM]at hi;exact lH _ y hi
  ·exact .bE (p:=⟨p.b,p.cap,esz,el⟩) sI rfl h0 dQ jv ⟨NJ,ja⟩
 ·
  have holds:∀j v,(rowOf (fun i j=>us (o+i) j) n esz)[j]? =some v->w.cell? ((⟨p.b,off,none⟩:Addr).add j)=some v:=fun j v hj=>by
   obtain⟨k,l,hk,hl,rfl,rfl⟩:=kQ hj;rw[Addr.ea,dQ oM];have:=VU (o+k) l oM hl;rw[Nat.add_mul]at this;rw[<-Nat.add_assoc];simp[World.cell?,gj,this]
  have fw:(((bx t).es.drop o).take n).length=n:=by simp;omega
  have eo:∀(k:Nat) y,(((bx t).es.drop o).take n)[k]? =some y->k<n/\(bx t).es[o+k]? =some y:=fun k y hk=>by
   have tz:=(gS.1 hk).1;rw[fw]at tz;rw[List.getElem?_take_of_lt tz,List.getElem?_drop]at hk;exact⟨tz,hk⟩
  obtain⟨v,w',hr,ρ',hS⟩:=uv (ty:=ty) (n:=n) (cap:=cap) (base:=some ⟨p.b,off,none⟩) h hd bF hk Aw hz fw oM (fun i d hi=>(Le _ d (eo i d hi).2).trans j9) (fun i d j c hi hj=>(gL (o+i) d j c (eo i d hi).2 hj).2)
   (run_firstCells_some w.drew esz n _ n cap (rowOf (fun i j=>us (o+i) j) n esz) (iO _ _ _) (by simpa using holds)) bq qA lH h_ yu qi yt
  exact⟨v,w',hr,ρ',.inl hS⟩
def T1(s:List UInt8):rowOf (fun i _=> .int .u8 ((s.getD i 0).toNat:Int)) (a_ s).length 1=byteCells ⟨s.toArray⟩:=by
 apply List.ext_getElem?;intro i;unfold rowOf byteCells a_;simp only[gM,List.length_map,Nat.mul_one,Nat.div_one];by_cases hi:i<s.length
 ·rw[List.getElem?_range hi];simp[hi]
 ·rw[List.getElem?_eq_none (by simp;omega)];simp[Nat.le_of_not_lt hi]
def xy(h:aA X ρ σ bx a w){T T':TypeId}{x y:Operand}{dst:Option Tmp}(ct:∀t,dst=some t->t<X.N){lo base:Nat}(bF:X.lo<=lo)(wB:X.lo<=base){r:(D×ae)×(D×ae)}(hv:uo lo (an P) (an P T) T T' (kT base dst) bx (ev σ x) (ev σ y)=some r):
 ∃v w',(execOp a.eval ⟨dst,.call {callee:=.builtin .append,args:= #[x,y],argTypes:= #[T,T']},ty,pos,af,g⟩).run P w= .ok (.value v) w'/\∃ρ',aA X ρ' (put σ dst r.1.1) r.1.2 (a.put dst v) w'\/aA X ρ' (put σ dst r.2.1) r.2.2 (a.put dst v) w':=by
 have hx:=h.ev x;have hy:=h.ev y;suffices hs:∃v w',(Builtin.append_ #[T,T'] ty #[a.eval x,a.eval y]).run P w= .ok v w'/\∃ρ',aA X ρ' (put σ dst r.1.1) r.1.2 (a.put dst v) w'\/aA X ρ' (put σ dst r.2.1) r.2.2 (a.put dst v) w' by
  obtain⟨v,w',hr,hS⟩:=hs;refine⟨v,w',?_,hS⟩;simp only[execOp,resolve,invoke,builtin,Sem.run_bind,Sem.run_pure,Result.andThen_ok,List.map_toArray,mC,List.map_nil,hr]
 generalize ev σ x=dx at hv hx;generalize ev σ y=dy at hv hy;generalize a.eval x=vx at hx⊢;generalize a.eval y=vy at hy⊢;unfold uo at hv;split at hv
 ·rename_i el esz bytes ag d0 hk nd;cases dst with
  |none=>simp[kT]at nd
  |some d=>
   simp only[kT,sJ]at nd;subst nd;have mP:X.lo<=base+d:=Nat.le_trans wB (Nat.le_add_right _ _);split at hv
   ·rename_i lI;obtain⟨lI,Aw⟩:=lI;obtain⟨hu,he,r_,_⟩:=dh hk;obtain⟨i,hi,bP⟩:∃i,P.info? el=some i/\i.size=esz:=by
     obtain⟨i',_,dH,_,dW⟩:=lN (P:=P) (t:=el) oM;exact⟨i',dH,by omega⟩
    rw[Option.bind_eq_some_iff]at hv;obtain⟨ys,eF,hv⟩:=hv;have hY:∃gq:Nat->Nat->Value,Src P esz T' vy ys.length (rowOf gq ys.length esz) w/\(∀(i:Nat) d,ys[i]? =some d->d.cells.length=esz)/\
     ∀(i:Nat) d (j:Nat) c,ys[i]? =some d->d.cells[j]? =some c->aH w (az X ρ bx w) ρ c (gq i j)/\(gq i j).oneCell'=true:=by
     unfold pK at eF;split at eF
     ·rename_i Vz;subst Vz;obtain⟨A,c,b,off,us,xL,hA,lH,h_⟩:=ox h hy eF;refine⟨us,?_,lH,fun i d j c hi hj=>(h_ i d j c hi hj).2⟩;have yx:∀i j,i<ys.length->j<esz->w.cell? ⟨b,off+i * esz+j,none⟩=some (us i j)/\(us i j).oneCell'=true:=by
       intro i j hi hj;have hd:=gE hi;have hc:=gE (show j<ys[i].cells.length by rw[lH i _ hd];exact hj);exact⟨(h_ i _ j _ hd hc).1,(h_ i _ j _ hd hc).2.2⟩
      by_cases bq:ys=[]
      ·subst bq;subst xL;cases A with
       |none=>exact⟨.inl ⟨_,hu⟩,fun _=>rfl,by simpa[rowOf]using run_firstCells_none (P:=P) w esz 0 0 c,by simpa[rowOf]using run_firstCells_none (P:=P) w.drew esz 0 0 c,by simp[rowOf],by simp[rowOf]⟩
       |some a0=>exact Src.ofSlice w hu a0 0 c _ (by simp[rowOf]) (by simp[rowOf]) (by simp[rowOf])
      ·obtain rfl:=hA bq;subst xL;exact Src.ofSlice w hu ⟨b,off,none⟩ ys.length c (rowOf us ys.length esz) (iO _ _ _) (fun j u hj=>by
        obtain⟨k,l,hk,hl,rfl,rfl⟩:=kQ hj;rw[Addr.ea];have:=(yx k l hk hl).1;rw[<-Nat.add_assoc];exact this) (fun u hu=>by
        obtain⟨j,hj⟩:=List.mem_iff_getElem?.1 hu;obtain⟨k,l,hk,hl,rfl,rfl⟩:=kQ hj;exact(yx k l hk hl).2)
     ·split at eF
      ·rename_i s bV;split at eF
       ·rename_i hc;obtain⟨_,rfl⟩:=hc;injection eF with eF;subst eF;cases hy with
        |pure hy=>
         cases hy;refine⟨fun i _=> .int .u8 ((s.getD i 0).toNat:Int),?_,fun i d hi=>?_,fun i d j c hi hj=>?_⟩
         ·rw[T1];have:=Src.ofString (P:=P) w (tx:=T') (qa bV) ⟨s.toArray⟩;have hl:(ByteArray.mk s.toArray).size=(a_ s).length:=by simp[a_,ByteArray.size]
          rw[hl]at this;exact this
         ·simp only[a_,gM,mS]at hi;obtain⟨u,_,rfl⟩:=hi;rfl
         ·simp only[a_,gM,mS]at hi;obtain⟨u,hu,rfl⟩:=hi;rcases j with _|j
          ·simp only[D.cells,List.getElem?_cons_zero,sJ]at hj;subst hj;have:s.getD i 0=u:=by simp[hu]
           dsimp only;rw[this];exact⟨.pure (.int _ _),rfl⟩
          ·simp[D.cells]at hj
       ·cases eF
      ·cases eF
    obtain⟨gq,qA,lH,h_⟩:=hY;split at hv
    ·rename_i bq;subst bq;have Qk:∃B n cap,vx= .slice B n cap/\n<=cap/\∃x',r=((x',bx),(x',bx))/\aH w (az X ρ bx w) ρ x' vx:=by
      unfold It at hv;split at hv
      ·injection hv with hv;have dJ:=(hx.fy rfl)
       obtain⟨A,hA⟩:=dJ.vl;exact⟨_,_,_,hA,Nat.le_refl _,_,hv.symm,.pure dJ.rC⟩
      ·injection hv with hv;exact⟨none,0,0,hx.gd,Nat.le_refl _,_,hv.symm,hx⟩
      ·injection hv with hv;obtain⟨p,off,cap,_,_,_,_,hn,_,_,lk⟩:=hx.pw;exact⟨_,_,_,lk,hn,_,hv.symm,hx⟩
      ·injection hv with hv;have eJ:=hx;cases eJ with
       |pure eJ=>cases eJ with|sl hn dF=>exact⟨_,_,_,rfl,dF,_,hv.symm,hx⟩
      ·cases hv
     obtain⟨B,n,cap,rfl,AB,x',rfl,dJ⟩:=Qk;refine⟨.slice B n cap,w,?_,ρ,.inl (h.put (dst:=some d) (fun t ht=>by injection ht with ht;subst ht;exact ct d rfl) dJ)⟩;have hlen:=qA.len w;have fJ:=qA.cells;simp only[List.length_nil,rowOf,Nat.zero_mul,List.range_zero,List.map_nil]at hlen fJ;rcases qA.kind with⟨e',bV⟩|bV<;>cases B<;>simp[Builtin.append_,run_underlying hu,run_underlying bV,sizeOf,typeInfo,hi,bP,hlen,fJ,AB,storeCells]
    ·rename_i bq;unfold uW at hv;split at hv
     ·rename_i t e sz o n;split at hv
      ·rename_i hc;obtain⟨c0,c1,c3,c4,c5,c6,c7,c8,c9,B8⟩:=hc;injection hv with hv;subst hv;subst c1;exact F9 (ty:=ty) h (ct d rfl) mP hk oM lI hx (Nat.le_trans bF c0) c3 c4 c5 c6 c7 bq qA lH h_ c8 B8
      ·cases hv
     ·rename_i sz es;split at hv
      ·rename_i hc;obtain⟨c1,c8,c9,B8⟩:=hc;injection hv with hv;subst hv;subst c1;have dJ:=hx.fy rfl;obtain⟨A,hA⟩:=dJ.vl;have eJ:=dJ.rC;rw[hA]at eJ⊢;cases eJ with
       |@sl _ _ _ n cap b off us hn dF ja xE Hf lj Av yI=>
        have hold:(Builtin.firstCells sz es.length (.slice A es.length es.length)).run P w.drew= .ok (rowOf us es.length sz).toArray w.drew:=by
         by_cases hU:es=[]
         ·subst hU;cases A with
          |none=>simpa[rowOf]using run_firstCells_none (P:=P) w.drew sz 0 0 0
          |some a0=>exact run_firstCells_some w.drew sz 0 a0 0 _ _ (by simp[rowOf]) (by simp[rowOf])
         ·obtain⟨Nk,_⟩:=xE hU;subst Nk;refine run_firstCells_some w.drew sz es.length _ _ _ (rowOf us es.length sz) (iO _ _ _) fun j u hj=>?_;obtain⟨k,l,hk,hl,rfl,rfl⟩:=kQ hj;rw[Addr.ea];have hd:=gE hk;have hc:=gE (show l<es[k].cells.length by rw[Hf k _ hd];exact hl);have:=lj k _ l _ hd hc;rw[<-Nat.add_assoc];simpa using this
        obtain⟨v,w',JR,ρ',hS⟩:=uv (ty:=ty) (bx1:=bx) h (ct d rfl) mP hk oM lI rfl (by have:=List.length_pos_iff.2 bq;omega) Hf (fun i d j c hi hj=>⟨.pure (yI i d j c hi hj),Av i d j c hi hj⟩) hold bq qA lH h_ c8 B8 (fun _=> .inl rfl);exact⟨v,w',JR,ρ',.inl hS⟩
      ·cases hv
     ·split at hv
      ·rename_i hc;obtain⟨c8,c9,B8⟩:=hc;injection hv with hv;subst hv;rw[hx.gd];obtain⟨v,w',JR,ρ',hS⟩:=uv (ty:=ty) (bx1:=bx) (n:=0) (cap:=0) (base:=none) (xs0:=[]) (us:=fun _ _=>undef) h (ct d rfl) mP hk oM lI rfl (by have:=List.length_pos_iff.2 bq;omega) sI sI (by simpa[rowOf]using run_firstCells_none (P:=P) w.drew esz 0 0 0) bq qA lH h_ (by simpa using c8) B8 (fun _=> .inl rfl);simp only[Nat.zero_add,List.nil_append]at hS;exact⟨v,w',JR,ρ',.inl hS⟩
      ·cases hv
     ·cases hv
   ·cases hv
 ·cases hv
end Go.V
namespace Go.V
open Go.RowKit
variable {P:Program} {X:Ctx} {ρ:cM} {σ:Env} {bx:ae} {a:Act} {w:World} {ty:TypeId} {pos:String} {af:Array Edge} {g:Option (Nat×Bool)}
def X9{z:Array Value}{m i j:Nat}(hi:i<m)(hj:j<z.size):(Builtin.zeroCells z m)[i * z.size+j]? =some (z.getD j undef):=by
 have ar:i * z.size+j<m * z.size:=by
  have:(i+1) * z.size<=m * z.size:=Nat.mul_le_mul_right _ hi;rw[Nat.add_mul]at this;omega
 unfold Builtin.zeroCells;simp only[Array.getElem?_map,Array.getElem?_range,ar,if_true,Option.map_some,sJ];have:(i * z.size+j) % z.size=j:=by rw[Nat.mul_comm,Nat.mul_add_mod,Nat.mod_eq_of_lt hj]
 rw[this,getElem!_def,Array.getElem?_eq_getElem hj,Array.getD_eq_getD_getElem?,Array.getElem?_eq_getElem hj];rfl
def Ed(t tn ty e:TypeId)(i:TypeInfo)(z:Value)(kq kn:IntKind)(ht:P.underlying t=some (.slice e))(EX:P.underlying tn=some (.int kn))(hi:P.info? e=some i)(hz:i.zero=some z)
 (gb o8 BE m:Nat) (cur:Array Value) (hg:w.heap[gb]? =some (.cells cur e (0,0))) (h0:0<m) (hs:0<i.size) (tI:z.cells.size=i.size) (jv:o8+m<=BE) (jL:o8 * i.size+m * i.size<=cur.size)
 (xD:(m:Int)<=9223372036854775807) (h48:m * i.bytes<=281474976710656) (h1:∀u∈(Builtin.zeroCells z.cells m).toList,u.oneCell'=true):
 (Builtin.append_ #[t,tn] ty #[.slice (some ⟨gb,0,none⟩) o8 BE,.int kq m]).run P w=
  .ok (.slice (some ⟨gb,0,none⟩) (o8+m) BE) (w.setRow gb (cur.toList.take (o8 * i.size)++(Builtin.zeroCells z.cells m).toList++cur.toList.drop (o8 * i.size+(Builtin.zeroCells z.cells m).toList.length)).toArray):=by
 have bw:=run_storeCells_at P gb (o8 * i.size) e (Builtin.zeroCells z.cells m).toList 0 cur w hg (by simp[size_zeroCells,tI];omega) h1;simp only[Nat.add_zero]at bw;have hw:IntKind.i64.wrap (m:Int)=m:=by rw[IntKind.wrap_i64];omega
 have G9:¬((m:Int)<0):=oM;have ad9:¬(281474976710656<(m:Int) * (i.bytes:Int)):=by rw[<-Int.natCast_mul];omega
 have hns:¬(m * i.size=0):=Nat.mul_ne_zero oM oM;simp[Builtin.append_,run_underlying ht,run_underlying EX,sizeOf,typeInfo,zeroValue,hi,hz,asInt,asIntOf,hw,G9,ad9,hns,jv,Addr.add_lit];rw[bw];simp
def Im(base:Nat)(t tn ty e:TypeId)(i:TypeInfo)(z:Value)(kq kn:IntKind)(size bytes:Nat)(ht:P.underlying t=some (.slice e))(EX:P.underlying tn=some (.int kn))(hi:P.info? e=some i)(hz:i.zero=some z)
 (nR:i.size=size) (yu:i.bytes=bytes) (tI:z.cells.size=size) (bP:0<size)
 (v:Value) (n:Nat) (xs:List Value) (mF:w.ownsRow base e size v n xs) (m:Nat) (hm:0<m) (h1:∀u∈(Builtin.zeroCells z.cells m).toList,u.oneCell'=true)
 (xD:n+m<=maxLen) (Nz:(n+m) * bytes<=140737488355328) (wB:base<=w.heap.size):
 ∃v' w',(Builtin.append_ #[t,tn] ty #[v,.int kq m]).run P w= .ok v' w'/\w'.ownsRow base e size v' (n+m) (xs++(Builtin.zeroCells z.cells m).toList)/\w.grownBy w' v.ownBlock/\
  (v'.ownBlock=v.ownBlock\/v'.ownBlock=some w.heap.size):=by
 subst nR;subst yu;have hsmall:n+m<=9223372036854775807:=by simp only[maxLen]at xD;omega
 have hmb:m * i.bytes<=(n+m) * i.bytes:=Nat.mul_le_mul_right _ oM;generalize RZ:(Builtin.zeroCells z.cells m).toList=news at *;have hl:news.length=m * i.size:=by rw[<-RZ];simp[size_zeroCells,tI]
 have hna:news.toArray=Builtin.zeroCells z.cells m:=by rw[<-RZ]
 have hlen:(xs++news).length=(n+m) * i.size:=by rw[List.length_append,mF.1,hl,Nat.add_mul]
 have grown:∀(xN:Nat),xN<n+m->∀(row:Option Nat),
  (w.drew.alloc (.cells (xs.toArray++news.toArray++Builtin.zeroCells z.cells (grownCap w (n+m) xN e - (n+m))) e)).ownsRow base e i.size
   (.slice (some ⟨w.heap.size,0,none⟩) (n+m) (grownCap w (n+m) xN e)) (n+m) (xs++news)/\
  w.grownBy (w.drew.alloc (.cells (xs.toArray++news.toArray++Builtin.zeroCells z.cells (grownCap w (n+m) xN e - (n+m))) e)) row:=by
  intro xN ho row;have Ax:=grownCap_ge w (n+m) xN e;have pO:grownCap w (n+m) xN e<=maxLen:=grownCap_le_maxLen w (n+m) xN e xD;refine⟨⟨hlen,.inr ⟨w.heap.size,_,_,rfl,wB,heap_alloc_new w.drew _,Ax,pO,?_,?_⟩⟩,⟨rfl,rfl,rfl,by simp,fun k hk _=>heap_alloc_old w.drew _ (show k<w.drew.heap.size from hk)⟩⟩
  ·simp only[Array.size_append,List.size_toArray,size_zeroCells,tI,mF.1,hl,<-Nat.add_mul]
   congr 1
   omega
  ·simp only[Array.toList_append,List.append_assoc];rw[<-List.append_assoc,<-hlen];exact List.take_left
 rcases mF.2 with⟨rfl,rfl⟩|⟨gb,cap,cur,rfl,hbg,hg,AB,pO,eU,CL⟩
 ·have hx:xs=[]:=List.eq_nil_of_length_eq_zero (by simpa using mF.1);subst hx;have hr:=Lib.run_append_grow_zeros (P:=P) w t tn ty e i z kq kn ht EX hi hz none 0 0 [] (run_firstCells_none w.drew i.size 0 0 0) m hm bP oM oM oM (growslice_fits oM Nz);have vt:=grown 0 oM (Value.ownBlock (.slice none 0 0));rw[hna]at vt;exact⟨_,_,hr,vt.1,vt.2,.inr rfl⟩
 ·by_cases jv:n+m<=cap
  ·have jL:n * i.size+m * i.size<=cur.size:=by rw[eU,<-Nat.add_mul];exact Nat.mul_le_mul_right _ jv
   have hr:=Ed (P:=P) (w:=w) t tn ty e i z kq kn ht EX hi hz gb n cap m cur hg hm bP tI jv jL oM oM (by rw[RZ];exact h1);rw[RZ]at hr;refine⟨_,_,hr,⟨hlen,.inr ⟨gb,cap,_,rfl,hbg,setRow_heap w gb cur _ e _ hg,jv,pO,?_,?_⟩⟩,⟨rfl,rfl,rfl,by simp,fun k _ hk=>setRow_other w gb k _ (fun e=>hk (by simp[Value.ownBlock,e]))⟩,.inl rfl⟩
   ·simp only[List.size_toArray,List.length_append,List.length_take,List.length_drop,Array.length_toList];omega
   ·rw[CL,<-hlen];exact List.take_left
  ·have holds:∀j u,xs[j]? =some u->w.cell? ((⟨gb,0,none⟩:Addr).add j)=some u:=mF.cells (g:=gb) rfl;have hr:=Lib.run_append_grow_zeros (P:=P) w t tn ty e i z kq kn ht EX hi hz (some ⟨gb,0,none⟩) n cap xs (run_firstCells_some w.drew i.size n ⟨gb,0,none⟩ n cap xs mF.1 (by simpa using holds)) m hm bP oM oM oM (growslice_fits oM Nz);have vt:=grown cap oM (Value.ownBlock (.slice (some ⟨gb,0,none⟩) n cap));rw[hna]at vt;exact⟨_,_,hr,vt.1,vt.2,.inr rfl⟩
def Dz(h:aA X ρ σ bx a w){T T' d sl el esz bytes n m:Nat}{ag:Bool}{kn kq:IntKind}(hd:d<X.N)(bF:X.lo<=sl)(hk:(an P T).k= .slice el esz bytes ag)(cT:(an P T').k= .int kn)(Aw:esz≠0)(hz:(an P el).zero.length=esz)
 {zd:D} (CN:iZ (an P el)=some zd) {vx:Value} {xs:List Value} {xs0:List D} {us0:Nat->Nat->Value} (mF:w.ownsRow 0 el esz vx n xs) (lG:xs0.length=n)
 (JX:∀(i:Nat) d,xs0[i]? =some d->d.cells.length=esz)
 (jI:∀(i:Nat) d (j:Nat) c,xs0[i]? =some d->d.cells[j]? =some c->xs[i * esz+j]? =some (us0 i j)/\aH w (az X ρ bx w) ρ c (us0 i j)/\(us0 i j).oneCell'=true)
 (hm:0<m) (yu:(n+m) * bytes<=140737488355328) (qi:0<bytes) {bx1:ae} (h1:∀s,bx1 s=bx s\/((bx1 s).k=0/\(bx1 s).ep=(bx s).ep/\X.lo<=s))
 (hO:∀b,some b=vx.ownBlock->∃t0 p0,(bx t0).k=1/\ρ t0 (bx t0).ep=some p0/\p0.b=b/\(t0=sl\/(bx1 t0).k=0)):
 ∃v w',(Builtin.append_ #[T,T'] ty #[vx,.int kq m]).run P w= .ok v w'/\
  ∃ρ',aA X ρ' (ak σ d (.bE sl ((bx sl).ep+1) esz 0 (n+m))) (ak bx1 sl ⟨(bx sl).ep+1,1,esz,el,xs0++List.replicate m zd⟩) (a.put (some d) v) w':=by
 obtain⟨hu,he,r_,_⟩:=dh hk;obtain⟨i,z,hi,vF,AK⟩:=s7 (P:=P) (t:=el) oM;have bP:i.size=esz:=by
  obtain⟨i',_,dH,_,dW⟩:=lN (P:=P) (t:=el) oM;rw[hi]at dH;injection dH with dH;rw[dH,dW,he]
 have Cy:i.bytes=bytes:=by rw[r_,hi];rfl
 have tI:z.cells.size=esz:=by rw[<-hz,AK];simp
 have rp:(n+m)<=maxLen:=by
  have:=Nat.le_mul_of_pos_right (n+m) qi;simp only[maxLen];omega
 unfold iZ at CN;split at CN
 rotate_left
 ·cases CN
 rename_i VW;obtain⟨eI,lI,iy,fg⟩:=VW;injection CN with CN;have oz:zd.cells=(an P el).zero:=by
  subst CN;unfold AO;cases hA:(an P el).agg with
  |true=>rfl
  |false=>
   rcases iy with iy|iy
   ·rw[hA]at iy;cases iy
   ·rw[iy]at lI
    match vF:(an P el).zero,lI with
    |[c],_=>
     rw[vF]at fg;simp only[List.all_cons,List.all_nil,Bool.and_true]at fg;simp[gh fg]
 have jt:∀(j:Nat) c,zd.cells[j]? =some c->j<esz/\aH w (az X ρ bx w) ρ c (z.cells.getD j undef)/\(z.cells.getD j undef).oneCell'=true:=fun j c hj=>by
  rw[oz]at hj;have yD:=(gS.1 hj).1;have h1:=List.all_eq_true.1 fg c (mG hj);rw[AK,gM,mS]at hj;obtain⟨u,hu,rfl⟩:=hj;rw[aG]at hu;have cX:z.cells.getD j undef=u:=by rw[Array.getD_eq_getD_getElem?,hu];rfl
  exact⟨by omega,by rw[cX];exact .pure (mz u),by rw[cX];exact(aH.pure (w:=w) (S:=az X ρ bx w) (ρ:=ρ) (mz u)).one h1⟩
 have pt:∀u∈(Builtin.zeroCells z.cells m).toList,u.oneCell'=true:=fun u hu=>by
  simp only[Builtin.zeroCells,Array.toList_map,List.mem_map]at hu;obtain⟨q,_,rfl⟩:=hu;have hq:q % z.cells.size<z.cells.size:=Nat.mod_lt _ oM;have hj:zd.cells[q % z.cells.size]? =some (AP (z.cells[q % z.cells.size])):=by rw[oz,AK,gM,aG,Array.getElem?_eq_getElem hq];rfl
  have:=(jt _ _ hj).2.2;rw[Array.getD_eq_getD_getElem?,Array.getElem?_eq_getElem hq]at this;rw[getElem!_pos z.cells _ hq];exact this
 obtain⟨v',w',hr,wG,vt,P8⟩:=Im (P:=P) (w:=w) (ty:=ty) 0 T T' el i z kq kn esz bytes hu (uc cT) hi vF bP Cy tI oM vx n xs mF m hm pt rp yu (Nat.zero_le _);obtain⟨hlen,wG⟩:=wG;rcases wG with⟨_,wG⟩|⟨gg,cap,cur,rfl,_,V3,AB,pO,eU,CL⟩
 ·omega
 have hold:w.heap.size<=gg\/some gg=vx.ownBlock:=by
  rcases P8 with hb|hb
  ·exact .inr hb
  ·simp only[Value.ownBlock,sJ]at hb;exact .inl oM
 have hw:∀b,az X ρ bx w b->w'.heap[b]? =w.heap[b]?:=fun b hb=>vt.block b hb.1 (fun e=>by
  obtain⟨t0,p0,iz,oF,EU,_⟩:=hO b e;exact hb.2.2 t0 iz p0 oF EU)
 have fN:∀(k:Nat) (u:Value),(xs++(Builtin.zeroCells z.cells m).toList)[k]? =some u->cur[k]? =some u:=by
  intro k u hk;rw[<-CL]at hk;have ar:=(gS.1 hk).1;rw[List.length_take]at ar;rw[List.getElem?_take_of_lt oM,aG]at hk;exact hk
 have h2:=h.own (w':=w') (t:=sl) (p:=⟨gg,cap,esz,el⟩) (es:=xs0++List.replicate m zd) (bx1:=bx1) bF h1 (Old:=fun b=>some b=vx.ownBlock) (.HG vt) hO hold (fun S' ρ' hS hρ=>by
  have lx:∀c u,aH w (az X ρ bx w) ρ c u->aH w' S' ρ' c u:=fun c u hr=>hr.mono hw hS hρ;refine⟨⟨cur,V3,eU,fun i j=>if i<n then us0 i j else z.cells.getD j undef,fun i y j c hi hj=>?_⟩,by simp[lG,AB],pO,fun i y hi=>?_⟩
  ·dsimp only;by_cases kG:i<n
   ·rw[List.getElem?_append_left oM]at hi;obtain⟨u1,u2,u3⟩:=jI i y j c hi hj;simp only[kG,if_true];refine⟨fN _ _ ?_,lx _ _ u2,u3⟩;rw[List.getElem?_append_left ((gS.1 u1).1)];exact u1
   ·rw[List.getElem?_append_right oM,lG]at hi;have jF:=(gS.1 hi).1;simp only[List.length_replicate]at jF;obtain rfl:y=zd:=List.eq_of_mem_replicate (mG hi);obtain⟨u1,u2,u3⟩:=jt j c hj;simp only[kG,if_false];refine⟨fN _ _ ?_,lx _ _ u2,u3⟩;have Hj:xs.length=n * esz:=mF.1;have e1:i * esz+j=n * esz+((i - n) * esz+j):=by
     have:i=n+(i - n):=oM
     conv=>lhs;rw[this,Nat.add_mul]
     omega
    rw[List.getElem?_append_right (by rw[Hj,e1];omega),Hj,e1,Nat.add_sub_cancel_left,aG,<-tI];exact X9 jF oM
  ·by_cases kG:i<n
   ·rw[List.getElem?_append_left oM]at hi;exact JX i y hi
   ·rw[List.getElem?_append_right oM]at hi;obtain rfl:y=zd:=List.eq_of_mem_replicate (mG hi);rw[oz];exact hz)
 refine⟨_,_,hr,_,h2.put (dst:=some d) (fun t ht=>by injection ht with ht;subst ht;exact hd) (.bE (p:=⟨gg,cap,esz,el⟩) ?_ rfl (fun _=>⟨rfl,rfl⟩) (fun _=>by simp) AB ⟨by simp,pO⟩)⟩;simp
def Ga(h:aA X ρ σ bx a w){T T':TypeId}{x y:Operand}{dst:Option Tmp}(ct:∀t,dst=some t->t<X.N){lo base:Nat}(bF:X.lo<=lo)(wB:X.lo<=base){r:D×ae}(hv:uV lo (an P) T T' (kT base dst) bx (ev σ x) (ev σ y)=some r):
 ∃v w',(execOp a.eval ⟨dst,.call {callee:=.builtin .append,args:= #[x,y],argTypes:= #[T,T']},ty,pos,af,g⟩).run P w= .ok (.value v) w'/\∃ρ',aA X ρ' (put σ dst r.1) r.2 (a.put dst v) w':=by
 by_cases hq:uo lo (an P) (an P T) T T' (kT base dst) bx (ev σ x) (ev σ y)=some (r,r)
 ·obtain⟨v,w',hr,ρ',hS|hS⟩:=xy (ty:=ty) (pos:=pos) (af:=af) (g:=g) h ct bF wB hq
  ·exact⟨v,w',hr,ρ',hS⟩
  ·exact⟨v,w',hr,ρ',hS⟩
 have hx:=h.ev x;have hy:=h.ev y;suffices hs:∃v w',(Builtin.append_ #[T,T'] ty #[a.eval x,a.eval y]).run P w= .ok v w'/\∃ρ',aA X ρ' (put σ dst r.1) r.2 (a.put dst v) w' by
  obtain⟨v,w',hr,hS⟩:=hs;refine⟨v,w',?_,hS⟩;simp only[execOp,resolve,invoke,builtin,Sem.run_bind,Sem.run_pure,Result.andThen_ok,List.map_toArray,mC,List.map_nil,hr]
 generalize ev σ x=dx at hv hx hq;generalize ev σ y=dy at hv hy hq;generalize a.eval x=vx at hx⊢;generalize a.eval y=vy at hy⊢;unfold uV at hv;split at hv
 ·rename_i Vz;subst Vz;unfold Kz at hv;split at hv
  ·rename_i el esz bytes ag hk;split at hv
   ·cases hv
   ·rename_i Aw;rw[Option.bind_eq_some_iff]at hv;obtain⟨ys,eF,hv⟩:=hv;obtain⟨A,c,b,off,us,xL,hA,lH,h_⟩:=ox h hy eF;unfold f_ at hv;rw[hk]at hv;cases dst with
    |none=>simp[kT]at hv
    |some d=>
     have hd:=ct d rfl;dsimp only[kT]at hv;obtain⟨hu,he,_,_⟩:=dh hk;have mP:X.lo<=base+d:=Nat.le_trans wB (Nat.le_add_right _ _);split at hv
     ·rename_i hy0;subst hy0;have Qk:∃B n cap,vx= .slice B n cap/\n<=cap/\∃x',r=(x',bx)/\aH w (az X ρ bx w) ρ x' vx:=by
       unfold SB at hv;split at hv
       ·injection hv with hv;have dJ:=(hx.fy rfl)
        obtain⟨A',yp⟩:=dJ.vl;exact⟨_,_,_,yp,Nat.le_refl _,_,hv.symm,.pure dJ.rC⟩
       ·injection hv with hv;exact⟨none,0,0,hx.gd,Nat.le_refl _,_,hv.symm,hx⟩
       ·injection hv with hv;obtain⟨p,off,cap,_,_,_,_,hn,_,_,lk⟩:=hx.pw;exact⟨_,_,_,lk,hn,_,hv.symm,hx⟩
       ·injection hv with hv;have eJ:=hx;cases eJ with
        |pure eJ=>cases eJ with|sl hn dF=>exact⟨_,_,_,rfl,dF,_,hv.symm,hx⟩
       ·cases hv
      obtain⟨B,n,cap,lk,AB,x',rfl,dJ⟩:=Qk;subst lk xL;refine⟨.slice B n cap,w,?_,ρ,h.put (dst:=some d) (fun t ht=>by injection ht with ht;subst ht;exact hd) dJ⟩;have bP:=cW (P:=P) (t:=el) oM w;cases A<;>cases B<;>simp[Builtin.append_,run_underlying hu,bP,Builtin.lenOf,Builtin.firstCells,loadCells,loadCellsFrom,AB,storeCells]
     ·rename_i bq;split at hv
      ·rename_i lI;obtain rfl:=hA bq;unfold pF at hv;split at hv
       ·split at hv
        ·rename_i hc;injection hv with hv;subst hv;have:=Am (ty:=ty) h hd mP hk Aw lI (vx:=vx) (xs:=[]) (xs0:=[]) (n:=0) (us0:=fun _ _=>undef) (by rw[hx.gd];exact World.ownsRow_nil w 0 el esz) rfl sI sI bq xL lH h_ (by simpa using hc.1) hc.2.2 (bx1:=bx) (fun _=> .inl rfl)
          (by rw[hx.gd];simp[Value.ownBlock])
         simp only[List.nil_append,Nat.zero_add]at this;exact this
        ·cases hv
       ·rename_i t e sz o n;unfold DJ at hv;split at hv
        ·rename_i hc;obtain⟨c0,c1,c2,c3,c4,c5,c6,c7,c8,c9,B8⟩:=hc;injection hv with hv;subst hv;subst c1;subst c2;obtain⟨p,u_,cap,hp,j9,h0,_,hn,_,ja,lk⟩:=hx.pw;obtain⟨rfl,rfl⟩:=h0 rfl;obtain⟨p',bJ,DS,vB,gJ,hh⟩:=h.box t (by rw[c4];decide);rw[c3,hp]at bJ;injection bJ with bJ;subst bJ;obtain⟨⟨cur,gj,eU,us0,gL⟩,rn,xJ,bP⟩:=hh;have hlen:((bx t).es.take n).length=n:=by simp;omega
         have eo:∀(i:Nat) d,((bx t).es.take n)[i]? =some d->i<n/\(bx t).es[i]? =some d:=by
          intro i d hi;have:=(gS.1 hi).1;rw[List.getElem?_take_of_lt oM]at hi;exact⟨by omega,hi⟩
         have jL:n * sz<=cur.size:=by rw[eU,j9];exact Nat.mul_le_mul_right _ oM
         have:=Am (ty:=ty) h hd mP hk Aw lI (vx:=vx) (xs:=cur.toList.take (n * sz)) (xs0:=(bx t).es.take n) (n:=n) (us0:=us0)
          (by rw[lk];refine⟨by simp;omega,.inr ⟨p.b,p.cap,cur,rfl,Nat.zero_le _,?_,hn,ja,by rw[eU,j9],rfl⟩⟩;rw[gj,vB,c6]) hlen (fun i d hi=>(bP i d (eo i d hi).2).trans j9)
          (fun i d j c hi hj=>by
           obtain⟨g1,g2⟩:=eo i d hi;obtain⟨u1,u2,u3⟩:=gL i d j c g2 hj;refine⟨?_,u2,u3⟩;have Az:j<sz:=by have:=(gS.1 hj).1;rw[bP i d g2,j9]at this;exact this
           have ar:i * sz+j<n * sz:=by
            have:=Nat.mul_le_mul_right sz (show i+1<=n from g1);rw[Nat.succ_mul]at this;omega
           rw[List.getElem?_take_of_lt ar,aG,<-j9];exact u1) bq xL lH h_ c8 B8 (bx1:=ak bx t {bx t with k:=0})
          (fun s=>by
           by_cases hs:s=t
           ·subst hs;exact .inr ⟨by simp[ak],by simp[ak],Nat.le_trans bF c0⟩
           ·exact .inl (by simp[ak,hs]))
          (by
           rw[lk];intro b hb;simp only[Value.ownBlock,sJ]at hb;exact⟨t,p,c4,by rw[c3];exact hp,hb.symm,.inr (by simp[ak])⟩)
         exact this
        ·cases hv
       ·rename_i sz es;split at hv
        ·rename_i hc;obtain⟨c1,c8,c9,B8⟩:=hc;injection hv with hv;subst hv;subst c1;subst xL;have yx:∀i j,i<ys.length->j<sz->w.cell? ⟨b,off+i * sz+j,none⟩=some (us i j)/\(us i j).oneCell'=true:=by
          intro i j hi hj;have hd:=gE hi;have hc:=gE (show j<ys[i].cells.length by rw[lH i _ hd];exact hj);exact⟨(h_ i _ j _ hd hc).1,(h_ i _ j _ hd hc).2.2⟩
         have qA:Src P sz T (.slice (some ⟨b,off,none⟩) ys.length c) ys.length (rowOf us ys.length sz) w:=
          Src.ofSlice w hu ⟨b,off,none⟩ ys.length c (rowOf us ys.length sz) (iO _ _ _) (fun j u hj=>by
           obtain⟨k,l,hk,hl,rfl,rfl⟩:=kQ hj;rw[Addr.ea];have:=(yx k l hk hl).1;rw[<-Nat.add_assoc];exact this) (fun u hu=>by
           obtain⟨j,hj⟩:=List.mem_iff_getElem?.1 hu;obtain⟨k,l,hk,hl,rfl,rfl⟩:=kQ hj;exact(yx k l hk hl).2)
         have dJ:=hx.fy rfl;obtain⟨A',yp⟩:=dJ.vl;have eJ:=dJ.rC;rw[yp]at eJ⊢;cases eJ with
         |@sl _ _ _ n cap b2 off2 gq hn dF ja xE Hf lj Av yI=>
          have hold:(Builtin.firstCells sz es.length (.slice A' es.length es.length)).run P w.drew= .ok (rowOf gq es.length sz).toArray w.drew:=by
           by_cases hU:es=[]
           ·subst hU;cases A' with
            |none=>simpa[rowOf]using run_firstCells_none (P:=P) w.drew sz 0 0 0
            |some a0=>exact run_firstCells_some w.drew sz 0 a0 0 _ _ (by simp[rowOf]) (by simp[rowOf])
           ·obtain⟨Nk,_⟩:=xE hU;subst Nk;refine run_firstCells_some w.drew sz es.length _ _ _ (rowOf gq es.length sz) (iO _ _ _) fun j u hj=>?_;obtain⟨k,l,hk,hl,rfl,rfl⟩:=kQ hj;rw[Addr.ea];have hd:=gE hk;have hc:=gE (show l<es[k].cells.length by rw[Hf k _ hd];exact hl);have:=lj k _ l _ hd hc;rw[<-Nat.add_assoc];simpa using this
          exact uv (ty:=ty) (bx1:=bx) h hd mP hk oM lI rfl (by have:=List.length_pos_iff.2 bq;omega) Hf (fun i d j c hi hj=>⟨.pure (yI i d j c hi hj),Av i d j c hi hj⟩) hold bq qA lH (fun i d j c hi hj=>(h_ i d j c hi hj).2) c8 B8 (fun _=> .inl rfl)
        ·cases hv
       ·cases hv
      ·cases hv
  ·cases hv
 ·unfold xX at hv;split at hv
  ·rename_i yy el esz bytes ag kn d0 kq n hk cT nd;cases dst with
   |none=>simp[kT]at nd
   |some d=>
    simp only[kT,sJ]at nd;subst nd;have mP:X.lo<=base+d:=Nat.le_trans wB (Nat.le_add_right _ _);split at hv
    ·rename_i hc;obtain⟨c0,c1,c2,c3,c4⟩:=hc;rw[Option.bind_eq_some_iff]at hv;obtain⟨zd,CN,hv⟩:=hv;obtain⟨hu,he,r_,_⟩:=dh hk;obtain⟨m,rfl⟩:∃m:Nat,n=m:=⟨n.toNat,by omega⟩
     simp only[Int.toNat_natCast]at hv;have hyv:=hy.dX;rw[hyv];obtain⟨i,z,hi,vF,AK⟩:=s7 (P:=P) (t:=el) oM;have bP:i.size=esz:=by
      obtain⟨i',_,dH,_,dW⟩:=lN (P:=P) (t:=el) oM;rw[hi]at dH;injection dH with dH;rw[dH,dW,he]
     have Cy:i.bytes=bytes:=by rw[r_,hi];rfl
     have Sq:∀B q cap,q<=cap->vx= .slice B q cap->(Builtin.append_ #[T,T'] ty #[vx,.int kq ((0:Nat):Int)]).run P w= .ok (.slice B q cap) w:=fun B q cap hq lk=>by
      subst lk;cases B<;>simp[Builtin.append_,run_underlying hu,run_underlying (uc cT),sizeOf,typeInfo,hi,asInt,asIntOf,IntKind.wrap,IntKind.signed,IntKind.bits,hq,storeCells]
     unfold FG at hv;split at hv
     ·split at hv
      ·rename_i h0;rw[List.replicate_eq_nil_iff]at h0;subst h0;injection hv with hv;subst hv;exact⟨_,w,Sq none 0 0 (Nat.le_refl _) hx.gd,ρ,by have:=h.put (dst:=some d) (v:=vx) (fun t ht=>by injection ht with ht;subst ht;exact ct d rfl) hx;rw[hx.gd]at this;exact this⟩
      ·rename_i hm;have hm:0<m:=Nat.pos_of_ne_zero fun h=>hm (by rw[h];rfl);unfold pF at hv;simp only at hv;split at hv
       ·rename_i hc;injection hv with hv;subst hv;have:=Dz (ty:=ty) (kq:=kq) h (ct d rfl) mP hk cT oM c2 CN (vx:=vx) (xs:=[]) (xs0:=[]) (n:=0) (us0:=fun _ _=>undef) (by rw[hx.gd];exact World.ownsRow_nil w 0 el esz) rfl sI sI hm (by simpa using hc.1) c4 (bx1:=bx) (fun _=> .inl rfl)
         (by rw[hx.gd];simp[Value.ownBlock])
        rw[List.length_replicate];simp only[Nat.zero_add,List.nil_append]at this;exact this
       ·cases hv
     ·rename_i t e sz o n;split at hv
      ·rename_i h0;rw[List.replicate_eq_nil_iff]at h0;subst h0;injection hv with hv;subst hv;obtain⟨p,off,cap,_,_,_,_,hn,_,_,lk⟩:=hx.pw;exact⟨_,w,Sq _ _ _ hn lk,ρ,by have:=h.put (dst:=some d) (v:=vx) (fun t ht=>by injection ht with ht;subst ht;exact ct d rfl) hx;rw[lk]at this;exact this⟩
      ·rename_i hm;have hm:0<m:=Nat.pos_of_ne_zero fun h=>hm (by rw[h];rfl);unfold pF at hv;simp only at hv;unfold DJ at hv;split at hv
       ·rename_i hc;obtain⟨q0,q1,q2,q3,q4,q5,q6,q7,q8,q9,og⟩:=hc;injection hv with hv;subst hv;subst q1;subst q2;obtain⟨p,u_,cap,hp,j9,h0,_,hn,_,ja,lk⟩:=hx.pw;obtain⟨rfl,rfl⟩:=h0 rfl;obtain⟨p',bJ,DS,vB,gJ,hh⟩:=h.box t (by rw[q4];decide);rw[q3,hp]at bJ;injection bJ with bJ;subst bJ;obtain⟨⟨cur,gj,eU,us0,gL⟩,rn,xJ,Wn⟩:=hh;have hlen:((bx t).es.take n).length=n:=by simp;omega
        have eo:∀(i:Nat) d,((bx t).es.take n)[i]? =some d->i<n/\(bx t).es[i]? =some d:=by
         intro i d hi;have:=(gS.1 hi).1;rw[List.getElem?_take_of_lt oM]at hi;exact⟨by omega,hi⟩
        have jL:n * sz<=cur.size:=by rw[eU,j9];exact Nat.mul_le_mul_right _ oM
        have:=Dz (ty:=ty) (kq:=kq) h (ct d rfl) mP hk cT oM c2 CN (vx:=vx) (xs:=cur.toList.take (n * sz)) (xs0:=(bx t).es.take n) (n:=n) (us0:=us0)
         (by rw[lk];refine⟨by simp;omega,.inr ⟨p.b,p.cap,cur,rfl,Nat.zero_le _,?_,hn,ja,by rw[eU,j9],rfl⟩⟩;rw[gj,vB,q6]) hlen (fun i d hi=>(Wn i d (eo i d hi).2).trans j9)
         (fun i d j c hi hj=>by
          obtain⟨g1,g2⟩:=eo i d hi;obtain⟨u1,u2,u3⟩:=gL i d j c g2 hj;refine⟨?_,u2,u3⟩;have Az:j<sz:=by have:=(gS.1 hj).1;rw[Wn i d g2,j9]at this;exact this
          have ar:i * sz+j<n * sz:=by
           have:=Nat.mul_le_mul_right sz (show i+1<=n from g1);rw[Nat.succ_mul]at this;omega
          rw[List.getElem?_take_of_lt ar,aG,<-j9];exact u1) hm (by simpa using q8) c4 (bx1:=ak bx t {bx t with k:=0})
         (fun s=>by
          by_cases hs:s=t
          ·subst hs;exact .inr ⟨by simp[ak],by simp[ak],Nat.le_trans bF q0⟩
          ·exact .inl (by simp[ak,hs]))
         (by
          rw[lk];intro b hb;simp only[Value.ownBlock,sJ]at hb;exact⟨t,p,q4,by rw[q3];exact hp,hb.symm,.inr (by simp[ak])⟩)
        rw[List.length_replicate];exact this
       ·cases hv
     ·cases hv
    ·cases hv
  ·rename_i yy el esz bytes ag d0 s hk cT nd;split at hv
   ·rename_i hc;obtain⟨c1,rfl,c3⟩:=hc;refine absurd ?_ hq;have he:pK (an P) T T' 1 el bx (.str s)=some (a_ s):=by
     unfold pK;rw[if_neg (by assumption),cT];simp[c3]
    simp only[uo,hk,nd,he,c1,Nat.one_pos,and_self,if_true,Option.bind_some];simp only[f_,hk,nd,c1,if_true]at hv;by_cases h_:a_ s=[]
    ·rw[if_pos h_]at hv⊢;unfold SB at hv;split at hv<;>first|(injection hv with hv;subst hv;rfl)|cases hv
    ·rw[if_neg h_]at hv⊢;unfold pF at hv;split at hv
     ·split at hv
      ·rename_i hc;injection hv with hv;subst hv;simp[uW,hc]
      ·cases hv
     ·unfold DJ at hv;split at hv
      ·rename_i hc;obtain⟨q0,q1,q2,q3,q4,q5,q6,q7,q8,q9,og⟩:=hc;injection hv with hv;subst hv;subst q2;simp[uW,q0,q1,q3,q4,q5,q6,q7,q8,og]
      ·cases hv
     ·split at hv
      ·rename_i hc;injection hv with hv;subst hv;simp[uW,hc]
      ·cases hv
     ·cases hv
   ·cases hv
  ·cases hv
end Go.V
namespace Go.V
open Go.RowKit
variable {P:Program} {X:Ctx} {ρ:cM} {σ:Env} {bx:ae} {a:Act} {w:World}
variable {ty:TypeId} {pos:String} {af:Array Edge} {g:Option (Nat×Bool)}
def agA(n m:Nat):Nat.min n m=min n m:=rfl
def NK{S:Nat->Prop}{p:Place}{es ys:List D}{o:Nat}{gq:Nat->Value}{cur:Array Value}
 (hh:Holds w S ρ p es) (gj:w.heap[p.b]? =some (.cells cur p.ty)) (hS:∀b,S b->b≠p.b) (hz:p.sz=1) (jL:o+ys.length<=es.length)
 (hy:∀(i:Nat) d,ys[i]? =some d->d.one=true/\aH w S ρ d (gq i)/\(gq i).oneCell'=true):
 Holds (w.setRow p.b (cur.toList.take o++(List.range ys.length).map gq++cur.toList.drop (o+ys.length)).toArray) S ρ p (es.take o++ys++es.drop (o+ys.length)):=by
 obtain⟨⟨cur0,zW,eU,us,gL⟩,rn,xJ,bP⟩:=hh;rw[gj]at zW;injection zW with zW;injection zW with zW;subst zW;rw[hz,Nat.mul_one]at eU;have G_:∀k,(cur.toList.take o++(List.range ys.length).map gq++cur.toList.drop (o+ys.length)).toArray[k]? =if o<=k/\k<o+ys.length then some (gq (k - o))else cur[k]?:=by
  intro k;have yF:(cur.toList.take o).length=o:=by simp;omega
  rw[List.getElem?_toArray,List.append_assoc];by_cases h1:k<o
  ·rw[List.getElem?_append_left oM,List.getElem?_take_of_lt h1,if_neg oM,aG]
  ·rw[List.getElem?_append_right oM,yF];by_cases h2:k<o+ys.length
   ·rw[List.getElem?_append_left (by simp;omega),if_pos oM,gM,List.getElem?_range oM];rfl
   ·rw[List.getElem?_append_right (by simp;omega),if_neg oM,List.getElem?_drop,aG]
    congr 1
    simp;omega
 have nR:(cur.toList.take o++(List.range ys.length).map gq++cur.toList.drop (o+ys.length)).toArray.size=p.cap:=by rw[<-eU];simp;omega
 generalize(cur.toList.take o++(List.range ys.length).map gq++cur.toList.drop (o+ys.length)).toArray=new at G_ nR⊢;have lx:∀c u,aH w S ρ c u->aH (w.setRow p.b new) S ρ c u:=fun c u hr=>hr.mono (fun b eg=>setRow_other w p.b b new (hS b eg)) (fun _ h=>h) (fun _ _ _ h=>h);have yF:(es.take o).length=o:=by simp;omega
 have eo:∀(i:Nat) d,(es.take o++ys++es.drop (o+ys.length))[i]? =some d->(o<=i/\i<o+ys.length/\ys[i - o]? =some d)\/(¬(o<=i/\i<o+ys.length)/\es[i]? =some d):=by
  intro i d hi;rw[List.append_assoc]at hi;by_cases h1:i<o
  ·rw[List.getElem?_append_left oM,List.getElem?_take_of_lt h1]at hi;exact .inr ⟨by omega,hi⟩
  ·rw[List.getElem?_append_right oM,yF]at hi;by_cases h2:i<o+ys.length
   ·rw[List.getElem?_append_left oM]at hi;exact .inl ⟨by omega,h2,hi⟩
   ·rw[List.getElem?_append_right oM,List.getElem?_drop]at hi;refine .inr ⟨by omega,?_⟩;rw[<-hi];congr 1;omega
 refine⟨⟨new,setRow_heap w p.b cur new p.ty (0,0) gj,by rw[nR,hz,Nat.mul_one],fun i k=>if o<=i/\i<o+ys.length then gq (i - o)else us i k,fun i d k c hi hk=>?_⟩,by simp;omega,xJ,fun i d hi=>?_⟩
 ·rcases eo i d hi with⟨h1,h2,h3⟩|⟨h1,h3⟩
  ·obtain⟨q1,q2,q3⟩:=hy _ _ h3;rw[gh q1]at hk;obtain rfl:k=0:=by
    rcases k with _|k
    ·rfl
    ·simp at hk
   simp only[List.getElem?_cons_zero,sJ]at hk;subst hk;dsimp only;rw[if_pos ⟨h1,h2⟩];refine⟨?_,lx _ _ q2,q3⟩;rw[G_,hz,Nat.mul_one,Nat.add_zero,if_pos ⟨h1,h2⟩]
  ·obtain⟨u1,u2,u3⟩:=gL i d k c h3 hk;dsimp only;rw[if_neg h1];refine⟨?_,lx _ _ u2,u3⟩;have iz:k<1:=by have:=(gS.1 hk).1;rw[bP i d h3,hz]at this;exact this
   obtain rfl:k=0:=oM;rw[G_,hz,Nat.mul_one,Nat.add_zero,if_neg h1];rw[hz,Nat.mul_one,Nat.add_zero]at u1;exact u1
 ·rcases eo i d hi with⟨h1,h2,h3⟩|⟨h1,h3⟩
  ·rw[gh (hy _ _ h3).1,hz];rfl
  ·exact bP i d h3
def KO(h:aA X ρ σ bx a w){T T':TypeId}{x y:Operand}{dst:Option Tmp}(ct:∀t,dst=some t->t<X.N){lo:Nat}(bF:X.lo<=lo){r:Nat×ae}(hv:wj lo (an P T) (an P T') bx (ev σ x) (ev σ y)=some r):
 ∃v w',(execOp a.eval ⟨dst,.call {callee:=.builtin .copy,args:= #[x,y],argTypes:= #[T,T']},ty,pos,af,g⟩).run P w= .ok (.value v) w'/\aA X ρ (put σ dst (.int .i64 (r.1:Int))) r.2 (a.put dst v) w':=by
 have hx:=h.ev x;have hy:=h.ev y;suffices hs:∃w',(Builtin.copy_ #[T,T'] ty #[a.eval x,a.eval y]).run P w= .ok (goInt r.1) w'/\aA X ρ σ r.2 a w' by
  obtain⟨w',hr,hS⟩:=hs;refine⟨goInt r.1,w',?_,hS.put ct (.pure (.int .i64 _))⟩;simp only[execOp,resolve,invoke,builtin,Sem.run_bind,Sem.run_pure,Result.andThen_ok,List.map_toArray,mC,List.map_nil,hr]
 generalize ev σ x=dx at hv hx;generalize ev σ y=dy at hv hy;generalize a.eval x=vx at hx⊢;generalize a.eval y=vy at hy⊢;unfold wj at hv;split at hv
 ·rename_i el esz bytes ag _ _ _ _ hk _;split at hv
  ·rename_i yA;subst yA;rw[Option.bind_eq_some_iff]at hv;obtain⟨ys,eF,hv⟩:=hv;split at hv
   ·rename_i fg;obtain⟨A,c,b,off,us,xL,hA,lH,h_⟩:=ox h hy eF;obtain⟨hu,he,_,_⟩:=dh hk;obtain⟨i,hi,bP⟩:∃i,P.info? el=some i/\i.size=1:=by
     obtain⟨i',_,dH,_,dW⟩:=lN (P:=P) (t:=el) oM;exact⟨i',dH,by omega⟩
    have Wo:(P.info? el).map (·.size)=some 1:=by rw[hi];simp[bP]
    have none_:∀(d:Option Addr) (n cap:Nat),vx= .slice d n cap->min ys.length n=0->r=(0,bx)->∃w',(Builtin.copy_ #[T,T'] ty #[vx,vy]).run P w= .ok (goInt r.1) w'/\aA X ρ σ r.2 a w':=by
     rintro d n cap rfl h0 rfl;subst xL;exact⟨w,run_copy_none (P:=P) w T T' ty el d A n cap ys.length c hu Wo h0,h⟩
    have rows:∀(p:Place) (o n cap:Nat) (m:Nat) (cur:Array Value),m=min ys.length n->0<m->vx= .slice (some ⟨p.b,o,none⟩) n cap->w.heap[p.b]? =some (.cells cur p.ty)->o+m<=cur.size->
     (Builtin.copy_ #[T,T'] ty #[vx,vy]).run P w= .ok (goInt m) (w.setRow p.b (cur.toList.take o++(List.range m).map (fun i=>us i 0)++cur.toList.drop (o+m)).toArray):=by
     rintro p o n cap m cur hm V8 rfl gj jL;have bq:ys≠[]:=by rintro rfl;simp at hm;omega
     obtain rfl:=hA bq;subst xL;have fJ:∀k,k<ys.length->∃d,ys[k]? =some d/\d.cells=[d]:=fun k hk=>⟨_,gE hk,gh (List.all_eq_true.1 fg _ (List.getElem_mem hk))⟩
     have:=run_copy_row (P:=P) w T T' ty el p.b o n cap ⟨b,off,none⟩ ys.length c cur p.ty ((List.range m).map fun i=>us i 0) hu Wo gj (by simp[hm]) (fun j v hj=>by
      have pj:=(gS.1 hj).1;simp only[List.length_map,List.length_range]at pj;rw[gM,List.getElem?_range pj]at hj;simp only[Option.map_some,sJ]at hj;obtain⟨d,hd,JI⟩:=fJ j oM;have:=(h_ j d 0 d hd (by rw[JI];rfl)).1;rw[Addr.ea,<-hj];simpa using this) (by simpa using jL) (fun v hv=>by
      obtain⟨j,hj,rfl⟩:=List.mem_map.1 hv;obtain⟨d,hd,JI⟩:=fJ j (by have:=List.mem_range.1 hj;omega);exact(h_ j d 0 d hd (by rw[JI];rfl)).2.2)
     simpa using this
    have JY:∀(m i:Nat) d,(ys.take m)[i]? =some d->d.one=true/\aH w (az X ρ bx w) ρ d (us i 0)/\(us i 0).oneCell'=true:=fun m i d hi=>by
     have dH:=(gS.1 hi).1;rw[List.getElem?_take_of_lt (by simp at dH;omega)]at hi;have h1:=List.all_eq_true.1 fg d (mG hi);have:=h_ i d 0 d hi (by rw[gh h1];rfl);exact⟨h1,this.2⟩
    unfold wm at hv;split at hv
    ·injection hv with hv;exact none_ none 0 0 hx.gd sI hv.symm
    ·rename_i t e sz o n;split at hv
     ·rename_i hc;obtain⟨c0,c1,c2,c3,c4,c5⟩:=hc;injection hv with hv;subst c1;obtain⟨p,u_,cap,hp,j9,h0,dQ,hn,NJ,ja,lk⟩:=hx.pw;obtain⟨p',bJ,DS,vB,gJ,hh⟩:=h.box t (by rw[c3];decide);rw[c2,hp]at bJ;injection bJ with bJ;subst bJ;have EV:ρ t (bx t).ep=some p:=by rw[c2];exact hp
      by_cases hm:min ys.length n=0
      ·refine none_ _ n cap lk hm ?_;rw[<-hv,hm];have:ys.take n=[]:=by
        rcases Nat.eq_zero_or_pos n with h0|h0
        ·rw[h0];rfl
        ·have:ys.length=0:=oM;rw[List.eq_nil_of_length_eq_zero this];simp
       rw[this]
       congr 1
       funext s;simp only[ak,List.append_nil,Nat.add_zero,List.take_append_drop];split
       ·rename_i hs;rw[hs]
       ·rfl
      ·obtain⟨cur,gj,eU,_⟩:=hh.ex;have rn:=hh.len;have ho:=dQ oM;rw[Nat.mul_one]at ho;have jL:u_+min ys.length n<=cur.size:=by rw[eU,j9,ho];omega
       have hr:=rows p u_ n cap (min ys.length n) cur rfl oM lk gj jL;have hl:(ys.take n).length=min ys.length n:=by simp[Nat.min_comm]
       have hH:=NK (o:=o) hh gj (fun b hb e=>hb.2.2 t c3 p EV e.symm) j9 (by rw[hl];omega) (JY n);rw[hl,<-ho]at hH;refine⟨_,by rw[<-hv];exact hr,?_⟩;rw[<-hv];rw[ho]at hH⊢;exact h.stored (Nat.le_trans bF c0) c3 EV ⟨rfl,rfl,rfl,by simp[World.setRow],fun k _ hk=>setRow_other w p.b k _ hk⟩ hH
     ·cases hv
    ·rename_i t e i0 j n;split at hv
     ·rename_i hc;obtain⟨c0,c2,c3⟩:=hc;split at hv
      ·rename_i d0 nd;rw[mS]at hv;obtain⟨d',gG,hv⟩:=hv;obtain⟨p,u_,cap,hp,dQ,hn,dF,lk⟩:=hx.DU;obtain⟨p',bJ,DS,vB,gJ,hh⟩:=h.box t (by rw[c3];decide);rw[c2,hp]at bJ;injection bJ with bJ;subst bJ;have EV:ρ t (bx t).ep=some p:=by rw[c2];exact hp
       have hl:(ys.take n).length=min ys.length n:=by simp[Nat.min_comm]
       by_cases hm:min ys.length n=0
       ·refine none_ _ n cap lk hm ?_;rw[<-hv,hm];have:ys.take n=[]:=List.eq_nil_of_length_eq_zero oM;rw[this]at gG
        congr 1
        have hd:d'=d0:=by
         unfold fi at gG;split at gG
         ·split at gG
          ·injection gG with gG;rw[<-gG];simp
          ·cases gG
         ·cases gG
        subst hd;funext s;simp only[ak];split
        ·rename_i hs;rw[hs];have:(bx t).es.set i0 d'=(bx t).es:=by
          obtain⟨h1,h2⟩:=gS.1 nd;rw[<-h2];simp
         rw[this]
        ·rfl
       ·have hdy:aH w (az X ρ bx w) ρ (.agg (ys.take n)) (.agg ((List.range (min ys.length n)).map fun i=>us i 0).toArray):=by
         refine .agg (by simp[Nat.min_comm]) fun i d v hi aT=>?_;have:=JY n i d hi;have dH:=(gS.1 hi).1;rw[List.getElem?_toArray,gM,List.getElem?_range oM]at aT;simp only[Option.map_some,sJ]at aT;rw[<-aT];exact this.2.1
        obtain⟨cur,gj,jv,eG,JM⟩:=ET (dy:=.agg (ys.take n)) hh (fun b hb e=>hb.2.2 t c3 p EV e.symm) nd gG (List.all_eq_true.2 fun d hd=>List.all_eq_true.1 fg d (List.mem_of_mem_take hd)) hdy;have ho:=dQ oM;have fJ:(Value.agg ((List.range (min ys.length n)).map fun i=>us i 0).toArray).cells=((List.range (min ys.length n)).map fun i=>us i 0).toArray:=rfl;rw[fJ]at jv JM;have hr:=rows p u_ n cap (min ys.length n) cur rfl oM lk gj (by rw[ho];simpa using jv);refine⟨_,by rw[<-hv];exact hr,?_⟩;rw[<-hv,ho];have he:(cur.toList.take (i0 * p.sz+j)++(List.range (min ys.length n)).map (fun i=>us i 0)++cur.toList.drop (i0 * p.sz+j+min ys.length n)).toArray=putRow cur (i0 * p.sz+j) ((List.range (min ys.length n)).map fun i=>us i 0).toArray:=by unfold putRow;simp
        rw[he];exact h.stored (Nat.le_trans bF c0) c3 EV ⟨rfl,rfl,rfl,by simp[World.setRow],fun k _ hk=>setRow_other w p.b k _ hk⟩ JM
      ·cases hv
     ·cases hv
    ·cases hv
   ·cases hv
  ·cases hv
 ·cases hv
end Go.V
namespace Go.V
open Go.RowKit
def cB(w:World)(S:Nat->Prop)(d:D)(v:Value)(w':World):Prop:=
 br w' (fun b=>S b\/(w.heap.size<=b/\b<w'.heap.size)) d v/\Below w.heap.size w w'
def ao(P:Program)(f:FuncId)(ds:List D)(d:D):Prop:=
 ∀(w:World) (S:Nat->Prop) (vs:Array Value),(∀b,S b->b<w.heap.size)->br w S .fI undef->vs.size=ds.length->(∀(i:Nat) x v,ds[i]? =some x->vs[i]? =some v->br w S x v)->
  ((callFunc f vs).run P w= .ok (.enter f vs) w/\Calls P f vs w (fun e w'=>∃v,e= .returned v/\cB w S d v w'))\/
  (∃v w',(callFunc f vs).run P w= .ok (.value v) w'/\cB w S d v w')
variable {P:Program} {C:Calc} {X:Ctx} {ρ:cM} {σ:Env} {bx:ae} {a:Act} {w:World}
theorem q_:∀(ds:List D),D.FI ds=true->∀(i:Nat) d,ds[i]? =some d->d.bare=true
 |[],_,i,d,hd=>by simp at hd
 |x::xs,hp,i,d,hd=>by
  simp only[D.FI,bA]at hp;cases i with
  |zero=>simp at hd;subst hd;exact hp.1
  |succ i=>exact q_ xs hp.2 i d (by simpa using hd)
def uI(ds:List D)(hp:D.aF ds=true)(i:Nat)(d:D)(hd:ds[i]? =some d):d.pure=true:=tV ds hp d (mG hd)
theorem br.bare{w w':World}{S S':Nat->Prop}{d:D}{v:Value}(h:br w S d v)(hb:d.bare=true):br w' S' d v:=by
 induction h with
 |undef v=>simp[D.bare]at hb
 |any ds v=>exact .any ds v
 |fI=>simp[D.bare]at hb
 |int k n=>exact .int k n
 |bool b=>exact .bool b
 |gZ b=>exact .gZ b
 |str l=>exact .str l
 |raw x=>exact .raw x
 |aq=>exact .aq
 |agg hl _ ih=>exact .agg hl fun i d v hd hv=>ih i d v hd hv (q_ _ (by simpa only[D.bare]using hb) i d hd)
 |aL hl _ ih=>exact .aL hl fun i d v hd hv=>ih i d v hd hv (q_ _ (by simpa only[D.bare]using hb) i d hd)
 |sl=>simp[D.bare]at hb
 |cA=>simp[D.bare]at hb
 |g_=>simp[D.bare]at hb
 |fn hl _ ih=>exact .fn hl fun i d v hd hv=>ih i d v hd hv (q_ _ (by simpa only[D.bare]using hb) i d hd)
 |iw hl _ ih=>exact .iw hl fun i d v hd hv=>ih i d v hd hv (q_ _ (by simpa only[D.bare]using hb) i d hd)
 |dB _ ih=>exact .dB (ih (by simpa only[D.bare]using hb))
mutual
def names:D->List Nat
 | .loc t _ _ _| .bE t _ _ _ _| .fH t _ _ _ _=>[t]
 | .agg ds| .aL ds| .fn _ ds| .iw _ ds=>bH ds
 | .dB _ d=>names d
 |_=>[]
def bH:List D->List Nat
 |[]=>[]
 |d::ds=>names d++bH ds
end
def xC(b:Bx):Bx:={b with k:=if b.k=1 then 2 else b.k}
def Ta(b:Bx):xC (xC b)=xC b:=by
 unfold xC;by_cases h:b.k=1<;>simp[h]
mutual
theorem JB(bx:ae)(t:Nat):∀d:D,eN bx d t=if t∈names d then xC (bx t)else bx t
 | .loc s _ _ _=>by simp only[eN,names,ak,List.mem_singleton];split<;>simp_all[xC]
 | .bE s _ _ _ _=>by simp only[eN,names,ak,List.mem_singleton];split<;>simp_all[xC]
 | .fH s _ _ _ _=>by simp only[eN,names,ak,List.mem_singleton];split<;>simp_all[xC]
 | .g_ _ _=>by simp[eN,names]
 | .agg ds=>by simp only[eN,names];exact fe bx t ds
 | .aL ds=>by simp only[eN,names];exact fe bx t ds
 | .fn f ds=>by simp only[eN,names];exact fe bx t ds
 | .iw f ds=>by simp only[eN,names];exact fe bx t ds
 | .dB _ d=>by simp only[eN,names];exact JB bx t d
 | .undef=>by simp[eN,names]
 | .any _=>by simp[eN,names]
 | .fI=>by simp[eN,names]
 | .gZ=>by simp[eN,names]
 | .int _ _=>by simp[eN,names]
 | .bool _=>by simp[eN,names]
 | .str _=>by simp[eN,names]
 | .raw _=>by simp[eN,names]
 | .aq=>by simp[eN,names]
 | .sl _ _=>by simp[eN,names]
 | .cA _ _=>by simp[eN,names]
 | .omap _ _=>by simp[eN,names]
theorem fe(bx:ae)(t:Nat):∀ds:List D,dO bx ds t=if t∈bH ds then xC (bx t)else bx t
 |[]=>by simp[dO,bH]
 |d::ds=>by
  simp only[dO,bH,List.mem_append];rw[fe (eN bx d) t ds,JB bx t d];by_cases h1:t∈names d<;>by_cases h2:t∈bH ds<;>simp[h1,h2,Ta]
end
theorem br.lA{S S':Nat->Prop}{d:D}{v:Value}(h:br w S d v)(hS:∀b,S b->S' b):br w S' d v:=h.mono (fun _ _=>rfl) hS
theorem aH.DV{S:Nat->Prop}{t:TypeId}{d:D}{v:Value}(h:aH w S ρ (.dB t d) v):∃u,v= .iface t u/\aH w S ρ d u:=by
 cases h with
 |pure h=>cases h with|dB h=>exact⟨_,rfl,.pure h⟩
 |dB h=>exact⟨_,rfl,h⟩
def pb{x:Option D}{xs:Option (List D)}{r:List D}(h:lU x xs=some r):∃y ys,x=some y/\xs=some ys/\r=y::ys:=by
 cases x<;>cases xs<;>simp[lU]at h;exact⟨_,_,rfl,rfl,h.symm⟩
def zL(X:Ctx)(ρ:cM)(bx:ae)(w:World)(S':Nat->Prop)(ns:List Nat):Prop:=
 (∀b,az X ρ bx w b->S' b)/\∀t∈ns,lv (bx t).k->∀p,ρ t (bx t).ep=some p->S' p.b
def Mg(d:D):d.Ej.cells=d.cells.map D.uS:=by
 have key:∀c:D,c.cells=[c]->(D.uS c).cells=[D.uS c]:=by
  intro c h;unfold D.uS;split
  ·exact h
  ·rfl
 cases d with
 |agg ds=>rfl
 |_=>exact key _ rfl
mutual
theorem nV(h:aA X ρ σ bx a w){S':Nat->Prop}:∀(d d':D) (v:Value),zL X ρ bx w S' (names d)->aH w (az X ρ bx w) ρ d v->bz bx d=some d'->br w S' d' v
 | .loc t e i j,d',v,hS,hr,ho=>by
   simp only[bz]at ho;split at ho
   ·rename_i hc;obtain⟨he,hk⟩:=hc;split at ho
    ·rename_i d hd;split at ho
     ·rename_i hp;injection ho with ho;subst ho;obtain⟨p,CH,rfl⟩:=hr.lJ;obtain⟨p',bJ,j9,vB,gJ,hh⟩:=h.box t hk;rw[he,CH]at bJ;injection bJ with bJ;subst bJ;obtain⟨⟨cur,gj,eU,us,gL⟩,rn,xJ,bP⟩:=hh;refine .cA (off:=i * p.sz) (us:=us i) (hS.2 t (by simp[names]) hk p (by rw[he];exact CH)) rfl (fun m c hm=>?_) (fun m c hm=>(gL i d m c hd hm).2.2) (fun m c hm=>?_)
      ·simp[World.cell?,gj,(gL i d m c hd hm).1]
      ·exact((gL i d m c hd hm).2.1.fy (sK hp c (mG hm))).lA hS.1
     ·injection ho with ho;subst ho;obtain⟨p,CH,rfl⟩:=hr.lJ;obtain⟨p',bJ,j9,vB,gJ,hh⟩:=h.box t hk;rw[he,CH]at bJ;injection bJ with bJ;subst bJ;obtain⟨⟨cur,gj,eU,us,gL⟩,rn,xJ,bP⟩:=hh;have jt:∀(m:Nat) c',d.Ej.cells[m]? =some c'->∃c,d.cells[m]? =some c/\c'=D.uS c:=fun m c' hm=>by
       rw[Mg,gM,mS]at hm;obtain⟨c,h1,h2⟩:=hm;exact⟨c,h1,h2.symm⟩
      refine .cA (off:=i * p.sz) (us:=us i) (hS.2 t (by simp[names]) hk p (by rw[he];exact CH)) rfl (fun m c' hm=>?_) (fun m c' hm=>?_) (fun m c' hm=>?_)
      ·obtain⟨c,hc,_⟩:=jt m c' hm;simp[World.cell?,gj,(gL i d m c hd hc).1]
      ·obtain⟨c,hc,_⟩:=jt m c' hm;exact(gL i d m c hd hc).2.2
      ·obtain⟨c,hc,rfl⟩:=jt m c' hm;unfold D.uS;split
       ·rename_i AE;exact((gL i d m c hd hc).2.1.fy AE).lA hS.1
       ·exact .undef _
    ·cases ho
   ·cases ho
 | .bE t e sz o n,d',v,hS,hr,ho=>by
   simp only[bz]at ho;split at ho
   ·rename_i hc;obtain⟨he,hk,hz,hle⟩:=hc;split at ho
    ·rename_i hp;injection ho with ho;subst ho;have eF:iJ bx sz (.bE t e sz o n)=some (((bx t).es.drop o).take n):=by unfold iJ;exact if_pos ⟨rfl,he,hk,hz,hle⟩
     obtain⟨p,off,cap,CH,j9,h0,dQ,hn,dF,ja,rfl⟩:=hr.pw;obtain⟨A,c,b,u_,us,hv,hA,lH,h_⟩:=ox h hr eF;injection hv with iA dZ NR;have gJ:((bx t).es.drop o).take n≠[]->b=p.b:=fun bq=>by
      have:=hA bq;rw[this]at iA;injection iA with iA;injection iA with iA;exact iA.symm
     refine .sl (b:=b) (off:=u_) (us:=us) dZ oM oM (fun bq=>⟨iA.trans (hA bq),?_⟩) lH (fun i d j c hi hj=>(h_ i d j c hi hj).1) (fun i d j c hi hj=>(h_ i d j c hi hj).2.2) (fun i d j c hi hj=>?_)
     ·rw[gJ bq];exact hS.2 t (by simp[names]) hk p (by rw[he];exact CH)
     ·exact((h_ i d j c hi hj).2.1.fy (sK (tV _ hp d (mG hi)) c (mG hj))).lA hS.1
    ·cases ho
   ·cases ho
 | .fH t e i j n,d',v,hS,hr,ho=>by
   simp only[bz]at ho;split at ho
   ·rename_i hc;obtain⟨he,hk⟩:=hc;split at ho
    ·rename_i d0 nd;split at ho
     ·rename_i lj;obtain⟨hle,hp,dV⟩:=lj;injection ho with ho;subst ho;have eF:iJ bx 1 (.fH t e i j n)=some ((d0.cells.drop j).take n):=by simp only[iJ,he,hk,and_self,if_true,nd,hle,dV]
      obtain⟨p,off,cap,CH,dQ,hn,dF,rfl⟩:=hr.DU;obtain⟨A,c,b,u_,us,hv,hA,lH,h_⟩:=ox h hr eF;injection hv with iA dZ NR;have hm:(65536:Nat)<=maxLen:=by decide
      have gJ:(d0.cells.drop j).take n≠[]->b=p.b:=fun bq=>by
       have:=hA bq;rw[this]at iA;injection iA with iA;injection iA with iA;exact iA.symm
      refine .sl (b:=b) (off:=u_) (us:=us) dZ oM oM (fun bq=>⟨iA.trans (hA bq),?_⟩) lH (fun i d j c hi hj=>(h_ i d j c hi hj).1) (fun i d j c hi hj=>(h_ i d j c hi hj).2.2) (fun i d j c hi hj=>?_)
      ·rw[gJ bq];exact hS.2 t (by simp[names]) hk p (by rw[he];exact CH)
      ·exact((h_ i d j c hi hj).2.1.fy (sK (tV _ hp d (mG hi)) c (mG hj))).lA hS.1
     ·cases ho
    ·cases ho
   ·cases ho
 | .g_ sz es,d',v,hS,hr,ho=>by simp only[bz,sJ]at ho;subst ho;exact(hr.fy rfl).lA hS.1
 | .agg ds,d',v,hS,hr,ho=>by
   simp only[bz,mS]at ho;obtain⟨ds',ho,rfl⟩:=ho;obtain⟨vs,rfl,hl,hv⟩:=hr.pv;obtain⟨h1,h2⟩:=kL h ds ds' vs.toList (by simpa[names]using hS) (by simpa using hl) (fun i d v hd aT=>hv i d v hd (by simpa using aT)) ho;exact .agg (hl.trans h1.symm) (fun i d v hd aT=>h2 i d v hd (by simpa using aT))
 | .aL ds,d',v,hS,hr,ho=>by
   simp only[bz,mS]at ho;obtain⟨ds',ho,rfl⟩:=ho;obtain⟨vs,rfl,hl,hv⟩:=hr.J3;obtain⟨h1,h2⟩:=kL h ds ds' vs.toList (by simpa[names]using hS) (by simpa using hl) (fun i d v hd aT=>hv i d v hd (by simpa using aT)) ho;exact .aL (hl.trans h1.symm) (fun i d v hd aT=>h2 i d v hd (by simpa using aT))
 | .fn f ds,d',v,hS,hr,ho=>by
   simp only[bz,mS]at ho;obtain⟨ds',ho,rfl⟩:=ho;obtain⟨vs,rfl,hl,hv⟩:=hr.vG;obtain⟨h1,h2⟩:=kL h ds ds' vs.toList (by simpa[names]using hS) (by simpa using hl) (fun i d v hd aT=>hv i d v hd (by simpa using aT)) ho;exact .fn (hl.trans h1.symm) (fun i d v hd aT=>h2 i d v hd (by simpa using aT))
 | .iw f ds,d',v,hS,hr,ho=>by
   simp only[bz,mS]at ho;obtain⟨ds',ho,rfl⟩:=ho;obtain⟨vs,rfl,hl,hv⟩:=hr.J2;obtain⟨h1,h2⟩:=kL h ds ds' vs.toList (by simpa[names]using hS) (by simpa using hl) (fun i d v hd aT=>hv i d v hd (by simpa using aT)) ho;exact .iw (hl.trans h1.symm) (fun i d v hd aT=>h2 i d v hd (by simpa using aT))
 | .dB t d,d',v,hS,hr,ho=>by
   simp only[bz,mS]at ho;obtain⟨d'',ho,rfl⟩:=ho;obtain⟨u,rfl,hu⟩:=hr.DV;exact .dB (nV h d d'' u (by simpa[names]using hS) hu ho)
 | .undef,d',v,hS,hr,ho=>by simp only[bz,sJ]at ho;subst ho;exact .undef v
 | .any l,d',v,hS,hr,ho=>by simp only[bz,sJ]at ho;subst ho;exact .any l v
 | .int k n,d',v,hS,hr,ho=>by simp only[bz,sJ]at ho;subst ho;exact(hr.fy rfl).lA hS.1
 | .bool b,d',v,hS,hr,ho=>by simp only[bz,sJ]at ho;subst ho;exact(hr.fy rfl).lA hS.1
 | .gZ,d',v,hS,hr,ho=>by simp only[bz,sJ]at ho;subst ho;exact(hr.fy rfl).lA hS.1
 | .str s,d',v,hS,hr,ho=>by simp only[bz,sJ]at ho;subst ho;exact(hr.fy rfl).lA hS.1
 | .raw x,d',v,hS,hr,ho=>by simp only[bz,sJ]at ho;subst ho;exact(hr.fy rfl).lA hS.1
 | .fI,d',v,hS,hr,ho=>by simp only[bz,sJ]at ho;subst ho;exact(hr.fy rfl).lA hS.1
 | .aq,d',v,hS,hr,ho=>by simp only[bz,sJ]at ho;subst ho;exact(hr.fy rfl).lA hS.1
 | .sl sz es,d',v,hS,hr,ho=>by simp only[bz,sJ]at ho;subst ho;exact(hr.fy rfl).lA hS.1
 | .cA d j,d',v,hS,hr,ho=>by simp only[bz,sJ]at ho;subst ho;exact(hr.fy rfl).lA hS.1
theorem kL(h:aA X ρ σ bx a w){S':Nat->Prop}:∀(ds ds':List D) (vs:List Value),zL X ρ bx w S' (bH ds)->vs.length=ds.length->(∀(i:Nat) d v,ds[i]? =some d->vs[i]? =some v->aH w (az X ρ bx w) ρ d v)->dn bx ds=some ds'->
 ds'.length=ds.length/\∀(i:Nat) d v,ds'[i]? =some d->vs[i]? =some v->br w S' d v
 |[],ds',vs,hS,hl,hv,ho=>by
  simp only[dn,sJ]at ho;subst ho;exact⟨rfl,fun i d v hd=>by simp at hd⟩
 |d::ds,ds',vs,hS,hl,hv,ho=>by
  simp only[dn]at ho;obtain⟨y,ys,h1,h2,rfl⟩:=pb ho;cases vs with
  |nil=>simp at hl
  |cons v vs=>
   simp only[bH]at hS;have hSd:zL X ρ bx w S' (names d):=⟨hS.1,fun t ht=>hS.2 t (List.mem_append_left _ ht)⟩
   have hSl:zL X ρ bx w S' (bH ds):=⟨hS.1,fun t ht=>hS.2 t (List.mem_append_right _ ht)⟩
   obtain⟨g1,g2⟩:=kL h ds ys vs hSl (by simpa using hl) (fun i d' v' hd aT=>hv (i+1) d' v' (by simpa using hd) (by simpa using aT)) h2;refine⟨by simp[g1],fun i d' v' hd aT=>?_⟩;cases i with
   |zero=>
    simp only[List.getElem?_cons_zero,sJ]at hd aT;subst hd;subst aT;exact nV h d y v hSd (hv 0 d v sI sI) h1
   |succ i=>exact g2 i d' v' (by simpa using hd) (by simpa using aT)
end
theorem aA.Vi{w':World}(h:aA X ρ σ bx a w){d:D}{v:Value}(hp:cB w (az X ρ bx w) d v w'):aA X ρ σ bx a w'/\aH w' (az X ρ bx w') ρ d v:=by
 refine⟨h.ext hp.2,.pure (hp.1.lA fun b hb=>?_)⟩;rcases hb with hb|⟨h1,h2⟩
 ·exact⟨Nat.lt_of_lt_of_le hb.1 hp.2.size,hb.2⟩
 ·refine⟨h2,.inr (Nat.le_trans (Nat.le_trans h.nb h.fr.size) h1),fun t hk p bJ=>?_⟩;obtain⟨p',Lc,_,_,_,hh⟩:=h.box t (by rw[hk];decide);rw[bJ]at Lc;injection Lc with Lc;subst Lc;have:=hh.lt;omega
def sv(h:aA X ρ σ bx a w)(ds:List D):zL X ρ bx w (az X ρ (dO bx ds) w) (bH ds):=by
 have hfk:∀t,(dO bx ds t).k=1->(bx t).k=1/\t∉bH ds/\(dO bx ds t).ep=(bx t).ep:=by
  intro t ht;rw[fe]at ht⊢;by_cases hn:t∈bH ds
  ·simp only[hn,if_true,xC]at ht⊢;split at ht<;>simp_all
  ·simp only[hn,if_false]at ht⊢;exact⟨ht,not_false,trivial⟩
 refine⟨fun b hb=>⟨hb.1,hb.2.1,fun t ht p hp=>?_⟩,fun t ht hk p hp=>?_⟩
 ·obtain⟨h1,_,h3⟩:=hfk t ht;rw[h3]at hp;exact hb.2.2 t h1 p hp
 ·obtain⟨p',bJ,_,_,gJ,hh⟩:=h.box t hk;rw[hp]at bJ;injection bJ with bJ;subst bJ;refine⟨hh.lt,.inr gJ.1,fun s hs q hq=>?_⟩;obtain⟨h1,h2,h3⟩:=hfk s hs;rw[h3]at hq;exact h.inj s t q p h1 hk (fun e=>h2 (e▸ht)) hq hp
theorem aA.JA(h:aA X ρ σ bx a w)(ds:List D)(bF:∀s∈bH ds,X.lo<=s):aA X ρ σ (dO bx ds) a w:=by
 refine h.less fun s=>?_;rw[fe];by_cases hn:s∈bH ds
 ·right;simp only[hn,if_true,xC];refine⟨bF s hn,?_,?_⟩
  ·split<;>simp_all
  ·refine⟨trivial,fun hk=>⟨?_,trivial,trivial,trivial⟩,fun hk=>⟨?_,trivial⟩⟩
   ·split at hk
    ·rename_i h1;rw[h1,W0];trivial
    ·exact hk
   ·split at hk
    ·cases hk
    ·exact hk
 ·left;simp only[hn,if_false]
theorem aA.frozen(h:aA X ρ σ bx a w)(bF:X.lo=0)(ds:List D):aA X ρ σ (dO bx ds) a w:=h.JA ds fun s _=>by omega
theorem wZ{d:D}(h:d.pure=true):names d=[]:=by
 have hL:∀ds:List D,(∀d∈ds,d.pure=true->names d=[])->D.aF ds=true->bH ds=[]:=by
  intro ds;induction ds with
  |nil=>intros;rfl
  |cons x xs ih=>
   intro h1 h2;simp only[D.aF,bA]at h2;simp only[bH,h1 x (List.mem_cons_self ..) h2.1,ih (fun d hd=>h1 d (List.mem_cons_of_mem _ hd)) h2.2,List.append_nil]
 match d with
 | .agg ds| .aL ds| .fn _ ds| .iw _ ds=>simp only[names];exact hL ds (fun d hd hp=>wZ hp) (by simpa only[D.pure]using h)
 | .dB _ d=>simp only[names];exact wZ (by simpa only[D.pure]using h)
 | .loc ..| .bE ..| .fH ..| .omap ..=>simp[D.pure]at h
 | .int ..| .bool _| .str _| .raw _| .aq| .sl ..| .g_ ..| .cA ..| .undef| .fI| .any _| .gZ=>simp[names]
theorem tT:∀(ds ds':List D),dn bx ds=some ds'->ds'.length=ds.length/\∀(i:Nat) d',ds'[i]? =some d'->∃d,ds[i]? =some d/\bz bx d=some d'
 |[],ds',h=>by simp only[dn,sJ]at h;subst h;simp
 |d::ds,ds',h=>by
  simp only[dn]at h;obtain⟨y,ys,h1,h2,rfl⟩:=pb h;obtain⟨g1,g2⟩:=tT ds ys h2;refine⟨by simp[g1],fun i d' hd=>?_⟩;cases i with
  |zero=>simp at hd;subst hd;exact⟨d,by simp,h1⟩
  |succ i=>simpa using g2 i d' (by simpa using hd)
def C5{d d':D}(h:bz bx d=some d'):d'.cells.length=d.cells.length/\∀(j:Nat) c',d'.cells[j]? =some c'->∃c,d.cells[j]? =some c/\bz bx c=some c':=by
 have single:d.cells=[d]->d'.cells=[d']->d'.cells.length=d.cells.length/\∀(j:Nat) c',d'.cells[j]? =some c'->∃c,d.cells[j]? =some c/\bz bx c=some c':=by
  intro h1 h2;rw[h1,h2];refine⟨rfl,fun j c' hj=>?_⟩;cases j with
  |zero=>simp at hj;subst hj;exact⟨d,rfl,h⟩
  |succ j=>simp at hj
 cases d with
 |agg ds=>
  simp only[bz,mS]at h;obtain⟨es,he,rfl⟩:=h;exact tT ds es he
 |loc t e i j=>
  refine single rfl ?_;simp only[bz]at h;split at h
  ·split at h
   ·split at h<;>(injection h with h;subst h;rfl)
   ·cases h
  ·cases h
 |bE t e sz o n=>
  refine single rfl ?_;simp only[bz]at h;split at h
  ·split at h
   ·injection h with h;subst h;rfl
   ·cases h
  ·cases h
 |fH t e i j n=>
  refine single rfl ?_;simp only[bz]at h;split at h
  ·split at h
   ·split at h
    ·injection h with h;subst h;rfl
    ·cases h
   ·cases h
  ·cases h
 |aL ds=>simp only[bz,mS]at h;obtain⟨es,he,rfl⟩:=h;exact single rfl rfl
 |fn f ds=>simp only[bz,mS]at h;obtain⟨es,he,rfl⟩:=h;exact single rfl rfl
 |iw f ds=>simp only[bz,mS]at h;obtain⟨es,he,rfl⟩:=h;exact single rfl rfl
 |dB t d=>simp only[bz,mS]at h;obtain⟨es,he,rfl⟩:=h;exact single rfl rfl
 |omap=>cases h
 |_=>injection h with h;subst h;exact single rfl rfl
def I4(d:D):∀(j:Nat) c,d.cells[j]? =some c->∀t∈names c,t∈names d:=by
 have mem:∀(ds:List D) (j:Nat) c,ds[j]? =some c->∀t∈names c,t∈bH ds:=by
  intro ds;induction ds with
  |nil=>intro j c hj;simp at hj
  |cons x xs ih=>
   intro j c hj t ht;simp only[bH,List.mem_append];cases j with
   |zero=>simp at hj;subst hj;exact .inl ht
   |succ j=>exact .inr (ih j c (by simpa using hj) t ht)
 intro j c hj t ht;cases d with
 |agg ds=>exact mem ds j c hj t ht
 |_=>
  cases j with
  |zero=>simp[D.cells]at hj;subst hj;exact ht
  |succ j=>simp[D.cells]at hj
theorem E_:∀(ds:List D) (j:Nat) c,ds[j]? =some c->∀t∈names c,t∈bH ds
 |[],j,c,hj=>by simp at hj
 |x::xs,j,c,hj=>by
  intro t ht;simp only[bH,List.mem_append];cases j with
  |zero=>simp at hj;subst hj;exact .inl ht
  |succ j=>exact .inr (E_ xs j c (by simpa using hj) t ht)
theorem aA.N0(h:aA X ρ σ bx a w)(bF:X.lo=0){s:Nat}{es:List D}(hk:(bx s).k=1)(ho:dn bx (bx s).es=some es):aA X ρ σ (eO bx s es) a w:=by
 have h1:=h.frozen bF (bx s).es;have hL:=sv h (bx s).es;have bq:∀t,t≠s->eO bx s es t=dO bx (bx s).es t:=fun t ht=>by simp[eO,ak,ht]
 have fN:∀t,(eO bx s es t).k=(dO bx (bx s).es t).k/\(eO bx s es t).ep=(dO bx (bx s).es t).ep/\(eO bx s es t).sz=(dO bx (bx s).es t).sz/\(eO bx s es t).ty=(dO bx (bx s).es t).ty:=fun t=>by
  by_cases ht:t=s
  ·subst ht;simp[eO,ak]
  ·rw[bq t ht];exact⟨rfl,rfl,rfl,rfl⟩
 have hS:az X ρ (eO bx s es) w=az X ρ (dO bx (bx s).es) w:=by
  funext b;simp only[az,(fN _).1,(fN _).2.1]
 have xH:(dO bx (bx s).es s).ep=(bx s).ep/\(dO bx (bx s).es s).k≠3/\(dO bx (bx s).es s).es=(bx s).es:=by
  rw[fe];split
  ·simp[xC,hk]
  ·simp[hk]
 obtain⟨gl,gg⟩:=tT _ _ ho;refine⟨h1.fr,h1.s0,h1.nb,h1.mb,h1.ec,h1.size,by rw[hS];exact h1.marks,h1.pU,h1.rA,fun t=>by rw[hS];exact h1.tmps t,by rw[hS];exact h1.fI,fun t ht=>?_,fun t t' p p' ht oG hn hp bJ=>?_,fun t e p hp=>by rw[(fN t).2.1];exact h1.n9 t e p hp,h1.r0,h1.hold,h1.gy,h1.yc,h1.y0 bF _ _,h1.y0,h1.kf,h1.maps.of (fun t ht=>?_) (fun _ _ _ h=>h) (fun _ _ _ _ _ h=>h) (fun _ h=>h)⟩
 ·rw[(fN t).1]at ht;obtain⟨p,hp,h2,h3,h4,h5⟩:=h1.box t ht;refine⟨p,by rw[(fN t).2.1];exact hp,by rw[(fN t).2.2.1];exact h2,by rw[(fN t).2.2.2];exact h3,by rw[(fN t).1];exact h4,?_⟩;rw[hS];by_cases kH:t=s
  ·subst kH;have e:(eO bx t es t).es=es:=by simp[eO,ak]
   rw[e];obtain⟨q,hq,_,_,_,hh⟩:=h.box t (by rw[hk];decide);rw[xH.1]at hp;rw[hp]at hq;injection hq with hq;subst hq;obtain⟨⟨cur,gj,eU,us,gL⟩,rn,xJ,bP⟩:=hh;refine⟨⟨cur,gj,eU,us,fun i d' j c' hi hj=>?_⟩,by rw[gl];exact rn,xJ,fun i d' hi=>?_⟩
   ·obtain⟨d,hd,JQ⟩:=gg i d' hi;obtain⟨c,hc,NJ⟩:=(C5 JQ).2 j c' hj;obtain⟨u1,u2,u3⟩:=gL i d j c hd hc;refine⟨u1,.pure (nV h c c' _ ⟨hL.1,fun t' oG=>hL.2 t' (E_ _ _ _ hd t' (I4 d j c hc t' oG))⟩ u2 NJ),u3⟩
   ·obtain⟨d,hd,JQ⟩:=gg i d' hi;rw[(C5 JQ).1];exact bP i d hd
  ·rw[bq t kH];exact h5
 ·rw[(fN t).1]at ht;rw[(fN t').1]at oG;rw[(fN t).2.1]at hp;rw[(fN t').2.1]at bJ;exact h1.inj t t' p p' ht oG hn hp bJ
 ·have kH:t≠s:=by
   rintro rfl;rw[(fN t).1]at ht;exact xH.2.1 ht
  rw[bq t kH]at ht⊢;exact⟨ht,rfl,rfl⟩
def KX(h:aA X ρ σ bx a w){lo t:Nat}(bF:X.lo<=lo){s:Env×ae}(hf:uZ lo t σ bx=some s):aA X ρ s.1 s.2 a w:=by
 unfold uZ at hf;split at hf
 ·rename_i hc;rw[mS]at hf;obtain⟨v,ho,rfl⟩:=hf;have hn:∀s∈bH [σ t],X.lo<=s:=fun s hs=>by
   simp only[bH,List.append_nil]at hs;rcases hc.2 with h0|h0
   ·omega
   ·unfold Hu at h0;split at h0
    ·rename_i e;rw[e]at hs;simp only[names,List.mem_singleton]at hs;subst hs;exact Nat.le_trans bF (of_decide_eq_true h0)
    ·rename_i e;rw[e]at hs;simp only[names,List.mem_singleton]at hs;subst hs;exact Nat.le_trans bF (of_decide_eq_true h0)
    ·rename_i e;rw[e]at hs;simp only[names,List.mem_singleton]at hs;subst hs;exact Nat.le_trans bF (of_decide_eq_true h0)
    ·rw[wZ h0]at hs;cases hs
  have h1:=h.JA [σ t] hn;have hL:=sv h [σ t];have e1:dO bx [σ t]=eN bx (σ t):=by simp[dO]
  rw[e1]at h1 hL;simp only[bH,List.append_nil]at hL;have hd:ed≠t:=by have:=hc.1;omega
  refine {h1 with marks:= ?_,tmps:=fun x=>?_}
  ·have:=h1.marks;simpa only[ak,if_neg hd]using this
  ·simp only[ak];split
   ·rename_i hx;subst hx;exact .pure (nV h (σ x) v _ hL (h.tmps x) ho)
   ·exact h1.tmps x
 ·split at hf
  ·rename_i hc;rw[mS]at hf;obtain⟨es,ho,rfl⟩:=hf;exact h.N0 oM hc.2.2 ho
  ·cases hf
theorem Au{lo:Nat}(bF:X.lo<=lo):∀(ts:List Nat) {σ:Env} {bx:ae} {s:Env×ae},aA X ρ σ bx a w->qO lo ts σ bx=some s->aA X ρ s.1 s.2 a w
 |[],σ,bx,s,h,hf=>by simp only[qO,sJ]at hf;subst hf;exact h
 |t::ts,σ,bx,s,h,hf=>by
  simp only[qO,Option.bind_eq_some_iff]at hf;obtain⟨s1,h1,h2⟩:=hf;exact Au bF ts (KX h bF h1) h2
theorem Calls.mono{f:FuncId}{args:Array Value}{R R':Ending->World->Prop}(h:Calls P f args w R)(hr:∀e w',R e w'->R' e w'):Calls P f args w R':=
 fun cs=>let ⟨e,w',fr,r,rest⟩:=h cs;⟨e,w',fr,hr _ _ r,rest⟩
def DC(P:Program)(f:FuncId)(vs:Array Value)(w:World)(G:Value->World->Prop):Prop:=
 ((callFunc f vs).run P w= .ok (.enter f vs) w/\Calls P f vs w (fun e w'=>∃v,e= .returned v/\G v w'))\/
 (∃v w',(callFunc f vs).run P w= .ok (.value v) w'/\G v w')
def pe(v:Value):PanicEntry:={v,recovered:=false}
def oV(P:Program)(f:FuncId)(vs:Array Value)(w:World)(G Gp:Value->World->Prop):Prop:=
 ((callFunc f vs).run P w= .ok (.enter f vs) w/\Calls P f vs w (fun e w'=>(∃v,e= .returned v/\G v w')\/∃v,e= .panicked [pe v]/\Gp v w'))\/
 (∃v w',(callFunc f vs).run P w= .ok (.value v) w'/\G v w')
theorem DC.fy{f:FuncId}{vs:Array Value}{G Gp:Value->World->Prop}(h:DC P f vs w G):oV P f vs w G Gp:=by
 rcases h with⟨h1,h2⟩|h
 ·exact .inl ⟨h1,Calls.mono h2 fun e w' h=> .inl h⟩
 ·exact .inr h
theorem oV.mono{f:FuncId}{vs:Array Value}{G Gp G' Gp':Value->World->Prop}(h:oV P f vs w G Gp)(h1:∀v w',G v w'->G' v w')(h2:∀v w',Gp v w'->Gp' v w'):oV P f vs w G' Gp':=by
 rcases h with⟨k1,k2⟩|⟨v,w',k1,k2⟩
 ·refine .inl ⟨k1,Calls.mono k2 fun e w' h=>?_⟩;rcases h with⟨v,he,hg⟩|⟨v,he,hg⟩
  ·exact .inl ⟨v,he,h1 _ _ hg⟩
  ·exact .inr ⟨v,he,h2 _ _ hg⟩
 ·exact .inr ⟨v,w',k1,h1 _ _ k2⟩
theorem ao.carried{f:FuncId}{ds:List D}{d:D}(h:ao P f ds d){S:Nat->Prop}{vs:Array Value}{G:Value->World->Prop}(hS:∀b,S b->b<w.heap.size)(hg:br w S .fI undef)(hl:vs.size=ds.length)
 (hv:∀(i:Nat) x v,ds[i]? =some x->vs[i]? =some v->br w S x v) (hG:∀v w',cB w S d v w'->G v w'):DC P f vs w G:=by
 rcases h w S vs hS hg hl hv with⟨h1,h2⟩|⟨v,w',h1,h2⟩
 ·exact .inl ⟨h1,Calls.mono h2 fun e w' ⟨v,he,hp⟩=>⟨v,he,hG v w' hp⟩⟩
 ·exact .inr ⟨v,w',h1,hG v w' h2⟩
def bj(P:Program)(f:FuncId)(base:Nat)(ds:List D)(bx:ae)(Q Qp:D->ae->Prop):Prop:=
 ∀(X:Ctx) (ρ:cM) (σ:Env) (a:Act) (w:World) (vs:Array Value),aA X ρ σ bx a w->X.lo=0->vs.size=ds.length->(∀(i:Nat) x v,ds[i]? =some x->vs[i]? =some v->aH w (az X ρ bx w) ρ x v)->
  oV P f vs w (fun v w'=>∃d bx' ρ',Q d bx'/\aA X ρ' σ bx' a w'/\aH w' (az X ρ' bx' w') ρ' d v) (fun v w'=>∃d bx' ρ',Qp d bx'/\aA X ρ' σ bx' a w'/\aH w' (az X ρ' bx' w') ρ' d v)
def DE(P:Program)(X:Ctx)(l:Nat)(rc:Loop)(base ext:Nat)(items:List (List D))(J:Nat->ae->Prop)(Jx:Code->ae->Prop)(σ:Env)(a:Act):Prop:=
 ∀(n:Nat) (it:List D) (ρ:cM) (bx:ae) (w:World) (us:Array Value),items[n]? =some it->aA X ρ σ bx a w->ρ.hold l=some (.loop rc)->J n (bU base bx)->us.size=it.length->
  (∀(i:Nat) x v,it[i]? =some x->us[i]? =some v->br w (az X ρ bx w) x v)->
  ∃f tm as bd,(Instr.yield l us).run P w= .ok (.round l f tm as bd) w/\∀m,RoundIn Fence.wide m P l f tm as bd w fun e w2=>∃ρ2 bK b,e= .returned (.bool b)/\(∀s,base<=s->s<base+ext->bK s=bx s)/\
   (∀(X1:Ctx) (σ1:Env) (a1:Act),X1.S0=X.S0->X1.n0=X.n0->X1.E l->aA X1 ρ σ1 bx a1 w->X1.Y (bU X1.lo bK) ρ2.hold->aA X1 ρ2 σ1 bK a1 w2)/\
   (∀k o,k≠l->ρ.hold k=some o->Obj.E1 o=false->ρ2.hold k=some o)/\
   ((b=true/\ρ2.hold l=some (.loop rc)/\J (n+1) (bU base bK))\/(b=false/\∃jump,ρ2.hold l=some (.loop {rc with state:=.done,pending:=some jump})/\Jx jump (bU base bK)))
def xW(P:Program)(f:FuncId)(caps:List D)(items:List (List D))(ext:Nat):Prop:=
 ∀(X:Ctx) (ρ:cM) (σ:Env) (bx:ae) (a:Act) (w:World) (l base:Nat) (rc:Loop) (vs:Array Value) (J:Nat->ae->Prop) (Jx:Code->ae->Prop),aA X ρ σ bx a w->X.lo=0->ρ.hold l=some (.loop rc)->(X.w0.heap.size<=l)->X.r0.hold l=none->
  vs.size=caps.length->(∀(i:Nat) x v,caps[i]? =some x->vs[i]? =some v->br w (az X ρ bx w) x v)->J 0 (bU base bx)->DE P X l rc base ext items J Jx σ a->
  (callFunc f (#[.func (.yield l) #[] #[]]++vs)).run P w= .ok (.enter f (#[.func (.yield l) #[] #[]]++vs)) w/\
  Calls P f (#[.func (.yield l) #[] #[]]++vs) w fun e w'=>∃v ρ' bx',e= .returned v/\aA X ρ' σ bx' a w'/\
   ((ρ'.hold l=some (.loop rc)/\J items.length (bU base bx'))\/∃jump,ρ'.hold l=some (.loop {rc with state:=.done,pending:=some jump})/\Jx jump (bU base bx'))
def zI(P:Program)(f:FuncId)(b:Bx)(items:List (List D))(pd:Option D)(ext:Nat):Prop:=
 ∀(X:Ctx) (ρ:cM) (σ:Env) (bx:ae) (a:Act) (w:World) (l base e:Nat) (rc:Loop) (u:Value) (J:Nat->ae->Prop) (Jx:Code->ae->Prop),aA X ρ σ bx a w->X.lo=0->ρ.hold l=some (.loop rc)->(X.w0.heap.size<=l)->X.r0.hold l=none->
  bx (base+1)=⟨e,1,b.sz,b.ty,b.es⟩->aH w (az X ρ bx w) ρ (.loc (base+1) e 0 0) u->J 0 (bU base bx)->DE P X l rc base ext items J Jx σ a->
  (callFunc f #[.func (.yield l) #[] #[],u]).run P w= .ok (.enter f #[.func (.yield l) #[] #[],u]) w/\
  Calls P f #[.func (.yield l) #[] #[],u] w fun e w'=>(∃v ρ' bx',e= .returned v/\aA X ρ' σ bx' a w'/\
   ((pd=none/\ρ'.hold l=some (.loop rc)/\J items.length (bU base bx'))\/∃jump,ρ'.hold l=some (.loop {rc with state:=.done,pending:=some jump})/\Jx jump (bU base bx')))\/
   ∃d v ρ' bx',pd=some d/\e= .panicked [pe v]/\aA X ρ' σ bx' a w'/\aH w' (az X ρ' bx' w') ρ' d v/\J items.length (bU base bx')
structure Ok(P:Program)(O:gN):Prop where
 to:∀f ds d,O.to f ds d->ao P f ds d
 ud:∀f base ds bx Q Qp,O.ud f base ds bx Q Qp->bj P f base ds bx Q Qp
 it:∀f caps items ext,O.it f caps items ext->xW P f caps items ext
 AL:∀f b items pd ext,O.AL f b items pd ext->zI P f b items pd ext
def YOk(P:Program)(C:Calc)(X:Ctx):Prop:=∀items gs l,C.yl=some (items,gs,l)->∀(ρ:cM) (σ:Env) (bx:ae) (a:Act) (w:World) (us:Array Value) (ds:List D),aA X ρ σ bx a w->items[(bx gs).sz]? =some ds->us.size=ds.length->
 (∀(i:Nat) x v,ds[i]? =some x->us[i]? =some v->br w (az X ρ bx w) x v)->
  ∃f tm as bd,(Instr.yield l us).run P w= .ok (.round l f tm as bd) w/\∀m,RoundIn Fence.wide m P l f tm as bd w fun e w2=>∃ρ2 bx1 b,e= .returned (.bool b)/\
   aA X ρ2 σ (ak (qE C.lo C.bk bx bx1) gs {bx gs with sz:=if b then(bx gs).sz+1 else items.length+1}) a w2
structure Good(P:Program)(C:Calc)(X:Ctx):Prop where
 ok:Ok P C.o
 lo:X.lo<=C.lo
 base:X.lo<=C.base
 yok:YOk P C X
 df:C.df=true->X.md=2
 it:X.md=3->∀f c i e,¬C.o.it f c i e
 AL:X.md=3->∀f b i d e,¬C.o.AL f b i d e
def uY(h:aA X ρ σ bx a w)(hG:Good P C X){f:FuncId}{ds:List D}{vs:Array Value}(hl:vs.size=ds.length)
 (hv:∀(i:Nat) x v,ds[i]? =some x->vs[i]? =some v->aH w (az X ρ bx w) ρ x v) {K:Cl->D->ae->Prop} (hc:fz C f ds bx K):
 oV P f vs w (fun v w'=>∃c d bx' ρ',(∀x,c≠ .cU x)/\K c d bx'/\aA X ρ' σ bx' a w'/\aH w' (az X ρ' bx' w') ρ' d v) (fun v w'=>∃d bx' ρ',K (.cU d) .undef bx'/\aA X ρ' σ bx' a w'/\aH w' (az X ρ' bx' w') ρ' d v):=by
 have hC:=hG.ok.to;rcases hc with⟨d,hp,jO,hK⟩|⟨ds',d,ho,jO,hb,hK⟩|⟨ds',d,bF,ho,jO,hK⟩|⟨Q,Qp,bF,jO,hK,hKp⟩
 ·exact((hC f ds d jO).carried (S:=az X ρ bx w) (fun b hb=>hb.1) (h.fI.fy rfl) hl (fun i x v hx aT=>(hv i x v hx aT).fy (uI _ hp i x hx)) fun v w' hp=>⟨.n,d,bx,ρ,(by intro x;simp),hK,h.Vi hp⟩).fy
 ·have hL:zL X ρ bx w (fun b=>b<w.heap.size) (bH ds):=⟨fun b hb=>hb.1,fun t _ hk p hp=>by
   obtain⟨p',bJ,_,_,_,hh⟩:=h.box t hk;rw[hp]at bJ;injection bJ with bJ;subst bJ;exact hh.lt⟩
  obtain⟨g1,g2⟩:=kL h ds ds' vs.toList hL (by simpa using hl) (fun i x v hx aT=>hv i x v hx (by simpa using aT)) ho;exact((hC f ds' d jO).carried (S:=fun b=>b<w.heap.size) (fun b hb=>hb) ((h.fI.fy rfl).mono (fun _ _=>rfl) (fun b hb=>hb.1)) (hl.trans g1.symm) (fun i x v hx aT=>g2 i x v hx (by simpa using aT)) fun v w' hp=>⟨.ra,d,bx,ρ,(by intro x;simp),hK,h.ext hp.2,.pure (hp.1.bare hb)⟩).fy
 ·have hL:=sv h ds;obtain⟨g1,g2⟩:=kL h ds ds' vs.toList hL (by simpa using hl) (fun i x v hx aT=>hv i x v hx (by simpa using aT)) ho;exact((hC f ds' d jO).carried (S:=az X ρ (dO bx ds) w) (fun b hb=>hb.1) ((h.frozen (by have:=hG.lo;omega) ds).fI.fy rfl) (hl.trans g1.symm) (fun i x v hx aT=>g2 i x v hx (by simpa using aT)) fun v w' hp=>⟨.wa,d,dO bx ds,ρ,(by intro x;simp),hK,(h.frozen (by have:=hG.lo;omega) ds).Vi hp⟩).fy
 ·refine(hG.ok.ud _ _ _ _ _ _ jO X ρ σ a w vs h (by have:=hG.lo;omega) hl hv).mono ?_ ?_
  ·rintro v w' ⟨d,bx',ρ',g1,g2⟩;rcases hK d bx' g1 with hk|⟨r,r',e1,e2,hk⟩
   ·exact⟨.wa,d,bx',ρ',(by intro x;simp),hk,g2⟩
   ·obtain⟨g2,g3⟩:=g2;have ho:dn bx' [d]=some [r]:=by simp[dn,e1,lU]
    obtain⟨_,g5⟩:=kL g2 [d] [r] [v] (sv g2 [d]) rfl (fun i x u hx hu=>by
     rcases i with _|i
     ·simp at hx hu;subst hx;subst hu;exact g3
     ·simp at hx) ho
    exact⟨.wa,r',dO bx' [d],ρ',(by intro x;simp),hk,g2.frozen (by have:=hG.lo;omega) [d],.pure (aH.ve e2 (g5 0 r v rfl rfl))⟩
  ·rintro v w' ⟨d,bx',ρ',g1,g2⟩;exact⟨d,bx',ρ',hKp d bx' g1,g2⟩
end Go.V
