/- Plain laws: VB. -/
import Derived.Test.YtkgloohlmogakaaGreatDoorVA
import Derived.Laws.BytesArg
import Derived.Maps.AppendAt
import Derived.Deep.AppendSrc
import Derived.Lib.AppendZerosOnto
import Derived.Laws.CopyRow
import Derived.Laws.IdiomCopy
set_option linter.all false
set_option maxHeartbeats 8000000
namespace Go.V
open Go.RowKit
variable {P:Program} {X:Ctx} {ρ:cQ} {σ:Env} {bx:ae} {a:Act} {w:World}
variable {dst:Option Tmp} {ty:TypeId} {pos:String} {af:Array Edge} {g:Option (Nat×Bool)}
theorem GX:∀(vs:List Value) (k off:Nat) (cs:Array Value),(((vs.zipIdx k).foldl (fun(cs:Array Value) (x:Value×Nat)=>cs.setIfInBounds (off+x.2) x.1) cs).size=cs.size)/\
 ∀i,((vs.zipIdx k).foldl (fun(cs:Array Value) (x:Value×Nat)=>cs.setIfInBounds (off+x.2) x.1) cs)[i]? =if off+k<=i/\i<off+k+vs.length/\i<cs.size then vs[i - (off+k)]? else cs[i]?
 |[],k,off,cs=>by
  refine⟨rfl,fun i=>?_⟩;simp only[List.zipIdx_nil,List.foldl_nil,List.length_nil,Nat.add_zero];rw[if_neg oM]
 |v::vs,k,off,cs=>by
  obtain⟨h1,h2⟩:=GX vs (k+1) off (cs.setIfInBounds (off+k) v);simp only[List.zipIdx_cons,List.foldl_cons];refine⟨by rw[h1];simp,fun i=>?_⟩;rw[h2];simp only[Array.size_setIfInBounds,List.length_cons];by_cases hi:i=off+k
  ·subst hi;rw[if_neg oM];by_cases hs:off+k<cs.size
   ·rw[if_pos oM];simp[hs]
   ·rw[if_neg oM];simp[hs]
  ·rw[Array.getElem?_setIfInBounds_ne (Ne.symm hi)];by_cases hc:off+(k+1)<=i/\i<off+(k+1)+vs.length/\i<cs.size
   ·rw[if_pos hc,if_pos oM];have:i - (off+k)=(i - (off+(k+1)))+1:=oM;rw[this,List.getElem?_cons_succ]
   ·rw[if_neg hc,if_neg oM]
def Bg(w:World)(S:Nat->Prop)(ρ:cQ)(cs:List D)(vs:Array Value):Prop:=vs.size=cs.length/\∀(i:Nat) c u,cs[i]? =some c->vs[i]? =some u->aJ w S ρ c u
def P_{S:Nat->Prop}{cs:List D}{vs:Array Value}{d:D}{v:Value}{off:Nat}(h:Bg w S ρ cs vs)(hd:aJ w S ρ d v)(h1:d.cells.all D.one=true)(hl:off+d.cells.length<=cs.length):
 v.cells.size=d.cells.length/\Bg w S ρ (cs.take off++d.cells++cs.drop (off+d.cells.length)) (v.cells.zipIdx.foldl (fun(cs:Array Value) (x:Value×Nat)=>cs.setIfInBounds (off+x.2) x.1) vs):=by
 obtain⟨hs,hc⟩:=hd.cells h1;refine⟨hs,?_⟩;have e:v.cells.zipIdx.foldl (fun(cs:Array Value) (x:Value×Nat)=>cs.setIfInBounds (off+x.2) x.1) vs=(v.cells.toList.zipIdx 0).foldl (fun(cs:Array Value) (x:Value×Nat)=>cs.setIfInBounds (off+x.2) x.1) vs:=by rw[<-Array.foldl_toList,Array.toList_zipIdx]
 rw[e];obtain⟨f1,f2⟩:=GX v.cells.toList 0 off vs;refine⟨by rw[f1,h.1];simp;omega,fun i c u hi hu=>?_⟩;rw[f2]at hu;simp only[Nat.add_zero,Array.length_toList,aG]at hu;by_cases ho:i<off
 ·rw[if_neg oM]at hu;rw[List.append_assoc,List.getElem?_append_left (by simp;omega),List.getElem?_take_of_lt ho]at hi;exact h.2 i c u hi hu
 ·by_cases hm:i<off+d.cells.length
  ·have hv:i<vs.size:=by rw[h.1];omega
   rw[if_pos oM]at hu;have kO:(cs.take off).length=off:=by simp;omega
   rw[List.append_assoc,List.getElem?_append_right oM,kO,List.getElem?_append_left oM]at hi;obtain⟨u',gu,hr,_⟩:=hc _ _ hi;rw[gu]at hu;injection hu with hu;subst hu;exact hr
  ·rw[if_neg oM]at hu;have kO:(cs.take off++d.cells).length=off+d.cells.length:=by simp;omega
   rw[List.getElem?_append_right oM,kO,List.getElem?_drop]at hi;have:off+d.cells.length+(i - (off+d.cells.length))=i:=oM;rw[this]at hi;exact h.2 i c u hi hu
theorem sN{S:Nat->Prop}{fs:List (Nat×Nat×Bool)}{places:Nat->Option (Nat×Nat)}(mT:∀(i:Nat) x,fs[i]? =some x->places i=some (x.1,x.2.1)):∀(ps:List (Nat×D)) (Bd:List (Nat×Value)) (cs r:List D) (vs:Array Value),
 jh fs cs ps=some r->ps.length=Bd.length->(∀(i:Nat) p q,ps[i]? =some p->Bd[i]? =some q->p.1=q.1/\aJ w S ρ p.2 q.2)->Bg w S ρ cs vs->
 ∃fi,Instr.fill places vs Bd=some fi/\Bg w S ρ r fi
 |[],Bd,cs,r,vs,hb,hl,_,h=>by
  cases Bd with
  |nil=>simp only[jh,sJ]at hb;subst hb;exact⟨vs,rfl,h⟩
  |cons q Bd=>simp at hl
 |(i,d)::ps,Bd,cs,r,vs,hb,hl,hr,h=>by
  cases Bd with
  |nil=>simp at hl
  |cons q Bd=>
  obtain⟨j,v⟩:=q;obtain⟨pD,hd⟩:=hr 0 _ _ rfl rfl;simp only at pD hd;subst pD;simp only[jh]at hb;cases hf:fs[i]? with
  |none=>simp[hf]at hb
  |some f=>
   obtain⟨off,sz,gg⟩:=f;simp only[hf]at hb;split at hb
   ·rename_i hc;obtain⟨h1,h2,h3⟩:=hc;rw[<-h1]at hb h2;obtain⟨g1,g2⟩:=P_ h hd h3 h2;obtain⟨fi,k1,k2⟩:=sN mT ps Bd _ r _ hb (by simpa using hl) (fun i p q hp hq=>hr (i+1) p q (by simpa using hp) (by simpa using hq)) g2;refine⟨fi,?_,k2⟩;have hle:¬(v.cells.size≠sz\/off+v.cells.size>vs.size):=by rw[h.1];omega
    simp only[Instr.fill,mT i _ hf];rw[if_neg (by simpa using hle)];exact k1
   ·cases hb
theorem run_places:∀(L:List Field),(∀f∈L,0<cK P f.type)->(L.mapM fun f=>(do pure (f.offset,<-sizeOf f.type):Sem (Nat×Nat))).run P w= .ok (L.map fun f=>(f.offset,cK P f.type)) w
 |[],_=>by simp
 |f::L,h=>by
  have ih:=run_places L (fun f hf=>h f (List.mem_cons_of_mem _ hf));simp only[List.mapM_cons,Sem.run_bind,dh (h f (List.mem_cons_self ..)),Result.andThen_ok,Sem.run_pure,ih,mC]
def Li{t:TypeId}(h:sn (an P t) (zeroV P t)=true):(an P t).size=0/\P.underlying t=some (.struct #[])/\∃i z,P.info? t=some i/\i.zero=some z/\x_ z= .agg []/\i.size=0:=by
 unfold sn at h;split at h
 ·rename_i q hk hz;obtain⟨F,hu,xV,_⟩:=pQ hk;have hF:F= #[]:=by apply Array.toList_inj.1;simpa using xV
  have h0:(an P t).size=0:=by simpa using h
  refine⟨h0,by rw[hu,hF],?_⟩;unfold zeroV at hz;cases hi:P.info? t with
  |none=>simp[hi]at hz
  |some i=>
   cases h1:i.zero with
   |none=>simp[hi,h1]at hz
   |some z=>
    simp only[hi,h1,Option.bind_some,Option.map_some,sJ]at hz;refine⟨i,z,rfl,h1,hz,?_⟩;simpa[an,cK,hu,hi]using h0
 ·cases h
def OA{z:Value}(h:x_ z= .agg []):z.cells= #[]:=by
 have:=En (w:=default) (S:=fun _=>False) z;rw[h]at this;cases this with
 |agg hl _=>exact Array.eq_empty_of_size_eq_zero hl
def Gw(h:aA X ρ σ bx a w){t:TypeId}{ps:Array (Nat×Operand)}{d:D}(hv:mi (an P t) (ps.toList.map fun p=>(p.1,ev σ p.2))=some d):Yields P X ρ bx a w ⟨dst,.build t ps,ty,pos,af,g⟩ d:=by
 unfold mi at hv;split at hv
 ·rename_i fs eq hk;split at hv
  ·rename_i hz;obtain⟨F,hu,xV,_⟩:=pQ hk;subst xV;rw[mS]at hv;obtain⟨r,hb,rfl⟩:=hv;have hzero:∃z,(zeroValue t).run P w= .ok z w/\(an P t).zero=z.cells.toList.map A5:=by
    have h2:(an P t).zero.length≠0:=oM;simp only[an]at h2⊢;cases hi:P.info? t with
    |none=>simp[hi]at h2
    |some i=>
     cases hz:i.zero with
     |none=>simp[hi,hz]at h2
     |some z=>exact⟨z,by simp[zeroValue,typeInfo,hi,hz,go_sem],by simp[hz]⟩
   obtain⟨z,pH,qG⟩:=hzero;have eM:∀f∈F.toList,0<cK P f.type:=by
    intro f hf;have:=List.all_eq_true.1 hz.2.2 _ (List.mem_map.2 ⟨f,hf,rfl⟩);simpa using this
   have bQ:(F.mapM fun f=>(do pure (f.offset,<-sizeOf f.type):Sem (Nat×Nat))).run P w= .ok (F.map fun f=>(f.offset,cK P f.type)) w:=by
    rw[Array.mapM_eq_mapM_toList,Sem.run_map,run_places F.toList eM,Result.andThen_ok]
    congr 1
    apply Array.toList_inj.1;simp
   obtain⟨fi,k1,k2⟩:=sN (S:=az X ρ bx w) (ρ:=ρ) (w:=w) (places:=fun i=>(F.map fun f=>(f.offset,cK P f.type))[i]?) (fun i x hx=>by
    simp only[gM,aG,mS]at hx;obtain⟨f,hf,rfl⟩:=hx;simp[hf]) _
    (ps.toList.map fun p=>(p.1,a.eval p.2)) _ _ z.cells hb sI (fun i p q hp hq=>by
     simp only[gM,mS]at hp hq;obtain⟨y,hy,rfl⟩:=hp;obtain⟨y',oB,rfl⟩:=hq;rw[hy]at oB;injection oB with oB;subst oB;exact⟨rfl,h.ev _⟩) ⟨by rw[qG];simp,fun i c u hc hu=>by
      rw[qG,gM,aG,hu]at hc;simp only[Option.map_some,sJ]at hc;subst hc;exact .pure (mH u)⟩
   refine aR (.agg fi) ?_ (.agg k2.1 k2.2);have vX:(ps.map fun(x:Nat×Operand)=>(x.1,a.eval x.2)).toList=ps.toList.map fun p=>(p.1,a.eval p.2):=by simp
   simp only[execOp,Instr.build,Sem.run_bind,Sem.run_pure,Result.andThen_ok,run_underlying hu,pH,bQ,vX,k1]
  ·cases hv
 ·rename_i n esz ag hk;split at hv
  ·rename_i hz;obtain⟨e,hu,gq,_⟩:=wy hk;rw[mS]at hv;obtain⟨r,hb,rfl⟩:=hv;have hzero:∃z,(zeroValue t).run P w= .ok z w/\(an P t).zero=z.cells.toList.map A5:=by
    have h2:(an P t).zero.length≠0:=oM;simp only[an]at h2⊢;cases hi:P.info? t with
    |none=>simp[hi]at h2
    |some i=>
     cases hz:i.zero with
     |none=>simp[hi,hz]at h2
     |some z=>exact⟨z,by simp[zeroValue,typeInfo,hi,hz,go_sem],by simp[hz]⟩
   obtain⟨z,pH,qG⟩:=hzero;obtain⟨fi,k1,k2⟩:=sN (S:=az X ρ bx w) (ρ:=ρ) (w:=w) (places:=fun i=>some (i * esz,esz)) (fun i x hx=>by
    simp only[gM,mS]at hx;obtain⟨y,hy,rfl⟩:=hx;have:=(gS.1 hy).2;simp at this;subst this;rfl) _
    (ps.toList.map fun p=>(p.1,a.eval p.2)) _ _ z.cells hb sI (fun i p q hp hq=>by
     simp only[gM,mS]at hp hq;obtain⟨y,hy,rfl⟩:=hp;obtain⟨y',oB,rfl⟩:=hq;rw[hy]at oB;injection oB with oB;subst oB;exact⟨rfl,h.ev _⟩) ⟨by rw[qG];simp,fun i c u hc hu=>by
      rw[qG,gM,aG,hu]at hc;simp only[Option.map_some,sJ]at hc;subst hc;exact .pure (mH u)⟩
   refine aR (.agg fi) ?_ (.agg k2.1 k2.2);have vX:(ps.map fun(x:Nat×Operand)=>(x.1,a.eval x.2)).toList=ps.toList.map fun p=>(p.1,a.eval p.2):=by simp
   simp only[execOp,Instr.build,Sem.run_bind,Sem.run_pure,Result.andThen_ok,run_underlying hu,pH,dh (gq▸hz.2.2),<-gq,vX,k1]
  ·cases hv
 ·cases hv
theorem AG{fs:List (Nat×Nat×Bool)}{esz:Nat}{ag:Bool}:∀(ps:List (Nat×D)) (k:Nat) (done:List D),done.length=k * esz->ps.map (·.1)=List.range' k ps.length->ps.all (fun p=>p.2.cells.length==esz&&p.2.cells.all D.one)=true->
 (∀i,i<k+ps.length->fs[i]? =some (i * esz,esz,ag))->jh fs (done++List.replicate (ps.length * esz) .undef) ps=some (done++(ps.map (·.2)).flatMap D.cells)
 |[],k,done,_,_,_,_=>by simp[jh]
 |(i,d)::ps,k,done,hd,hm,ha,hf=>by
  simp only[mC,List.length_cons,List.range'_succ,List.cons.injEq]at hm;obtain⟨rfl,hm⟩:=hm;simp only[List.all_cons,bA,beq_iff_eq]at ha;obtain⟨⟨h1,h2⟩,h3⟩:=ha;simp only[jh,hf i sI];have hlen:(done++List.replicate (((i,d)::ps).length * esz) D.undef).length=i * esz+(ps.length+1) * esz:=by simp[hd]
  rw[if_pos ⟨h1,by rw[hlen,Nat.add_mul];omega,h2⟩];have e1:(done++List.replicate (((i,d)::ps).length * esz) D.undef).take (i * esz)=done:=by rw[<-hd];exact List.take_left
  have e2:(done++List.replicate (((i,d)::ps).length * esz) D.undef).drop (i * esz+esz)=List.replicate (ps.length * esz) D.undef:=by
   rw[<-hd,<-List.drop_drop,List.drop_left,List.drop_replicate]
   congr 1
   simp only[List.length_cons,Nat.add_mul];omega
  rw[e1,e2,AG ps (i+1) (done++d.cells) (by simp[hd,h1,Nat.add_mul]) hm h3 (fun j hj=>hf j (by simp;omega))];simp
theorem GU{sz:Nat}:∀(ds:List D),(∀x∈ds,x.cells.length=sz)->(ds.flatMap D.cells).length=ds.length * sz
 |[],_=>by simp
 |x::ds,h=>by
  rw[List.flatMap_cons,List.length_append,h x (List.mem_cons_self ..),GU ds (fun y hy=>h y (List.mem_cons_of_mem _ hy)),List.length_cons,Nat.add_mul];omega
theorem Bs{sz:Nat}:∀(ds:List D) (i j:Nat) (d:D),(∀x∈ds,x.cells.length=sz)->ds[i]? =some d->j<sz->(ds.flatMap D.cells)[i * sz+j]? =d.cells[j]?
 |[],i,j,d,_,hd,_=>by simp at hd
 |x::ds,i,j,d,hs,hd,hj=>by
  have hx:=hs x (List.mem_cons_self ..);simp only[List.flatMap_cons];cases i with
  |zero=>
   simp at hd;subst hd;rw[Nat.zero_mul,Nat.zero_add,List.getElem?_append_left oM]
  |succ i=>
   rw[Nat.add_mul,List.getElem?_append_right oM,hx];have:i * sz+1 * sz+j - sz=i * sz+j:=oM;rw[this];exact Bs ds i j d (fun y hy=>hs y (List.mem_cons_of_mem _ hy)) (by simpa using hd) hj
theorem aA.fresh(h:aA X ρ σ bx a w)(o:Obj):az X ρ bx (w.alloc o) w.heap.size:=by
 refine⟨by simp,.inr (Nat.le_trans h.nb h.fr.size),fun t hk p hp=>?_⟩;obtain⟨p',bL,_,_,_,hh⟩:=h.box t (by rw[hk];decide);rw[hp]at bL;injection bL with bL;subst bL;have:=hh.lt;omega
def Kw(h:aA X ρ σ bx a w){t e:TypeId}{n esz:Nat}{ag:Bool}{ps:Array (Nat×Operand)}{nc:List (Nat×D)}(hu:P.underlying t=some (.slice e))(gq:esz=cK P e)(J6:(ps.toList.map fun p=>(p.1,ev σ p.2))=nc)(hm:nc.map (·.1)=List.range n)
 (ha:nc.all (fun p=>p.2.cells.length==esz&&p.2.cells.all D.one)=true) (eM:0<esz) (wX:n * esz<=65536) (lO:(an P e).zero.length=esz):
 ∃fi,(Instr.buildSlice t n (ps.map fun(x:Nat×Operand)=>(x.1,a.eval x.2))).run P w= .ok (.slice (some ⟨w.heap.size,0,none⟩) n n) (w.alloc (.cells fi e))/\Bg w (az X ρ bx w) ρ ((nc.map (·.2)).flatMap D.cells) fi:=by
 have hlen:nc.length=n:=by have:=congrArg List.length hm;simpa using this
 have hzero:∃z,(zeroValue e).run P w= .ok z w/\z.cells.size=esz:=by
  have h2:(an P e).zero.length≠0:=oM;simp only[an]at h2 lO;cases hi:P.info? e with
  |none=>simp[hi]at h2
  |some i=>
   cases hz:i.zero with
   |none=>simp[hi,hz]at h2
   |some z=>exact⟨z,by simp[zeroValue,typeInfo,hi,hz,go_sem],by simpa[hi,hz]using lO⟩
 obtain⟨z,pH,qG⟩:=hzero;have Sa:=AG (fs:=(List.range n).map fun i=>(i * esz,esz,ag)) (esz:=esz) (ag:=ag) nc 0 [] sI (by rw[hm,List.range_eq_range',hlen]) ha (fun i hi=>by
  have hi:i<n:=oM;simp[List.getElem?_range hi])
 simp only[List.nil_append,hlen]at Sa;have go:∀zc:Array Value,(n * esz=0\/zc=z.cells)->∃fi,Instr.fill (fun i=>some (i * esz,esz)) ((Array.range (n * esz)).map (zc[· % zc.size]!)) (ps.toList.map fun p=>(p.1,a.eval p.2))=some fi/\Bg w (az X ρ bx w) ρ ((nc.map (·.2)).flatMap D.cells) fi:=by
  intro zc _;refine sN (S:=az X ρ bx w) (ρ:=ρ) (w:=w) (places:=fun i=>some (i * esz,esz)) (fun i x hx=>?_) _ _ _ _ ((Array.range (n * esz)).map (zc[· % zc.size]!)) Sa (by rw[<-J6];simp) (fun i p q hp hq=>?_) ⟨by simp,fun i c u hc _=>?_⟩
  ·simp only[gM,mS]at hx;obtain⟨y,hy,rfl⟩:=hx;have:=(gS.1 hy).2;simp at this;subst this;rfl
  ·rw[<-J6]at hp;simp only[gM,mS]at hp hq;obtain⟨y,hy,rfl⟩:=hp;obtain⟨y',oB,rfl⟩:=hq;rw[hy]at oB;injection oB with oB;subst oB;exact⟨rfl,h.ev _⟩
  ·have:=mG hc;have:=List.eq_of_mem_replicate this;subst this;exact .pure (.undef u)
 have main:∃fi,(Instr.buildSlice t n (ps.map fun(x:Nat×Operand)=>(x.1,a.eval x.2))).run P w= .ok (.slice (some ⟨w.heap.size,0,none⟩) n n) (w.alloc (.cells fi e))/\Bg w (az X ρ bx w) ρ ((nc.map (·.2)).flatMap D.cells) fi:=by
  have vX:(ps.map fun(x:Nat×Operand)=>(x.1,a.eval x.2)).toList=ps.toList.map fun p=>(p.1,a.eval p.2):=by simp
  have yX:¬n * cK P e>2 ^ 24:=by rw[<-gq];omega
  by_cases tU:n * esz=0
  ·obtain⟨fi,k1,k2⟩:=go #[] (.inl tU);refine⟨fi,?_,k2⟩;rw[tU]at k1;have aeU:¬0>2 ^ 24:=oM;simp only[Instr.buildSlice,Sem.run_bind,run_underlying hu,Result.andThen_ok,dh (gq▸eM),<-gq,tU,aeU,if_false,if_true,Sem.run_pure,vX,k1,newRow,newObj,Sem.run,World.alloc]
  ·obtain⟨fi,k1,k2⟩:=go z.cells (.inr rfl);refine⟨fi,?_,k2⟩;rw[<-gq]at yX;simp only[Instr.buildSlice,Sem.run_bind,run_underlying hu,Result.andThen_ok,dh (gq▸eM),<-gq,yX,if_false,tU,Sem.run_pure,vX,pH,k1,newRow,newObj,Sem.run,World.alloc]
 exact main
def Bl(h:aA X ρ σ bx a w){t:TypeId}{n:Nat}{ps:Array (Nat×Operand)}{d:D}(hv:mB (an P) (an P t) n (ps.toList.map fun p=>(p.1,ev σ p.2))=some d):Yields P X ρ bx a w ⟨dst,.buildSlice t n ps,ty,pos,af,g⟩ d:=by
 unfold mB at hv;split at hv
 ·rename_i e esz b ag hk;split at hv
  ·rename_i hc;obtain⟨hm,ha,eM,wX,lO⟩:=hc;injection hv with hv;subst hv;obtain⟨hu,gq,_,_⟩:=dt hk;generalize J6:(ps.toList.map fun p=>(p.1,ev σ p.2))=nc at hm ha;have hlen:nc.length=n:=by have:=congrArg List.length hm;simpa using this
   have ha':nc.all (fun p=>p.2.cells.length==esz&&p.2.cells.all D.one)=true:=by
    rw[List.all_eq_true]at ha⊢;intro p hp;have:=ha p hp;simp only[bA]at this⊢;exact this.1
   obtain⟨fi,bQ,fw⟩:=Kw (ag:=ag) h hu gq J6 hm ha' eM wX lO;have hb:=(Below.refl w.heap.size w).alloc (Nat.le_refl _) (.cells fi e);have er:∀x∈nc.map (·.2),x.cells.length=esz/\x.cells.all D.one=true/\x.pure=true:=by
    intro x hx;obtain⟨p,hp,rfl⟩:=List.mem_map.1 hx;have:=List.all_eq_true.1 ha p hp;simp only[bA,beq_iff_eq]at this;exact⟨this.1.1,this.1.2,this.2⟩
   have jx:∀(i:Nat) d (j:Nat) c,(nc.map (·.2))[i]? =some d->d.cells[j]? =some c->∃u,fi[i * esz+j]? =some u/\aJ w (az X ρ bx w) ρ c u:=by
    intro i d j c hi hj;have hd:=er d (mG hi);have pE:j<esz:=by have:=(gS.1 hj).1;omega
    have hf:=Bs (sz:=esz) (nc.map (·.2)) i j d (fun x hx=>(er x hx).1) hi pE;rw[hj]at hf;have ar:=(gS.1 hf).1;have Bu:i * esz+j<fi.size:=by rw[fw.1];exact ar
    have gu:fi[i * esz+j]? =some fi[i * esz+j]:=Array.getElem?_eq_getElem Bu;exact⟨_,gu,fw.2 _ _ _ hf gu⟩
   have dj:∀(i:Nat) d (j:Nat) c,(nc.map (·.2))[i]? =some d->d.cells[j]? =some c->fi[i * esz+j]? =some (fi.getD (i * esz+j) undef)/\aJ w (az X ρ bx w) ρ c (fi.getD (i * esz+j) undef):=by
    intro i d j c hi hj;obtain⟨u,gu,hr⟩:=jx i d j c hi hj;have:fi.getD (i * esz+j) undef=u:=by rw[Array.getD_eq_getD_getElem?,gu];rfl
    rw[this];exact⟨gu,hr⟩
   refine⟨.slice (some ⟨w.heap.size,0,none⟩) n n,w.alloc (.cells fi e),?_,hb,.pure (.sl (b:=w.heap.size) (off:=0) (us:=fun i j=>fi.getD (i * esz+j) undef) (by simp[hlen]) (Nat.le_refl _) ?_ (fun _=>⟨rfl,h.fresh _⟩)
    (fun i d hi=>(er d (mG hi)).1) (fun i d j c hi hj=>?_) (fun i d j c hi hj=>?_) (fun i d j c hi hj=>?_))⟩
   ·simp only[execOp,Sem.run_bind,bQ,Result.andThen_ok,Sem.run_pure]
   ·have:n<=n * esz:=Nat.le_mul_of_pos_right n eM;simp only[maxLen];omega
   ·rw[Nat.zero_add];have hn:=heap_alloc_new w (.cells fi e);simp only[World.cell?,hn,Option.isSome_none,Bool.false_eq_true,if_false];exact(dj i d j c hi hj).1
   ·exact(dj i d j c hi hj).2.one (List.all_eq_true.1 (er d (mG hi)).2.1 c (mG hj))
   ·refine((dj i d j c hi hj).2.mono (fun b eo=>?_) (fun b eo=>?_) (fun _ _ _ h=>h)).fC (sY (er d (mG hi)).2.2 c (mG hj))
    ·exact hb.block b eo.1
    ·exact⟨Nat.lt_of_lt_of_le eo.1 hb.size,eo.2⟩
  ·cases hv
 ·cases hv
def oJ{b:Builtin}{cA:Array TypeId}{args:Array Operand}{v:Value}{f:Array TypeId->TypeId->Array Value->Sem Value}(hb:∀ts t cs vs,builtin b ts t cs vs=(do pure (.value (<-f ts t vs))))(hr:(f cA ty (args.map a.eval)).run P w= .ok v w):
 (execOp a.eval ⟨dst,.call {callee:=.builtin b,args,argTypes:=cA},ty,pos,af,g⟩).run P w= .ok (.value v) w:=by
 simp only[execOp,resolve,invoke,Sem.run_bind,Sem.run_pure,Result.andThen_ok,hb,hr]
def Oo(h:aA X ρ σ bx a w){cA:Array TypeId}{args:Array Operand}{d:D}(hv:mQ .len (cA.toList.map (an P)) (args.toList.map (ev σ))=some d):Yields P X ρ bx a w ⟨dst,.call {callee:=.builtin .len,args,argTypes:=cA},ty,pos,af,g⟩ d:=by
 obtain⟨cA⟩:=cA;obtain⟨args⟩:=args;cases cA with
 |nil=>simp[mQ]at hv
 |cons T cA=>
 cases cA with
 |cons T' cA=>simp[mQ]at hv
 |nil=>
 cases args with
 |nil=>simp[mQ]at hv
 |cons x args=>
 cases args with
 |cons y args=>simp[mQ]at hv
 |nil=>
 simp only[mC,List.map_nil,mQ,mS]at hv;obtain⟨n,hn,rfl⟩:=hv;have hx:=h.ev x;generalize ev σ x=dx at hn hx;refine aR _ (oJ (f:=Builtin.len_) (fun _ _ _ _=>rfl) (v:=.int .i64 (n:Int)) ?_) (.pure (.int _ _));simp only[List.map_toArray,mC,List.map_nil];unfold ua at hn;split at hn<;>try (cases hn;done)
 all_goals injection hn with hn;subst hn
 ·rename_i s hk;have bP:(⟨s.toArray⟩:ByteArray).size=s.length:=by simp[ByteArray.size]
  simp only[Builtin.len_,List.getElem?_toArray,List.getElem?_cons_zero,hx.iW,Sem.run_bind,run_underlying (qs hk),Result.andThen_ok,Sem.run_pure,goInt,bP]
 ·rename_i hk;have eO:=hx.fC rfl;generalize fc:a.eval x=vx at eO;cases eO with
  |sl hn _ _ _ _ _ _ _=>subst hn;simp[Builtin.len_,run_underlying (dt hk).1,goInt]
 ·rename_i hk;simp[Builtin.len_,hx.gi,run_underlying (dt hk).1,goInt]
 ·rename_i hk;generalize fc:a.eval x=vx at hx;cases hx with
  |pure h=>cases h
  |bp=>simp[Builtin.len_,run_underlying (dt hk).1,goInt]
 ·rename_i hk;obtain⟨A,fc⟩:=(hx.fC rfl).vM;simp[Builtin.len_,fc,run_underlying (dt hk).1,goInt]
 ·rename_i hk;generalize fc:a.eval x=vx at hx;cases hx with
  |pure h=>cases h
  |fJ=>simp[Builtin.len_,run_underlying (dt hk).1,goInt]
 ·rename_i hk;obtain⟨e,hu,_⟩:=wy hk;simp[Builtin.len_,run_underlying hu,goInt]
def Nd(h:aA X ρ σ bx a w){cA:Array TypeId}{args:Array Operand}{d:D}(hv:mQ .cap (cA.toList.map (an P)) (args.toList.map (ev σ))=some d):Yields P X ρ bx a w ⟨dst,.call {callee:=.builtin .cap,args,argTypes:=cA},ty,pos,af,g⟩ d:=by
 obtain⟨cA⟩:=cA;obtain⟨args⟩:=args;cases cA with
 |nil=>simp[mQ]at hv
 |cons T cA=>
 cases cA with
 |cons T' cA=>simp[mQ]at hv
 |nil=>
 cases args with
 |nil=>simp[mQ]at hv
 |cons x args=>
 cases args with
 |cons y args=>simp[mQ]at hv
 |nil=>
 simp only[mC,List.map_nil]at hv;have hx:=h.ev x;generalize hti:an P T=ti at hv;generalize ev σ x=dx at hv hx;obtain⟨k,size,ag,z⟩:=ti;cases k<;>try (simp[mQ]at hv;done)
 cases dx<;>try (simp[mQ]at hv;done)
 simp only[mQ,sJ]at hv;subst hv;rename_i e esz b g;have hk:(an P T).k= .slice e esz b g:=by rw[hti]
 refine aR _ (oJ (f:=Builtin.cap_) (fun _ _ _ _=>rfl) (v:=.int .i64 0) ?_) (.pure (.int _ _));simp only[List.map_toArray,mC,List.map_nil];simp[Builtin.cap_,hx.gi,run_underlying (dt hk).1,goInt]
def Ov(h:aA X ρ σ bx a w){cA:Array TypeId}{args:Array Operand}{d:D}(hv:minD (args.toList.map (ev σ))=some d):Yields P X ρ bx a w ⟨dst,.call {callee:=.builtin .min,args,argTypes:=cA},ty,pos,af,g⟩ d:=by
 obtain⟨args⟩:=args;unfold minD at hv;split at hv
 ·rename_i k m k' n he;cases args with
  |nil=>simp at he
  |cons x args=>
  cases args with
  |nil=>simp at he
  |cons y args=>
  cases args with
  |cons z args=>simp at he
  |nil=>
  simp only[mC,List.map_nil,List.cons.injEq,and_true]at he;split at hv
  ·injection hv with hv;subst hv;have hx:=h.ev x;have hy:=h.ev y;rw[he.1]at hx;rw[he.2]at hy;refine aR _ (oJ (f:=Builtin.min_) (fun _ _ _ _=>rfl) (v:=.int k (if n<m then n else m)) ?_) (.pure (.int _ _));simp[Builtin.min_,Builtin.min2,hx.ed,hy.ed]
  ·cases hv
 ·cases hv
def BC{S:Nat->Prop}{x y d:D}{u v:Value}(h:xd x y=some d)(hx:aJ w S ρ x u)(hy:aJ w S ρ y v):∃k n,d= .int k n/\(Builtin.max2 u v).run P w= .ok (.int k n) w:=by
 unfold xd at h;split at h
 ·rename_i k m k' n;split at h
  ·injection h with h;subst h;rw[hx.ed,hy.ed];exact⟨_,_,rfl,by simp[Builtin.max2]⟩
  ·cases h
 ·cases h
theorem Ot(h:aA X ρ σ bx a w){cA:Array TypeId}{args:Array Operand}{d:D}(hv:maxD (args.toList.map (ev σ))=some d):Yields P X ρ bx a w ⟨dst,.call {callee:=.builtin .max,args,argTypes:=cA},ty,pos,af,g⟩ d:=by
 obtain⟨args⟩:=args
 match args,hv with
 |[x,y],hv=>
  obtain⟨k,n,rfl,h1⟩:=BC (P:=P) hv (h.ev x) (h.ev y);refine aR _ (oJ (f:=Builtin.max_) (fun _ _ _ _=>rfl) (v:=.int k n) ?_) (.pure (.int _ _));simp[Builtin.max_,h1]
 |[x,y,z],hv=>
  obtain⟨m,hm,hv⟩:=Option.bind_eq_some_iff.1 hv;obtain⟨k,n,rfl,h1⟩:=BC (P:=P) hm (h.ev x) (h.ev y);obtain⟨k',n',rfl,h2⟩:=BC (P:=P) hv (.pure (.int k n)) (h.ev z);refine aR _ (oJ (f:=Builtin.max_) (fun _ _ _ _=>rfl) (v:=.int k' n') ?_) (.pure (.int _ _));simp[Builtin.max_,h1,h2]
 |[],hv=>cases hv
 |[_],hv=>cases hv
 |_::_::_::_::_,hv=>cases hv
theorem EE:∀(es:List D) (l:List UInt8),ji es=some l->∃ns:List Int,es=ns.map (D.int .u8)/\l=ns.map fun n=>UInt8.ofNat n.toNat
 |[],l,h=>by simp only[ji,sJ]at h;subst h;exact⟨[],rfl,rfl⟩
 |x::es,l,h=>by
  unfold ji at h;split at h
  ·rename_i heq;cases heq
  ·rename_i n es' heq;injection heq with h1 h2;subst h1;subst h2;rw[mS]at h;obtain⟨l',h',rfl⟩:=h;obtain⟨ns,rfl,rfl⟩:=EE _ _ h';exact⟨n::ns,rfl,rfl⟩
  ·cases h
theorem M9{S:Nat->Prop}{es:List D}{A:Option Addr}{n cap:Nat}{l:List UInt8}(hx:bB w S (.sl 1 es) (.slice A n cap))(hl:ji es=some l):(Conv.bytesToString (.slice A n cap)).run P w= .ok (.string ⟨l.toArray⟩) w:=by
 obtain⟨ns,rfl,rfl⟩:=EE es l hl;cases hx with
 |@sl _ _ _ _ _ b off us hn dK jd hA bP hc h1 hr=>
  by_cases bw:ns=[]
  ·subst bw;simp only[List.map_nil,List.length_nil]at hn;subst hn;cases A with
   |none=>rw[Conv.bytesToString,Sem.run_pure];rfl
   |some ad=>
    rw[run_bytesToString w ad 0 cap [] (run_loadCells_list (P:=P) (w:=w) ad [] (fun j v hj=>by simp at hj))];rfl
  ·obtain⟨rfl,_⟩:=hA (by simpa using bw);have hl:(loadCells ⟨b,off,none⟩ n).run P w= .ok (ns.map (Value.int .u8)).toArray w:=by
    have:=run_loadCells_list (P:=P) (w:=w) ⟨b,off,none⟩ (ns.map (Value.int .u8)) (fun j v hj=>by
     rw[gM,mS]at hj;obtain⟨m,hm,rfl⟩:=hj;have h0:=hc j (.int .u8 m) 0 (.int .u8 m) (by simp[hm]) rfl;have h2:=hr j (.int .u8 m) 0 (.int .u8 m) (by simp[hm]) rfl;have e:us j 0= .int .u8 m:=(aJ.pure (ρ:=⟨fun _ _=>none,fun _=>none⟩) h2).ed;rw[e]at h0;rw[Addr.ei];simpa using h0)
    rw[List.length_map]at this;rw[List.length_map]at hn;rw[hn];exact this
   rw[run_bytesToString w _ n cap ns hl,foldl_push_bytes]
   congr 2
   simp[ByteArray.empty,ByteArray.emptyWithCapacity];rfl
def Lf(h:aA X ρ σ bx a w){s t:TypeId}{x:Operand}{d:D}(hv:re (an P) (an P s) (an P t) (ev σ x)=some d):Yields P X ρ bx a w ⟨dst,.convert s t x,ty,pos,af,g⟩ d:=by
 have hx:=h.ev x;generalize ev σ x=dx at hv hx;have key:∀(sz:Nat) (es:List D) (e z0 b0:Nat) (g0:Bool),(an P s).k= .slice e z0 b0 g0->(an P t).k= .str->(sz=1/\(an P e).k.qR=true)->bB w (az X ρ bx w) (.sl sz es) (a.eval x)->(ji es).map D.str=some d->Yields P X ρ bx a w ⟨dst,.convert s t x,ty,pos,af,g⟩ d:=by
  intro sz es e z0 b0 g0 h1 h2 bP eO eN;obtain⟨bP,Hz⟩:=bP;subst bP;have hu:P.underlying e=some (.int .u8):=by
   unfold TK.qR at Hz;split at Hz
   ·rename_i hk;exact uw hk
   ·cases Hz
  rw[mS]at eN;obtain⟨l,hl,rfl⟩:=eN;refine aR (.string ⟨l.toArray⟩) ?_ (.pure (.str _));generalize fc:a.eval x=vx at eO;have mr:∃A n cap,vx= .slice A n cap:=by cases eO;exact⟨_,_,_,rfl⟩
  obtain⟨A,n,cap,rfl⟩:=mr;have bQ:=M9 (P:=P) eO hl;simp only[execOp,convert,fc,Sem.run_bind,run_underlying (dt h1).1,run_underlying (qs h2),run_underlying hu,Result.andThen_ok,bQ,Sem.run_pure]
 unfold re at hv;split at hv
 ·rename_i k n;split at hv
  ·rename_i k1 k2 h1 h2;injection hv with hv;subst hv;refine aR (.int k2 (k2.wrap n)) ?_ (.pure (.int _ _));simp[execOp,convert,run_underlying (uw h1),run_underlying (uw h2),hx.ed,Conv.intToInt]
  ·cases hv
 ·rename_i l;split at hv
  ·rename_i h1 h2;injection hv with hv;subst hv;refine aR (.string ⟨l.toArray⟩) ?_ (.pure (.str _));simp[execOp,convert,run_underlying (qs h1),run_underlying (qs h2),hx.iW]
  ·cases hv
 ·rename_i sz es;split at hv
  ·rename_i e z0 b0 g0 h1 h2;split at hv
   ·rename_i bP;exact key sz es e z0 b0 g0 h1 h2 bP (hx.fC rfl) hv
   ·cases hv
  ·cases hv
 ·rename_i sz es;split at hv
  ·rename_i e z0 b0 g0 h1 h2;split at hv
   ·rename_i bP;exact key sz es e z0 b0 g0 h1 h2 bP (hx.fC rfl).rT hv
   ·cases hv
  ·cases hv
 ·split at hv
  ·rename_i e z0 b0 g0 h1 h2;split at hv
   ·rename_i Hz;injection hv with hv;subst hv;have hu:P.underlying e=some (.int .u8):=by
     unfold TK.qR at Hz;split at Hz
     ·rename_i hk;exact uw hk
     ·cases Hz
    refine aR (.string ⟨([]:List UInt8).toArray⟩) ?_ (.pure (.str _));simp only[execOp,convert,hx.gi,Sem.run_bind,run_underlying (dt h1).1,run_underlying (qs h2),run_underlying hu,Result.andThen_ok,Conv.bytesToString,Sem.run_pure];rfl
   ·cases hv
  ·cases hv
 ·cases hv
def IM(h:aA X ρ σ bx a w){t:TypeId}{x m:Operand}{lo hi:Option Operand}{d:D}(hv:H9 (an P t) (ev σ x) (eY σ lo) (eY σ hi) (y7 (ev σ m))=some d):Yields P X ρ bx a w ⟨dst,.slice t x lo hi (some m),ty,pos,af,g⟩ d:=by
 have hx:=h.ev x;have hm:=h.ev m;generalize ev σ x=dx at hv hx;generalize ev σ m=dm at hv hm;unfold H9 at hv;split at hv
 ·rename_i l hh mm hl hhi rL;obtain⟨k,Hf⟩:∃k,dm= .int k mm:=by
   cases dm<;>simp only[y7]at rL<;>try (cases rL;done)
   injection rL with rL;injection rL with rL;subst rL;exact⟨_,rfl⟩
  subst Hf;have Ss:=hm.ed;rcases qm h hhi with⟨_,h0⟩|⟨y,k',n',hy1,W9,hy⟩
  ·cases h0
  injection W9 with W9;subst W9;subst hy1;have bound:∀(p q:Nat) (len cap:Nat),dV len l (some hh)=some (p,q)->mm=hh->len<=cap->(Instr.sliceBounds true len cap (lo.map a.eval) (some (a.eval y)) (some (a.eval m))).run P w= .ok (p,q,q) w/\p<=q/\q<=len:=by
   intro p q len cap hc WH hle;subst WH;unfold dV at hc;simp only[Option.getD_some]at hc;split at hc
   ·rename_i hb;injection hc with hc;injection hc with h1 h2;have c1:0<=mm/\mm<=(cap:Int):=⟨by omega,by omega⟩
    have c2:0<=mm/\mm<=((mm.toNat:Nat):Int):=⟨by omega,by omega⟩
    rcases qm h hl with⟨rfl,rfl⟩|⟨z,kz,nz,rfl,rfl,hz⟩<;>simp only[Option.getD_none,Option.getD_some]at hb h1
    ·subst h1;subst h2;refine⟨by simp only[Instr.sliceBounds,Instr.sliceBound,hy,Ss,asIntOf,Option.map_none,Sem.run_bind,Sem.run_pure,Result.andThen_ok,Sem.run_ite,c1,c2,and_self,if_true];rfl,by omega,by omega⟩
    ·subst h1;subst h2;have c3:0<=nz/\nz<=((mm.toNat:Nat):Int):=⟨by omega,by omega⟩
     refine⟨by simp only[Instr.sliceBounds,Instr.sliceBound,hy,hz,Ss,asIntOf,Option.map_some,Sem.run_bind,Sem.run_pure,Result.andThen_ok,Sem.run_ite,c1,c2,c3,and_self,if_true],by omega,by omega⟩
   ·cases hc
  unfold wu at hv;split at hv
  ·rename_i e esz b ag sz es hk;split at hv
   ·rename_i Wm;obtain⟨he,eM,WH⟩:=Wm;subst he;obtain⟨hu,gq,_,_⟩:=dt hk;cases hc:dV es.length l (some hh)with
    |none=>simp[hc]at hv
    |some pq=>
     obtain⟨p,q⟩:=pq;simp only[hc,Option.map_some,sJ]at hv;subst hv;have eO:bB w (az X ρ bx w) (.sl sz es) (a.eval x):=hx.fC rfl;generalize fc:a.eval x=vx at eO;cases eO with
     |@sl _ _ A n cap b' off us hn dK jd hA bP jn h1 hr=>
      subst hn;obtain⟨bQ,k1,k2⟩:=bound p q _ cap hc WH dK;have er:∀(i:Nat) c,((es.drop p).take (q - p))[i]? =some c->es[p+i]? =some c:=fun i c hi=>by
       have ar:=(gS.1 hi).1;simp at ar;rwa[List.getElem?_take_of_lt oM,List.getElem?_drop]at hi
      refine aR (.slice (if q=p then A else A.map (·.add (p * sz))) (q - p) (q - p)) ?_ (.pure (.ij (.sl (b:=b') (off:=off+p * sz) (us:=fun i j=>us (p+i) j) (by simp;omega) oM oM (fun bw=>?_)
       (fun i c hi=>bP _ _ (er i c hi)) (fun i c j c' hi hj=>?_) (fun i c j c' hi hj=>h1 _ _ _ _ (er i c hi) hj) (fun i c j c' hi hj=>hr _ _ _ _ (er i c hi) hj))))
      ·simp only[execOp,Instr.sliceAt,Instr.slice,fc,Sem.run_bind,Sem.run_pure,Result.andThen_ok,run_underlying hu,Option.map_some,bQ,dh (gq▸eM),<-gq]
      ·have ar:p<es.length:=by
        rcases Nat.lt_or_ge p es.length with h'|h'
        ·exact h'
        ·exfalso;apply bw;rw[List.drop_eq_nil_of_le h'];simp
       have hqp:q≠p:=by rintro rfl;apply bw;simp
       obtain⟨rfl,hb⟩:=hA (by rintro rfl;simp at ar);rw[if_neg hqp];exact⟨by simp[Addr.ei],hb⟩
      ·have:=jn _ _ _ _ (er i c hi) hj;rwa[Nat.add_mul,<-Nat.add_assoc]at this
   ·cases hv
  ·rename_i e esz b ag hk;split at hv
   ·rename_i Wm;obtain⟨h1,h2,h3,eM⟩:=Wm;injection hv with hv;subst hv;obtain⟨hu,gq,_,_⟩:=dt hk;have fc:=hx.gi;obtain⟨bQ,_,_⟩:=bound 0 0 0 0 (by unfold dV;rw[h2,h3];rfl) (h1.trans h2.symm) (Nat.le_refl _);refine aR (.slice none 0 0) ?_ (.pure .aq);simp only[execOp,Instr.sliceAt,Instr.slice,fc,Sem.run_bind,Sem.run_pure,Result.andThen_ok,run_underlying hu,Option.map_some,bQ,dh (gq▸eM),if_true,Nat.sub_self]
   ·cases hv
  ·cases hv
 ·cases hv
def Mc(h:aA X ρ σ bx a w){c x y:Operand}{d:D}(hv:rn (ev σ c) (ev σ x) (ev σ y)=some d):Yields P X ρ bx a w ⟨dst,.pick c x y,ty,pos,af,g⟩ d:=by
 have hc:=h.ev c;generalize ev σ c=dc at hv hc;cases dc<;>simp only[rn]at hv<;>try (cases hv;done)
 rename_i t;injection hv with hv;subst hv;refine aR (if t then a.eval x else a.eval y) ?_ ?_
 ·simp[execOp,asBool,hc.jR]
 ·cases t
  ·exact h.ev y
  ·exact h.ev x
def Oy(h:aA X ρ σ bx a w){op:BinOp}{t t':TypeId}{x:Operand}{d:D}(hv:Q0 (an P t) op (ev σ x)=some d):Yields P X ρ bx a w ⟨dst,.binOp op t x (.const .nilIface) t',ty,pos,af,g⟩ d:=by
 have hx:=h.ev x;generalize ev σ x=dx at hv hx;have key:∀b ms,P.underlying t=some (.interface ms)->zi dx=some b->(Op.equal t (a.eval x) .nilIface).run P w= .ok b w/\(∀op,(eqGuard op t x (.const .nilIface) (a.eval x) .nilIface).run P w= .ok () w)/\((∃t v,a.eval x= .iface t v)\/a.eval x= .nilIface):=by
  intro b ms hu hb;unfold zi at hb;split at hb
  ·injection hb with hb;subst hb;generalize a.eval x=vx at hx;have:∃t v,vx= .iface t v:=by cases hx with
    |pure h=>cases h with|dI h=>exact⟨_,_,rfl⟩
    |dI h=>exact⟨_,_,rfl⟩
   obtain⟨t1,v1,rfl⟩:=this;have e1:∀n,(Op.equalIn (n+1) t (.iface t1 v1) .nilIface).run P w= .ok false w:=fun n=>by simp[Op.equalIn,run_underlying hu]
   exact⟨e1 9999,fun op=>by cases op<;>simp[eqGuard],.inl ⟨_,_,rfl⟩⟩
  ·injection hb with hb;subst hb;have hx:=hx.Ea;rw[hx];have e1:∀n,(Op.equalIn (n+1) t .nilIface .nilIface).run P w= .ok true w:=fun n=>by simp[Op.equalIn,run_underlying hu]
   exact⟨e1 9999,fun op=>by cases op<;>simp[eqGuard],.inr rfl⟩
  ·cases hb
 unfold Q0 at hv;split at hv
 ·rename_i hk;obtain⟨ms,hu⟩:=O7 hk;rw[mS]at hv;obtain⟨b,hb,rfl⟩:=hv;obtain⟨h1,h2,h3⟩:=key b ms hu hb;refine aR (.bool b) ?_ (.pure (.bool _));have he:a.eval (.const .nilIface)= .nilIface:=rfl;have:(binOp .eql t (a.eval x) .nilIface).run P w= .ok (.bool b) w:=by rcases h3 with⟨t1,v1,e⟩|e<;>rw[e]at h1⊢ <;>simp[binOp,h1]
  simp only[execOp,he,Sem.run_bind,h2,this,Result.andThen_ok,Sem.run_pure]
 ·rename_i hk;obtain⟨ms,hu⟩:=O7 hk;rw[mS]at hv;obtain⟨b,hb,rfl⟩:=hv;obtain⟨h1,h2,h3⟩:=key b ms hu hb;refine aR (.bool (!b)) ?_ (.pure (.bool _));have he:a.eval (.const .nilIface)= .nilIface:=rfl;have:(binOp .neq t (a.eval x) .nilIface).run P w= .ok (.bool (!b)) w:=by rcases h3 with⟨t1,v1,e⟩|e<;>rw[e]at h1⊢ <;>simp[binOp,h1]
  simp only[execOp,he,Sem.run_bind,h2,this,Result.andThen_ok,Sem.run_pure]
 ·cases hv
def Jo(h:aA X ρ σ bx a w){t:TypeId}{x:Operand}{d:D}(hv:Da (an P t) t (ev σ x)=some d):Yields P X ρ bx a w ⟨dst,.makeInterface t x,ty,pos,af,g⟩ d:=by
 unfold Da at hv;split at hv
 ·cases hv
 ·cases hv
 ·rename_i h1 h2;injection hv with hv;subst hv;obtain⟨dd,hu,hn⟩:=IX h1 h2;refine aR (.iface t (a.eval x)) ?_ (.dI (h.ev x));simp only[execOp,Instr.makeInterface,Sem.run_bind,run_underlying hu,Result.andThen_ok];cases dd<;>first|(exact absurd rfl (hn _))|simp
def ME(h:aA X ρ σ bx a w){t xt:TypeId}{x:Operand}{ok:Bool}{d:D}(hv:DK (an P t) t ok (ev σ x)=some d):Yields P X ρ bx a w ⟨dst,.typeAssert x xt t ok,ty,pos,af,g⟩ d:=by
 have hx:=h.ev x;generalize ev σ x=dx at hv hx;have hzero:(an P t).zero.isEmpty=false->∃z,(zeroValue t).run P w= .ok z w:=by
  intro h2;simp only[an]at h2;cases hi:P.info? t with
  |none=>simp[hi]at h2
  |some i=>
   cases hz:i.zero with
   |none=>simp[hi,hz]at h2
   |some z=>exact⟨z,by simp[zeroValue,typeInfo,hi,hz,go_sem]⟩
 have QQ:∀(v v2:Value) (d d2:D),aJ w (az X ρ bx w) ρ d v->aJ w (az X ρ bx w) ρ d2 v2->aJ w (az X ρ bx w) ρ (.aI [d,d2]) (.tuple #[v,v2]):=by
  intro v v2 d d2 h1 h2;refine .aI rfl fun i dd vv hd hv=>?_;rcases i with _|_|i
  ·simp at hd hv;subst hd;subst hv;exact h1
  ·simp at hd hv;subst hd;subst hv;exact h2
  ·simp at hd
 unfold DK at hv;split at hv
 ·cases hv
 ·cases hv
 ·rename_i h1 h2;obtain⟨dd,hu,hn⟩:=IX h1 h2;split at hv
  ·rename_i t' v0;generalize fc:a.eval x=vx at hx;have:∃v,vx= .iface t' v/\aJ w (az X ρ bx w) ρ v0 v:=by cases hx with
    |pure h=>cases h with|dI h=>exact⟨_,rfl,.pure h⟩
    |dI h=>exact⟨_,rfl,h⟩
   obtain⟨v,rfl,hr⟩:=this;split at hv
   ·rename_i ht;subst ht;injection hv with hv;subst hv;refine aR (if ok then .tuple #[v,.bool true]else v) ?_ ?_
    ·simp only[execOp,Instr.typeAssert,Sem.run_bind,run_underlying hu,Result.andThen_ok,fc];cases dd<;>first|(exact absurd rfl (hn _))|(cases ok<;>simp)
    ·cases ok
     ·exact hr
     ·exact QQ _ _ _ _ hr (.pure (.bool _))
   ·rename_i ht;split at hv
    ·rename_i hz;simp only[bA,Bool.not_eq_true']at hz;obtain⟨rfl,hz⟩:=hz;injection hv with hv;subst hv;obtain⟨z,hz⟩:=hzero hz;refine aR (.tuple #[z,.bool false]) ?_ (QQ _ _ _ _ (.pure (.undef _)) (.pure (.bool _)));simp only[execOp,Instr.typeAssert,Sem.run_bind,run_underlying hu,Result.andThen_ok,fc];cases dd<;>first|(exact absurd rfl (hn _))|simp[ht,hz]
    ·cases hv
  ·split at hv
   ·rename_i hz;simp only[bA,Bool.not_eq_true']at hz;obtain⟨rfl,hz⟩:=hz;injection hv with hv;subst hv;obtain⟨z,hz⟩:=hzero hz;refine aR (.tuple #[z,.bool false]) ?_ (QQ _ _ _ _ (.pure (.undef _)) (.pure (.bool _)));simp only[execOp,Instr.typeAssert,Sem.run_bind,run_underlying hu,Result.andThen_ok,hx.Ea];cases dd<;>first|(exact absurd rfl (hn _))|simp[hz]
   ·cases hv
  ·cases hv
def FN(h:aA X ρ σ bx a w)(o:Oper){d:D}(hv:cT P σ bx o.op=some d):Yields P X ρ bx a w o d:=by
 obtain⟨dst,op,ty,pos,af,g⟩:=o;simp only at hv;cases op with
 |move x=>simp only[cT,sJ]at hv;subst hv;exact aR (a.eval x) (by simp[execOp]) (h.ev x)
 |assign x=>simp only[cT,sJ]at hv;subst hv;exact aR (a.eval x) (by simp[execOp]) (h.ev x)
 |pick c x y=>exact Mc h hv
 |binOp op t x y t'=>
  simp only[cT,Bk]at hv;cases hn:isNil y with
  |false=>rw[hn]at hv;exact I9 h hv
  |true=>
   rw[hn]at hv;have hy:y= .const .nilIface:=by
    unfold isNil at hn;split at hn
    ·rfl
    ·cases hn
   subst hy;exact Oy h hv
 |makeInterface t x=>exact Jo h hv
 |typeAssert x xt t ok=>exact ME h hv
 |unOp op t x=>exact MG h hv
 |fieldAddr t x i=>exact CB h hv
 |field t x i=>exact Jg h hv
 |indexAddr t x y=>exact C3 h hv
 |index t x y=>exact Jk h hv
 |load t x=>exact LW h hv
 |extract x i=>
  simp only[cT]at hv;have hx:=h.ev x;generalize ev σ x=dx at hv hx;cases dx<;>simp only[FX]at hv<;>try (cases hv;done)
  rename_i ds;obtain⟨vs,fc,hl,hr⟩:=hx.Kr;have hi:i<vs.size:=by have:=(gS.1 hv).1;omega
  have hvi:vs[i]? =some vs[i]:=Array.getElem?_eq_getElem hi;exact aR vs[i] (by simp[execOp,Instr.extract,fc,hvi]) (hr _ _ _ hv hvi)
 |slice t x lo hi mx=>
  cases mx with
  |none=>exact JA h hv
  |some m=>exact IM h hv
 |build t ps=>
  simp only[cT]at hv;cases hb:mi (an P t) (ps.toList.map fun p=>(p.1,ev σ p.2))with
  |some d'=>rw[hb]at hv;injection hv with hv;subst hv;exact Gw h hb
  |none=>
   rw[hb]at hv;simp only[yb]at hv;split at hv
   ·rename_i hc;injection hv with hv;subst hv;rw[bA]at hc;obtain⟨h0,hu,i,z,hi,hz,qG,bP⟩:=Li hc.2;have CW:ps= #[]:=by apply Array.toList_inj.1;simpa using hc.1
    subst CW;refine aR (.agg #[]) ?_ (.pure (.agg rfl fun i d u hd hu=>by simp at hd));simp[execOp,Instr.build,zeroValue,typeInfo,hi,hz,go_sem,run_underlying hu,Instr.fill];exact OA qG
   ·cases hv
 |buildSlice t n ps=>exact Bl h hv
 |nilCheck x=>
  simp only[cT]at hv;have hx:=h.ev x;generalize ev σ x=dx at hv hx;cases dx<;>simp only[HS]at hv<;>try (cases hv;done)
  ·injection hv with hv;subst hv;have eO:=hx.fC rfl;generalize fc:a.eval x=vx at hx eO;refine aR vx ?_ hx;cases eO;simp[execOp,fc]
  ·injection hv with hv;subst hv;obtain⟨p,hp,fc⟩:=hx.lP;exact aR (a.eval x) (by simp[execOp,fc]) hx
 |makeFunc f first caps=>
  simp only[cT]at hv;split at hv
  ·rename_i hf;injection hv with hv;subst hv;have hf:first= #[]:=by simpa using hf
   subst hf;refine aR (.func f #[] (caps.map a.eval)) (by simp[execOp,Instr.makeFunc]) (.fn sI fun i d v hd hv=>?_);simp only[gM,aG,Array.getElem?_map,mS]at hd hv;obtain⟨x,hx,rfl⟩:=hd;obtain⟨y,hy,rfl⟩:=hv;rw[hx]at hy;injection hy with hy;subst hy;exact h.ev x
  ·split at hv
   ·rename_i hf;have hf:caps= #[]:=by simpa using hf
    subst hf;unfold Vm at hv;split at hv
    ·injection hv with hv;subst hv;refine aR (.func (.func _) (first.map a.eval) #[]) (by simp[execOp,Instr.makeFunc]) (.iC sI fun i d v hd hv=>?_);simp only[gM,aG,Array.getElem?_map,mS]at hd hv;obtain⟨x,hx,rfl⟩:=hd;obtain⟨y,hy,rfl⟩:=hv;rw[hx]at hy;injection hy with hy;subst hy;exact h.ev x
    ·cases hv
   ·cases hv
 |convert s t x=>exact Lf h hv
 |call c=>
  obtain⟨callee,args,cA⟩:=c;cases callee with
  |builtin b=>
   simp only[cT]at hv;cases b with
   |len=>exact Oo h hv
   |cap=>exact Nd h hv
   |min=>exact Ov h (by simpa only[mQ]using hv)
   |max=>exact Ot h (by simpa only[mQ]using hv)
   |_=>simp[mQ]at hv
  |_=>simp[cT]at hv
 |_=>simp[cT]at hv
end Go.V
namespace Go.V
open Go.RowKit
variable {P:Program} {X:Ctx} {ρ:cQ} {σ:Env} {bx:ae} {a:Act} {w:World}
variable {ty:TypeId} {pos:String} {af:Array Edge} {g:Option (Nat×Bool)}
def HR(h:aA X ρ σ bx a w){T d s:Nat}(hd:d<X.N)(bH:X.lo<=s){v:Value}{x:D}(hs:v.cells.size=x.cells.length)
 (hc:∀(j:Nat) c,x.cells[j]? =some c->∃u,v.cells[j]? =some u/\aJ w (az X ρ bx w) ρ c u/\u.oneCell'=true):
 ∃ρ',aA X ρ' (aj σ d (.loc s ((bx s).ep+1) 0 0)) (aj bx s ⟨(bx s).ep+1,1,x.cells.length,T,[x]⟩) (a.put (some d) (.pointer (some ⟨w.heap.size,0,none⟩))) (w.alloc (.cells v.cells T)):=by
 have hb:=(Below.refl w.heap.size w).alloc (Nat.le_refl _) (.cells v.cells T);have h2:=h.own (w':=w.alloc (.cells v.cells T)) (t:=s) (p:=⟨w.heap.size,1,x.cells.length,T⟩) (es:=[x]) (bx1:=bx) bH (fun _=> .inl rfl) (Old:=fun _=>False) (.ue hb) (fun _ h=>h.elim) (.inl (Nat.le_refl _)) (fun S' ρ' hS hρ=>by
  refine⟨⟨v.cells,heap_alloc_new w _,by simp[hs],fun _ j=>v.cells.getD j undef,fun i y j c hi hj=>?_⟩,by simp,by simp[maxLen],fun i y hi=>?_⟩
  ·cases i with
   |zero=>
    simp only[List.getElem?_cons_zero,sJ]at hi;subst hi;dsimp only;obtain⟨u,hu,hr,h1⟩:=hc j c hj;have:v.cells.getD j undef=u:=by rw[Array.getD_eq_getD_getElem?,hu];rfl
    rw[this,Nat.zero_mul,Nat.zero_add];exact⟨hu,hr.mono (fun b eo=>hb.block b eo.1) hS hρ,h1⟩
   |succ i=>simp at hi
  ·cases i with
   |zero=>simp only[List.getElem?_cons_zero,sJ]at hi;subst hi;rfl
   |succ i=>simp at hi)
 refine⟨_,h2.put (dst:=some d) (fun t ht=>by injection ht with ht;subst ht;exact hd) (.loc (p:=⟨w.heap.size,1,x.cells.length,T⟩) ?_ sI)⟩;simp
theorem tD{t:TypeId}(h:(an P t).zero.length≠0):∃i z,P.info? t=some i/\i.zero=some z/\(an P t).zero=z.cells.toList.map A5:=by
 simp only[an]at h⊢;cases hi:P.info? t with
 |none=>simp[hi]at h
 |some i=>
  cases hz:i.zero with
  |none=>simp[hi,hz]at h
  |some z=>exact⟨i,z,rfl,hz,by simp[hz]⟩
def Gj(h:aA X ρ σ bx a w){T d s:Nat}(hd:d<X.N)(bH:X.lo<=s){z:D}(hz:jb (an P T)=some z):
 ∃v w',(execOp a.eval ⟨some d,.alloc T,ty,pos,af,g⟩).run P w= .ok (.value v) w'/\
  ∃ρ',aA X ρ' (aj σ d (.loc s ((bx s).ep+1) 0 0)) (aj bx s ⟨(bx s).ep+1,1,(an P T).size,T,[z]⟩) (a.put (some d) v) w':=by
 unfold jb at hz;split at hz
 ·rename_i hc;obtain⟨eM,hl,hU,fj⟩:=hc;injection hz with hz;have hzero:∃zv,(zeroValue T).run P w= .ok zv w/\(an P T).zero=zv.cells.toList.map A5:=by
   have h2:(an P T).zero.length≠0:=oM;simp only[an]at h2⊢;cases hi:P.info? T with
   |none=>simp[hi]at h2
   |some i=>
    cases hz:i.zero with
    |none=>simp[hi,hz]at h2
    |some z=>exact⟨z,by simp[zeroValue,typeInfo,hi,hz,go_sem],by simp[hz]⟩
  obtain⟨zv,pH,qG⟩:=hzero;have oN:z.cells=(an P T).zero:=by
   subst hz;unfold A4;cases hA:(an P T).agg with
   |true=>rfl
   |false=>
    rcases hU with hU|hU
    ·rw[hA]at hU;cases hU
    ·rw[hU]at hl
     match we:(an P T).zero,hl with
     |[c],_=>
      rw[we]at fj;simp only[List.all_cons,List.all_nil,Bool.and_true]at fj;simp[gk fj]
  have hlen:z.cells.length=(an P T).size:=by rw[oN,hl]
  obtain⟨ρ',h'⟩:=HR (T:=T) h hd bH (v:=zv) (x:=z) (by rw[oN,qG];simp) (fun j c hj=>by
   rw[oN]at hj;have h1:=List.all_eq_true.1 fj c (mG hj);rw[qG,gM,mS]at hj;obtain⟨u,hu,rfl⟩:=hj;rw[aG]at hu;exact⟨u,hu,.pure (mH u),(aJ.pure (w:=w) (S:=az X ρ bx w) (ρ:=ρ) (mH u)).one h1⟩)
  rw[hlen]at h';refine⟨_,_,?_,ρ',h'⟩;simp only[execOp,Instr.alloc,Sem.run_bind,pH,Result.andThen_ok,newVar,newRow,newObj,Sem.run_pure,Sem.run,World.alloc]
 ·cases hz
def I8(h:aA X ρ σ bx a w){T d s:Nat}(hd:d<X.N)(bH:X.lo<=s){z:D}(hz:yb (jb (an P T)) (sn (an P T) (zeroV P T))=some z):
 ∃v w',(execOp a.eval ⟨some d,.alloc T,ty,pos,af,g⟩).run P w= .ok (.value v) w'/\
  ∃ρ',aA X ρ' (aj σ d (.loc s ((bx s).ep+1) 0 0)) (aj bx s ⟨(bx s).ep+1,1,(an P T).size,T,[z]⟩) (a.put (some d) v) w':=by
 cases hq:jb (an P T)with
 |some z'=>rw[hq]at hz;injection hz with hz;subst hz;exact Gj h hd bH hq
 |none=>
  rw[hq]at hz;simp only[yb]at hz;split at hz
  ·rename_i hc;injection hz with hz;subst hz;obtain⟨h0,hu,i,zv,hi,pH,qG,bP⟩:=Li hc;obtain⟨ρ',h'⟩:=HR (T:=T) h hd bH (v:=zv) (x:=.agg []) (by rw[OA qG];rfl) (fun j c hj=>by simp[D.cells]at hj);rw[h0];refine⟨_,_,?_,ρ',h'⟩;have pH:(zeroValue T).run P w= .ok zv w:=by simp[zeroValue,typeInfo,hi,pH,go_sem]
   simp only[execOp,Instr.alloc,Sem.run_bind,pH,Result.andThen_ok,newVar,newRow,newObj,Sem.run_pure,Sem.run,World.alloc]
  ·cases hz
def L3(h:aA X ρ σ bx a w){T d s:Nat}(hd:d<X.N)(bH:X.lo<=s){l c:Operand}{r:Nat×TypeId×List D}(hz:u6 (an P) (an P T) (ev σ l) (ev σ c)=some r):
 ∃v w',(execOp a.eval ⟨some d,.makeSlice T l c,ty,pos,af,g⟩).run P w= .ok (.value v) w'/\
  ∃ρ',aA X ρ' (aj σ d (.bp s ((bx s).ep+1) r.1 0 r.2.2.length)) (aj bx s ⟨(bx s).ep+1,1,r.1,r.2.1,r.2.2⟩) (a.put (some d) v) w':=by
 have hl:=h.ev l;have hc:=h.ev c;generalize ev σ l=dl at hz hl;generalize ev σ c=dc at hz hc;unfold u6 at hz;split at hz
 ·rename_i el esz bytes g0 k1 n k2 m hk;split at hz
  ·rename_i sS;obtain⟨h0,vV,yO,AN,qB,bP⟩:=sS;rw[mS]at hz;obtain⟨z,hz,rfl⟩:=hz;obtain⟨hu,he,su,_⟩:=dt hk;unfold jb at hz;split at hz
   ·rename_i Wp;obtain⟨eM,lO,hU,fj⟩:=Wp;injection hz with hz;obtain⟨i,zv,hi,pH,qG⟩:=tD (P:=P) (t:=el) oM;have oN:z.cells=(an P el).zero:=by
     subst hz;unfold A4;cases hA:(an P el).agg with
     |true=>rfl
     |false=>
      rcases hU with hU|hU
      ·rw[hA]at hU;cases hU
      ·rw[hU]at lO
       match we:(an P el).zero,lO with
       |[c],_=>
        rw[we]at fj;simp only[List.all_cons,List.all_nil,Bool.and_true]at fj;simp[gk fj]
    have CL:i.bytes=bytes:=by rw[su,hi];rfl
    have tX:zv.cells.size=esz:=by
     have:(an P el).zero.length=zv.cells.size:=by rw[qG];simp
     omega
    have hmb:m<=m * bytes:=by
     have:m * 1<=m * (bytes:Int):=Int.mul_le_mul_of_nonneg_left oM oM;omega
    have hmz:0<m.toNat * esz\/m.toNat=0:=by
     rcases Nat.eq_zero_or_pos m.toNat with h|h
     ·exact .inr h
     ·exact .inl (Nat.mul_pos h AN)
    generalize qN:((Array.range (m.toNat * esz)).map ((if m.toNat * esz=0 then(#[]:Array Value)else zv.cells)[· % (if m.toNat * esz=0 then(#[]:Array Value)else zv.cells).size]!))=arr;have CY:arr.size=m.toNat * esz:=by rw[<-qN];simp
    have ez:∀i' j,i'<m.toNat->j<esz->arr[i' * esz+j]? =some (zv.cells.getD j undef):=by
     intro i' j dN hj;have ar:i' * esz+j<m.toNat * esz:=by
      have:(i'+1) * esz<=m.toNat * esz:=Nat.mul_le_mul_right _ dN;rw[Nat.add_mul]at this;omega
     rw[<-qN];simp only[Array.getElem?_map,Array.getElem?_range,ar,if_true,Option.map_some];have bw:¬m.toNat * esz=0:=oM;simp only[bw,if_false,tX];have:(i' * esz+j) % esz=j:=by rw[Nat.mul_comm,Nat.mul_add_mod,Nat.mod_eq_of_lt hj]
     rw[this,Array.getD_eq_getD_getElem?];have:zv.cells[j]? =some (zv.cells[j]'oM):=Array.getElem?_eq_getElem oM;rw[this,getElem!_pos zv.cells j oM];rfl
    have hb:=(Below.refl w.heap.size w).alloc (Nat.le_refl _) (.cells arr el);have h2:=h.own (w':=w.alloc (.cells arr el)) (t:=s) (p:=⟨w.heap.size,m.toNat,esz,el⟩) (es:=List.replicate n.toNat z) (bx1:=bx) bH (fun _=> .inl rfl) (Old:=fun _=>False) (.ue hb) (fun _ h=>h.elim) (.inl (Nat.le_refl _)) (fun S' ρ' hS hρ=>by
     refine⟨⟨arr,heap_alloc_new w _,CY,fun _ j=>zv.cells.getD j undef,fun i' y j c dN hj=>?_⟩,by simp;omega,by simp only[maxLen];omega,fun i' y dN=>?_⟩
     ·have fU:=(gS.1 dN).1;simp only[List.length_replicate]at fU;have hy:y=z:=by
       have:=mG dN;exact List.eq_of_mem_replicate this
      subst hy;rw[oN]at hj;have yU:=(gS.1 hj).1;have h1:=List.all_eq_true.1 fj c (mG hj);rw[qG,gM,mS]at hj;obtain⟨u,hu,rfl⟩:=hj;rw[aG]at hu;have dj:zv.cells.getD j undef=u:=by rw[Array.getD_eq_getD_getElem?,hu];rfl
      refine⟨ez i' j oM oM,?_,?_⟩
      ·dsimp only;rw[dj];exact .pure (mH u)
      ·dsimp only;rw[dj];exact(aJ.pure (w:=w) (S:=az X ρ bx w) (ρ:=ρ) (mH u)).one h1
     ·have hy:y=z:=List.eq_of_mem_replicate (mG dN);subst hy;rw[oN];show(an P el).zero.length=esz;omega)
    refine⟨.slice (some ⟨w.heap.size,0,none⟩) n.toNat m.toNat,_,?_,_,h2.put (dst:=some d) (fun t ht=>by injection ht with ht;subst ht;exact hd) ?_⟩
    ·have hby2:(bytes:Int) * m<=140737488355328:=by rw[Int.mul_comm];exact yO
     have hp:(2:Int) ^ 48=281474976710656:=by decide
     have sS:(decide (m<0)||decide ((bytes:Int) * m>2 ^ 48)||decide (n<0)||decide (n>m))=false:=by
      rw[hp];simp only[Bool.or_eq_false_iff,decide_eq_false_iff_not];omega
     have ha:∀k (n:Int),(asInt (.int k n)).run P w= .ok n w:=fun k n=>by simp[asInt,asIntOf]
     have pG:IntKind.i64.wrap n=n:=IntWalk.i64_in n ⟨by omega,by omega⟩;have hZ:IntKind.i64.wrap m=m:=IntWalk.i64_in m ⟨by omega,by omega⟩;have Z4:(program).run P w= .ok P w:=by simp[go_sem]
     have hzv:(zeroValue el).run P w= .ok zv w:=by simp[zeroValue,typeInfo,hi,pH,go_sem]
     simp only[execOp,Instr.makeSlice,hl.ed,hc.ed,Sem.run_bind,run_underlying hu,Sem.run_pure,Result.andThen_ok,ha,typeInfo,Z4,hi,CL,pG,hZ,sS,Bool.false_eq_true,if_false,run_askRoom,dh (P:=P) (t:=el) oM,<-he];by_cases Km:m.toNat * esz=0
     ·simp only[Km,if_true]at qN;simp only[Km,if_true,Sem.run_bind,Sem.run_pure,Result.andThen_ok,newRow,newObj,Sem.run,World.alloc];rw[<-qN]
     ·simp only[Km,if_false]at qN;simp only[Km,if_false,Sem.run_bind,Sem.run_pure,Result.andThen_ok,hzv,newRow,newObj,Sem.run,World.alloc];rw[<-qN]
    ·simp only[List.length_replicate];refine .bp (p:=⟨w.heap.size,m.toNat,esz,el⟩) ?_ rfl (fun _=>⟨rfl,rfl⟩) (fun _=>by simp) ?_ ?_
     ·simp
     ·simp;omega
     ·simp only[maxLen];omega
   ·cases hz
  ·cases hz
 ·cases hz
def LV(h:aA X ρ σ bx a w){T d s n:Nat}(hd:d<X.N)(bH:X.lo<=s){ps:Array (Nat×Operand)}{r:Nat×TypeId×List D}(hz:uZ (an P) (an P T) n (ps.toList.map fun p=>(p.1,ev σ p.2))=some r):
 ∃v w',(execOp a.eval ⟨some d,.buildSlice T n ps,ty,pos,af,g⟩).run P w= .ok (.value v) w'/\
  ∃ρ',aA X ρ' (aj σ d (.bp s ((bx s).ep+1) r.1 0 r.2.2.length)) (aj bx s ⟨(bx s).ep+1,1,r.1,r.2.1,r.2.2⟩) (a.put (some d) v) w':=by
 unfold uZ at hz;split at hz
 ·rename_i e esz b ag hk;split at hz
  ·rename_i hc;obtain⟨hm,ha,eM,wX,lO⟩:=hc;injection hz with hz;subst hz;obtain⟨hu,gq,_,_⟩:=dt hk;generalize J6:(ps.toList.map fun p=>(p.1,ev σ p.2))=nc at hm ha;have hlen:nc.length=n:=by have:=congrArg List.length hm;simpa using this
   obtain⟨fi,bQ,fw⟩:=Kw (ag:=ag) h hu gq J6 hm ha eM wX lO;have er:∀x∈nc.map (·.2),x.cells.length=esz/\x.cells.all D.one=true:=by
    intro x hx;obtain⟨p,hp,rfl⟩:=List.mem_map.1 hx;have:=List.all_eq_true.1 ha p hp;simp only[bA,beq_iff_eq]at this;exact this
   have jx:∀(i:Nat) d (j:Nat) c,(nc.map (·.2))[i]? =some d->d.cells[j]? =some c->∃u,fi[i * esz+j]? =some u/\aJ w (az X ρ bx w) ρ c u:=by
    intro i d j c hi hj;have hd:=er d (mG hi);have pE:j<esz:=by have:=(gS.1 hj).1;omega
    have hf:=Bs (sz:=esz) (nc.map (·.2)) i j d (fun x hx=>(er x hx).1) hi pE;rw[hj]at hf;have ar:=(gS.1 hf).1;have Bu:i * esz+j<fi.size:=by rw[fw.1];exact ar
    have gu:fi[i * esz+j]? =some fi[i * esz+j]:=Array.getElem?_eq_getElem Bu;exact⟨_,gu,fw.2 _ _ _ hf gu⟩
   have dj:∀(i:Nat) d (j:Nat) c,(nc.map (·.2))[i]? =some d->d.cells[j]? =some c->fi[i * esz+j]? =some (fi.getD (i * esz+j) undef)/\aJ w (az X ρ bx w) ρ c (fi.getD (i * esz+j) undef):=by
    intro i d j c hi hj;obtain⟨u,gu,hr⟩:=jx i d j c hi hj;have:fi.getD (i * esz+j) undef=u:=by rw[Array.getD_eq_getD_getElem?,gu];rfl
    rw[this];exact⟨gu,hr⟩
   have CY:fi.size=n * esz:=by
    rw[fw.1,GU (nc.map (·.2)) (fun x hx=>(er x hx).1)];simp[hlen]
   have hb:=(Below.refl w.heap.size w).alloc (Nat.le_refl _) (.cells fi e);have hmn:n<=n * esz:=Nat.le_mul_of_pos_right n eM;have h2:=h.own (w':=w.alloc (.cells fi e)) (t:=s) (p:=⟨w.heap.size,n,esz,e⟩) (es:=nc.map (·.2)) (bx1:=bx) bH (fun _=> .inl rfl) (Old:=fun _=>False) (.ue hb) (fun _ h=>h.elim) (.inl (Nat.le_refl _)) (fun S' ρ' hS hρ=>by
    refine⟨⟨fi,heap_alloc_new w _,CY,fun i j=>fi.getD (i * esz+j) undef,fun i' y j c dN hj=>?_⟩,by simp;omega,by simp only[maxLen];omega,fun i' y dN=>?_⟩
    ·obtain⟨g1,g2⟩:=dj i' y j c dN hj;have h1:=List.all_eq_true.1 (er y (mG dN)).2 c (mG hj);exact⟨g1,(g2.mono (fun b eo=>hb.block b eo.1) (fun b eo=>hS b eo) hρ),g2.one h1⟩
    ·exact(er y (mG dN)).1)
   refine⟨.slice (some ⟨w.heap.size,0,none⟩) n n,_,?_,_,h2.put (dst:=some d) (fun t ht=>by injection ht with ht;subst ht;exact hd) ?_⟩
   ·simp only[execOp,Sem.run_bind,bQ,Result.andThen_ok,Sem.run_pure]
   ·simp only[List.length_map,hlen];refine .bp (p:=⟨w.heap.size,n,esz,e⟩) ?_ rfl (fun _=>⟨rfl,rfl⟩) (fun _=>by simp) ?_ ?_
    ·simp
    ·simp
    ·simp only[maxLen];omega
  ·cases hz
 ·cases hz
def M5(h:aA X ρ σ bx a w){T d s:Nat}(hd:d<X.N)(bH:X.lo<=s){x:Operand}{z:D}(hz:yo (an P T) (ev σ x)=some z):
 ∃v w',(execOp a.eval ⟨some d,.box T x,ty,pos,af,g⟩).run P w= .ok (.value v) w'/\
  ∃ρ',aA X ρ' (aj σ d (.loc s ((bx s).ep+1) 0 0)) (aj bx s ⟨(bx s).ep+1,1,(an P T).size,T,[z]⟩) (a.put (some d) v) w':=by
 have hx:=h.ev x;generalize ev σ x=dx at hz hx;unfold yo at hz;split at hz
 ·rename_i hc;obtain⟨eM,hl,fj⟩:=hc;injection hz with hz;subst hz;obtain⟨hs,jn⟩:=hx.cells fj;obtain⟨ρ',h'⟩:=HR (T:=T) h hd bH (v:=a.eval x) (x:=dx) hs jn;rw[hl]at h';refine⟨_,_,?_,ρ',h'⟩;simp only[execOp,Instr.box,Sem.run_bind,Result.andThen_ok,newVar,newRow,newObj,Sem.run_pure,Sem.run,World.alloc]
 ·cases hz
def Rm{d d':D}{j:Nat}{cs:List D}(h:fl d j cs=some d')(fj:cs.all D.one=true):d'.cells.length=d.cells.length/\j+cs.length<=d.cells.length/\∀(k:Nat) c,d'.cells[k]? =some c->(j<=k/\k<j+cs.length/\cs[k - j]? =some c)\/((k<j\/j+cs.length<=k)/\d.cells[k]? =some c):=by
 unfold fl at h;split at h
 ·rename_i hle;cases d with
  |agg ds=>
   simp only[sJ]at h;subst h;simp only[D.cells]at hle⊢;refine⟨by simp;omega,hle,fun k c hk=>?_⟩;by_cases h1:k<j
   ·rw[List.append_assoc,List.getElem?_append_left (by simp;omega),List.getElem?_take_of_lt h1]at hk;exact .inr ⟨.inl h1,hk⟩
   ·have hl:(ds.take j).length=j:=by simp;omega
    by_cases h2:k<j+cs.length
    ·rw[List.append_assoc,List.getElem?_append_right oM,hl,List.getElem?_append_left oM]at hk;exact .inl ⟨by omega,h2,hk⟩
    ·have kO:(ds.take j++cs).length=j+cs.length:=by simp;omega
     rw[List.getElem?_append_right oM,kO,List.getElem?_drop]at hk;have:j+cs.length+(k - (j+cs.length))=k:=oM;rw[this]at hk;exact .inr ⟨.inr oM,hk⟩
  |_=>
   all_goals
    match cs,h with
    |[c],h=>
     simp only[sJ]at h;subst h;simp only[List.all_cons,List.all_nil,Bool.and_true]at fj;rw[gk fj];simp only[D.cells,List.length_cons,List.length_nil]at hle⊢;refine⟨by simp,hle,fun k c' hk=>?_⟩;obtain rfl:j=0:=oM;have kN:k=0:=by have:=(gS.1 hk).1;simp at this;exact this
     subst kN;exact .inl ⟨Nat.le_refl _,by omega,hk⟩
 ·cases h
def putRow(cur:Array Value)(o:Nat)(vs:Array Value):Array Value:=
 (cur.toList.take o++vs.toList++cur.toList.drop (o+vs.size)).toArray
def Jr{cur vs:Array Value}{o:Nat}(h:o+vs.size<=cur.size):(putRow cur o vs).size=cur.size:=by
 unfold putRow;simp only[List.size_toArray,List.length_append,List.length_take,List.length_drop,Array.length_toList];omega
def Mf{cur vs:Array Value}{o:Nat}(h:o+vs.size<=cur.size)(k:Nat):(putRow cur o vs)[k]? =if o<=k/\k<o+vs.size then vs[k - o]? else cur[k]?:=by
 unfold putRow;rw[List.getElem?_toArray];have yV:(cur.toList.take o).length=o:=by simp only[List.length_take,Array.length_toList];omega
 by_cases h1:k<o
 ·rw[if_neg oM,List.append_assoc,List.getElem?_append_left oM,List.getElem?_take_of_lt h1,aG]
 ·by_cases h2:k<o+vs.size
  ·rw[if_pos oM,List.append_assoc,List.getElem?_append_right oM,yV,List.getElem?_append_left (by simp only[Array.length_toList];omega),aG]
  ·have kO:(cur.toList.take o++vs.toList).length=o+vs.size:=by simp only[List.length_append,yV,Array.length_toList]
   rw[if_neg oM,List.getElem?_append_right oM,kO,List.getElem?_drop,aG]
   congr 1
   omega
def E8{S:Nat->Prop}{p:Place}{es:List D}{i j:Nat}{d0 d' dy:D}{v:Value}
 (hh:Holds w S ρ p es) (hS:∀b,S b->b≠p.b) (hi:es[i]? =some d0) (gI:fl d0 j dy.cells=some d') (fj:dy.cells.all D.one=true) (hy:aJ w S ρ dy v):
 ∃cur,w.heap[p.b]? =some (.cells cur p.ty)/\i * p.sz+j+v.cells.size<=cur.size/\(∀u∈v.cells.toList,u.oneCell'=true)/\
  Holds (w.setRow p.b (putRow cur (i * p.sz+j) v.cells)) S ρ p (es.set i d'):=by
 obtain⟨⟨cur,gm,eW,us,gB⟩,rK,xZ,bP⟩:=hh;obtain⟨hs,jn⟩:=hy.cells fj;obtain⟨hlen,jM,ez⟩:=Rm gI fj;have ni:=bP i d0 hi;have hilt:=(gS.1 hi).1;have hmul:i * p.sz+p.sz<=cur.size:=by rw[eW,<-Nat.succ_mul];exact Nat.mul_le_mul_right _ oM
 have jy:i * p.sz+j+v.cells.size<=cur.size:=oM;refine⟨cur,gm,jy,fun u hu=>?_,?_⟩
 ·obtain⟨k,iL,bR⟩:=List.mem_iff_getElem.1 hu;have tS:k<dy.cells.length:=by rw[<-hs];simpa using iL
  obtain⟨u',gu,_,h1⟩:=jn k _ (gE tS);have:u=u':=by
   have h3:v.cells.toList[k]? =some u:=by rw[gE iL,bR]
   rw[aG,gu]at h3;injection h3 with h3;exact h3.symm
  rw[this];exact h1
 ·have Oa:=Jr jy;have Am:=Mf jy;generalize putRow cur (i * p.sz+j) v.cells=new at Oa Am⊢;have lG:∀c u,aJ w S ρ c u->aJ (w.setRow p.b new) S ρ c u:=fun c u hr=>hr.mono (fun b eo=>setRow_other w p.b b new (hS b eo)) (fun _ h=>h) (fun _ _ _ h=>h);have fin:∀c q u,new[q]? =some u->aJ w S ρ c u->u.oneCell'=true->new[q]? =some (new.getD q undef)/\aJ (w.setRow p.b new) S ρ c (new.getD q undef)/\(new.getD q undef).oneCell'=true:=by
   intro c q u hu hr h1;have:new.getD q undef=u:=by rw[Array.getD_eq_getD_getElem?,hu];rfl
   rw[this];exact⟨hu,lG _ _ hr,h1⟩
  refine⟨⟨new,setRow_heap w p.b cur new p.ty (0,0) gm,by rw[Oa,eW],fun i' k=>new.getD (i' * p.sz+k) undef,fun i' d k c dN cW=>?_⟩,by simpa using rK,xZ,fun i' d dN=>?_⟩
  ·by_cases J_:i'=i
   ·subst J_;rw[List.getElem?_set_self oM]at dN;injection dN with dN;subst dN;rcases ez k c cW with⟨k1,k2,k3⟩|⟨k1,k3⟩
    ·obtain⟨u,hu,hr,h1⟩:=jn _ _ k3;refine fin _ _ u ?_ hr h1;rw[Am,if_pos oM];have:i' * p.sz+k - (i' * p.sz+j)=k - j:=oM;rw[this];exact hu
    ·obtain⟨u1,u2,u3⟩:=gB i' d0 k c hi k3;refine fin _ _ _ ?_ u2 u3;rw[Am,if_neg oM];exact u1
   ·rw[List.getElem?_set_ne (Ne.symm J_)]at dN;have hkz:k<p.sz:=by have:=(gS.1 cW).1;rw[bP i' d dN]at this;exact this
    obtain⟨u1,u2,u3⟩:=gB i' d k c dN cW;refine fin _ _ _ ?_ u2 u3;rw[Am,if_neg ?_]
    ·exact u1
    ·rcases Nat.lt_or_gt_of_ne J_ with ar|Wz
     ·have:=Nat.mul_le_mul_right p.sz (show i'+1<=i from ar);rw[Nat.succ_mul]at this;omega
     ·have:=Nat.mul_le_mul_right p.sz (show i+1<=i' from Wz);rw[Nat.succ_mul]at this;omega
  ·by_cases J_:i'=i
   ·subst J_;rw[List.getElem?_set_self oM]at dN;injection dN with dN;subst dN;rw[hlen,ni]
   ·rw[List.getElem?_set_ne (Ne.symm J_)]at dN;exact bP i' d dN
def IU(h:aA X ρ σ bx a w){T:Nat}{x y:Operand}{dst:Option Tmp}(cw:∀t,dst=some t->t<X.N){lo:Nat}(bH:X.lo<=lo){bx':ae}(hv:gF lo (an P T) bx (ev σ x) (ev σ y)=some bx'):
 ∃w',(execOp a.eval ⟨dst,.store T x y,ty,pos,af,g⟩).run P w= .ok .skip w'/\∃ρ',aA X ρ' (put σ dst (.raw undef)) bx' (a.put dst undef) w':=by
 have hx:=h.ev x;have hy:=h.ev y;generalize ev σ x=dx at hv hx;generalize ev σ y=dy at hv hy;unfold gF at hv;split at hv
 ·rename_i t e i j;split at hv
  ·rename_i hc;obtain⟨ar,hl,eM,fj⟩:=hc;unfold wI at hv;split at hv
   ·rename_i hk;obtain⟨he,hk⟩:=hk;cases hi:(bx t).es[i]? with
    |none=>simp[hi]at hv
    |some d0=>
     simp only[hi,mS]at hv;obtain⟨d',gI,rfl⟩:=hv;obtain⟨p,hp,fc⟩:=hx.lP;obtain⟨p',bL,kf,vY,gN,hh⟩:=h.box t (by rw[hk];decide);rw[he,hp]at bL;injection bL with bL;subst bL;have Fa:ρ t (bx t).ep=some p:=by rw[he];exact hp
     obtain⟨cur,gm,jy,eH,J9⟩:=E8 hh (fun b hb e=>hb.2.2 t hk p Fa e.symm) hi gI fj hy;obtain⟨hs,_⟩:=hy.cells fj;have bz:=run_storeCells_at P p.b (i * p.sz+j) p.ty (a.eval y).cells.toList 0 cur w gm (by simpa using jy) eH;simp only[Nat.add_zero,Array.length_toList]at bz;have yT:Fr (fun b=>b=p.b) w (w.setRow p.b (putRow cur (i * p.sz+j) (a.eval y).cells)):=⟨rfl,rfl,rfl,by simp[World.setRow],fun k _ hk=>setRow_other w p.b k _ hk⟩
     refine⟨w.setRow p.b (putRow cur (i * p.sz+j) (a.eval y).cells),?_,ρ,((h.stored (Nat.le_trans bH ar) hk Fa yT J9).put cw (.pure (.raw _)))⟩;have n7:=dh (P:=P) (t:=T) eM w;have ae2:(an P T).size=cK P T:=rfl;have bw:¬((a.eval y).cells.size≠cK P T):=by rw[hs,hl,ae2];simp
     simp only[execOp,Instr.storeAt,Instr.sureAddr,fc,Sem.run_bind,Sem.run_pure,Result.andThen_ok,storeVar,n7,bw,if_false];rw[bz];simp only[Result.andThen_ok,putRow]
   ·cases hv
  ·cases hv
 ·cases hv
theorem JB(h:aA X ρ σ bx a w){T:Nat}{x y:Operand}{dst:Option Tmp}(cw:∀t,dst=some t->t<X.N){lo:Nat}(bH:X.lo<=lo){bx':ae}(hv:wm (gF lo (an P T) bx (ev σ x) (ev σ y)) (sn (an P T) (zeroV P T)) bx (ev σ x) (ev σ y)=some bx'):
 ∃w',(execOp a.eval ⟨dst,.store T x y,ty,pos,af,g⟩).run P w= .ok .skip w'/\∃ρ',aA X ρ' (put σ dst (.raw undef)) bx' (a.put dst undef) w':=by
 cases hq:gF lo (an P T) bx (ev σ x) (ev σ y)with
 |some z'=>rw[hq]at hv;injection hv with hv;subst hv;exact IU h cw bH hq
 |none=>
  rw[hq]at hv;have hx:=h.ev x;have hy:=h.ev y;generalize ev σ x=dx at hv hx;generalize ev σ y=dy at hv hy;simp only[wm]at hv;split at hv
  ·split at hv
   ·rename_i hc;injection hv with hv;subst hv;obtain⟨h0,hu,i,zv,hi,pH,qG,bP⟩:=Li hc.1;obtain⟨p,hp,fc⟩:=hx.lP;obtain⟨hs,_⟩:=hy.cells (by rw[hc.2];rfl);have he:(a.eval y).cells= #[]:=Array.eq_empty_of_size_eq_zero (by rw[hs,hc.2];rfl);refine⟨w,?_,ρ,h.put cw (.pure (.raw _))⟩;have WX:(sizeOf T).run P w= .ok 0 w:=by simp[sizeOf,typeInfo,hi,bP,go_sem]
    have bw:¬((a.eval y).cells.size≠0):=by rw[he];simp
    simp only[execOp,Instr.storeAt,Instr.sureAddr,fc,Sem.run_bind,Sem.run_pure,Result.andThen_ok,storeVar,WX,bw,if_false];rw[he];simp[storeCells,go_sem]
   ·cases hv
  ·cases hv
end Go.V
namespace Go.V
open Go.RowKit
variable {P:Program} {X:Ctx} {ρ:cQ} {σ:Env} {bx:ae} {a:Act} {w:World}
variable {ty:TypeId} {pos:String} {af:Array Edge} {g:Option (Nat×Bool)}
theorem aJ.pJ{S:Nat->Prop}{t e sz o n:Nat}{v:Value}(h:aJ w S ρ (.bp t e sz o n) v):∃p off cap,ρ t e=some p/\p.sz=sz/\(o=0->off=0/\cap=p.cap)/\(0<n->off=o * sz)/\n<=cap/\o+cap<=p.cap/\p.cap<=maxLen/\
 v= .slice (some ⟨p.b,off,none⟩) n cap:=by
 cases h with
 |pure h=>cases h
 |bp hp bP h0 dY hn dK=>exact⟨_,_,_,hp,bP,h0,fun h=>dY oM,hn,dK.1,dK.2,rfl⟩
theorem aJ.D9{S:Nat->Prop}{t e i j n:Nat}{v:Value}(h:aJ w S ρ (.fJ t e i j n) v):∃p off cap,ρ t e=some p/\(0<n->off=i * p.sz+j)/\n<=cap/\cap<=65536/\v= .slice (some ⟨p.b,off,none⟩) n cap:=by
 cases h with
 |pure h=>cases h
 |fJ hp dY hn dK=>exact⟨_,_,_,hp,fun h=>dY oM,hn,dK,rfl⟩
def oL(h:aA X ρ σ bx a w){esz:Nat}{x:D}{v:Value}(hx:aJ w (az X ρ bx w) ρ x v){ys:List D}(he:gT bx esz x=some ys):
 ∃A c b off,∃us:Nat->Nat->Value,v= .slice A ys.length c/\(ys≠[]->A=some ⟨b,off,none⟩)/\(∀(i:Nat) d,ys[i]? =some d->d.cells.length=esz)/\
  ∀(i:Nat) d (j:Nat) c,ys[i]? =some d->d.cells[j]? =some c->w.cell? ⟨b,off+i * esz+j,none⟩=some (us i j)/\aJ w (az X ρ bx w) ρ c (us i j)/\(us i j).oneCell'=true:=by
 unfold gT at he;split at he
 ·injection he with he;subst he;exact⟨none,0,0,0,fun _ _=>undef,hx.gi,by simp,by simp,by simp⟩
 ·rename_i sz es;split at he
  ·rename_i hs;injection he with he;subst he;subst hs;cases hx with
   |pure hx=>
    cases hx with
    |@sl _ _ A n cap b off us hn dK jd hA bP hc h1 hr=>
     subst hn;exact⟨A,cap,b,off,us,rfl,fun bw=>(hA bw).1,bP,fun i d j c hi hj=>⟨hc i d j c hi hj,.pure (hr i d j c hi hj),h1 i d j c hi hj⟩⟩
  ·cases he
 ·rename_i t e sz o n;split at he
  ·rename_i hs;obtain⟨hs,J7,hk,hbs,hle⟩:=hs;injection he with he;subst hs;obtain⟨p,off,cap,hp,kf,h0,dY,hn,Ob,jd,rfl⟩:=hx.pJ;obtain⟨p',bL,D7,vY,gN,hh⟩:=h.box t hk;rw[J7,hp]at bL;injection bL with bL;subst bL;have hl:ys.length=n:=by rw[<-he];simp;omega
   have ez:∀(i:Nat) d,ys[i]? =some d->(bx t).es[o+i]? =some d/\0<n:=by
    intro i d hi;have dN:=(gS.1 hi).1;rw[<-he,List.getElem?_take_of_lt oM,List.getElem?_drop]at hi;exact⟨hi,by omega⟩
   obtain⟨⟨cur,gm,eW,us,gB⟩,rK,xZ,bP⟩:=hh;refine⟨_,_,p.b,off,fun i j=>us (o+i) j,by rw[hl],fun _=>rfl,fun i d hi=>(bP _ d (ez i d hi).1).trans kf,fun i d j c hi hj=>?_⟩;obtain⟨h1,h2⟩:=ez i d hi;obtain⟨u1,u2,u3⟩:=gB (o+i) d j c h1 hj;refine⟨?_,u2,u3⟩;have:off+i * sz+j=(o+i) * p.sz+j:=by rw[dY h2,Nat.add_mul,kf]
   rw[this];simp[World.cell?,gm,u1]
  ·cases he
 ·rename_i sz es;split at he
  ·rename_i hs;injection he with he;subst he;subst hs;have hx:=(hx.fC rfl).rT;cases hx with
   |@sl _ _ A n cap b off us hn dK jd hA bP hc h1 hr=>
    subst hn;exact⟨A,cap,b,off,us,rfl,fun bw=>(hA bw).1,bP,fun i d j c hi hj=>⟨hc i d j c hi hj,.pure (hr i d j c hi hj),h1 i d j c hi hj⟩⟩
  ·cases he
 ·rename_i t e i j n;split at he
  ·rename_i hs;obtain⟨hs,J7,hk⟩:=hs;subst hs;split at he
   ·rename_i d0 ni;split at he
    ·rename_i ke;obtain⟨hle,ea⟩:=ke;injection he with he;obtain⟨p,off,cap,hp,dY,hn,dK,rfl⟩:=hx.D9;obtain⟨p',bL,D7,vY,gN,hh⟩:=h.box t hk;rw[J7,hp]at bL;injection bL with bL;subst bL;have hl:ys.length=n:=by rw[<-he];simp;omega
     have ez:∀(m:Nat) d,ys[m]? =some d->d0.cells[j+m]? =some d/\0<n/\d.cells=[d]:=by
      intro m d hm;have tT:=(gS.1 hm).1;have fj:d.one=true:=List.all_eq_true.1 ea d (by rw[he];exact mG hm);rw[<-he,List.getElem?_take_of_lt oM,List.getElem?_drop]at hm;exact⟨hm,by omega,gk fj⟩
     obtain⟨⟨cur,gm,eW,us,gB⟩,rK,xZ,bP⟩:=hh;refine⟨_,_,p.b,off,fun m _=>us i (j+m),by rw[hl],fun _=>rfl,fun m d hm=>by rw[(ez m d hm).2.2];rfl,fun m d k c hm cW=>?_⟩;obtain⟨g1,g2,g3⟩:=ez m d hm;rw[g3]at cW;obtain rfl:k=0:=by
      rcases k with _|k
      ·rfl
      ·simp at cW
     simp only[List.getElem?_cons_zero,sJ]at cW;subst cW;obtain⟨u1,u2,u3⟩:=gB i d0 (j+m) d ni g1;refine⟨?_,u2,u3⟩;rw[dY g2,show i * p.sz+j+m * 1+0=i * p.sz+(j+m) by omega];simp[World.cell?,gm,u1]
    ·cases he
   ·cases he
  ·cases he
 ·cases he
def rowOf(us:Nat->Nat->Value)(m sz:Nat):List Value:=(List.range (m * sz)).map fun k=>us (k / sz) (k % sz)
def iP(us:Nat->Nat->Value)(m sz:Nat):(rowOf us m sz).length=m * sz:=by simp[rowOf]
def rW{us:Nat->Nat->Value}{m sz i j:Nat}(hi:i<m)(hj:j<sz):(rowOf us m sz)[i * sz+j]? =some (us i j):=by
 have ar:i * sz+j<m * sz:=by
  have:=Nat.mul_le_mul_right sz (show i+1<=m from hi);rw[Nat.succ_mul]at this;omega
 unfold rowOf;rw[gM,List.getElem?_range ar,Option.map_some]
 congr 2
 ·rw[Nat.add_comm,Nat.add_mul_div_right _ _ oM,Nat.div_eq_of_lt hj,Nat.zero_add]
 ·rw[Nat.add_comm,Nat.add_mul_mod_self_right,Nat.mod_eq_of_lt hj]
def kZ{us:Nat->Nat->Value}{m sz k:Nat}{u:Value}(h:(rowOf us m sz)[k]? =some u):∃i j,i<m/\j<sz/\k=i * sz+j/\u=us i j:=by
 have hk:k<m * sz:=by have:=(gS.1 h).1;rw[iP]at this;exact this
 have hz:0<sz:=by
  rcases Nat.eq_zero_or_pos sz with h0|h0
  ·subst h0;simp at hk
  ·exact h0
 have Hf:k / sz * sz+k % sz=k:=Nat.div_add_mod' k sz;have hi:k / sz<m:=Nat.div_lt_of_lt_mul (by rw[Nat.mul_comm];exact hk);have hj:=Nat.mod_lt k hz;refine⟨k / sz,k % sz,hi,hj,Hf.symm,?_⟩;have:=rW (us:=us) hi hj;rw[Hf,h]at this;injection this
def AB(h:aA X ρ σ bx a w){T d sl el esz bytes n:Nat}{ag:Bool}(hd:d<X.N)(bH:X.lo<=sl)(hk:(an P T).k= .slice el esz bytes ag)(AN:esz≠0)(hz:(an P el).zero.length=esz)
 {vx vy:Value} {xs:List Value} {xs0 ys:List D} {us0:Nat->Nat->Value} (mL:w.ownsRow 0 el esz vx n xs) (lA:xs0.length=n)
 (Kk:∀(i:Nat) d,xs0[i]? =some d->d.cells.length=esz)
 (jJ:∀(i:Nat) d (j:Nat) c,xs0[i]? =some d->d.cells[j]? =some c->xs[i * esz+j]? =some (us0 i j)/\aJ w (az X ρ bx w) ρ c (us0 i j)/\(us0 i j).oneCell'=true)
 {c b off:Nat} {us:Nat->Nat->Value} (bw:ys≠[]) (x9:vy= .slice (some ⟨b,off,none⟩) ys.length c) (lN:∀(i:Nat) d,ys[i]? =some d->d.cells.length=esz)
 (iq:∀(i:Nat) d (j:Nat) c,ys[i]? =some d->d.cells[j]? =some c->w.cell? ⟨b,off+i * esz+j,none⟩=some (us i j)/\aJ w (az X ρ bx w) ρ c (us i j)/\(us i j).oneCell'=true)
 (yO:(n+ys.length) * bytes<=140737488355328) (qB:0<bytes) {bx1:ae} (h1:∀s,bx1 s=bx s\/((bx1 s).k=0/\(bx1 s).ep=(bx s).ep/\X.lo<=s))
 (hO:∀b,some b=vx.ownBlock->∃t0 p0,(bx t0).k=1/\ρ t0 (bx t0).ep=some p0/\p0.b=b/\(t0=sl\/(bx1 t0).k=0)):
 ∃v w',(Builtin.append_ #[T,T] ty #[vx,vy]).run P w= .ok v w'/\
  ∃ρ',aA X ρ' (aj σ d (.bp sl ((bx sl).ep+1) esz 0 (n+ys.length))) (aj bx1 sl ⟨(bx sl).ep+1,1,esz,el,xs0++ys⟩) (a.put (some d) v) w':=by
 obtain⟨hu,he,su,_⟩:=dt hk;obtain⟨i,z,hi,we,A0⟩:=tD (P:=P) (t:=el) oM;have bP:i.size=esz:=by
  obtain⟨i',_,dN,_,eb⟩:=lT (P:=P) (t:=el) oM;rw[hi]at dN;injection dN with dN;rw[dN,eb,he]
 have CL:i.bytes=bytes:=by rw[su,hi];rfl
 have tX:z.cells.size=esz:=by rw[<-hz,A0];simp
 have rL:(n+ys.length)<=maxLen:=by
  have:=Nat.le_mul_of_pos_right (n+ys.length) qB;simp only[maxLen];omega
 have WE:0<ys.length:=List.length_pos_iff.2 bw;have jx:∀i j,i<ys.length->j<esz->w.cell? ⟨b,off+i * esz+j,none⟩=some (us i j)/\(us i j).oneCell'=true:=by
  intro i j hi hj;have hd:=gE hi;have hc:=gE (show j<ys[i].cells.length by rw[lN i _ hd];exact hj);exact⟨(iq i _ j _ hd hc).1,(iq i _ j _ hd hc).2.2⟩
 obtain⟨v',w',hr,w6,vR,WI,QC⟩:=run_append_own_at (P:=P) w 0 T ty el i z esz bytes hu hi we bP CL tX oM vx n xs mL ⟨b,off,none⟩ ys.length c (rowOf us ys.length esz) (iP _ _ _)
  (fun j u hj=>by
   obtain⟨k,l,hk,hl,rfl,rfl⟩:=kZ hj;rw[Addr.ei];have:=(jx k l hk hl).1;rw[<-Nat.add_assoc];exact this)
  (fun u hu=>by
   obtain⟨j,hj⟩:=List.mem_iff_getElem?.1 hu;obtain⟨k,l,hk,hl,rfl,rfl⟩:=kZ hj;exact(jx k l hk hl).2) rL yO (Nat.zero_le _)
 subst x9;obtain⟨hlen,w6⟩:=w6;rcases w6 with⟨_,w6⟩|⟨gg,cap,cur,rfl,_,Wy,AU,pZ,eW,CZ⟩
 ·omega
 have hold:w.heap.size<=gg\/some gg=vx.ownBlock:=by
  rcases QC with hb|hb
  ·exact .inr hb
  ·simp only[Value.ownBlock,sJ]at hb;exact .inl oM
 have hw:∀b,az X ρ bx w b->w'.heap[b]? =w.heap[b]?:=fun b hb=>vR.block b hb.1 (fun e=>by
  obtain⟨t0,p0,kN,oz,E_,_⟩:=hO b e;exact hb.2.2 t0 kN p0 oz E_)
 have fS:∀(k:Nat) (u:Value),(xs++rowOf us ys.length esz)[k]? =some u->cur[k]? =some u:=by
  intro k u hk;rw[<-CZ]at hk;have ar:=(gS.1 hk).1;rw[List.length_take]at ar;rw[List.getElem?_take_of_lt oM,aG]at hk;exact hk
 have h2:=h.own (w':=w') (t:=sl) (p:=⟨gg,cap,esz,el⟩) (es:=xs0++ys) (bx1:=bx1) bH h1 (Old:=fun b=>some b=vx.ownBlock) (.HZ vR) hO hold (fun S' ρ' hS hρ=>by
  have lG:∀c u,aJ w (az X ρ bx w) ρ c u->aJ w' S' ρ' c u:=fun c u hr=>hr.mono hw hS hρ;refine⟨⟨cur,Wy,eW,fun i j=>if i<n then us0 i j else us (i - n) j,fun i y j c hi hj=>?_⟩,by simp[lA,AU],pZ,fun i y hi=>?_⟩
  ·dsimp only;by_cases kM:i<n
   ·rw[List.getElem?_append_left oM]at hi;obtain⟨u1,u2,u3⟩:=jJ i y j c hi hj;simp only[kM,if_true];refine⟨fS _ _ ?_,lG _ _ u2,u3⟩;rw[List.getElem?_append_left ((gS.1 u1).1)];exact u1
   ·rw[List.getElem?_append_right oM,lA]at hi;obtain⟨u1,u2,u3⟩:=iq (i - n) y j c hi hj;simp only[kM,if_false];refine⟨fS _ _ ?_,lG _ _ u2,u3⟩;have AQ:j<esz:=by have:=(gS.1 hj).1;rw[lN _ y hi]at this;exact this
    have jG:=(gS.1 hi).1;have HC:xs.length=n * esz:=mL.1;have e1:i * esz+j=n * esz+((i - n) * esz+j):=by
     have:i=n+(i - n):=oM
     conv=>lhs;rw[this,Nat.add_mul]
     omega
    rw[List.getElem?_append_right (by rw[HC,e1];omega),HC,e1,Nat.add_sub_cancel_left];exact rW jG AQ
  ·by_cases kM:i<n
   ·rw[List.getElem?_append_left oM]at hi;exact Kk i y hi
   ·rw[List.getElem?_append_right oM]at hi;exact lN _ y hi)
 refine⟨_,_,hr,_,h2.put (dst:=some d) (fun t ht=>by injection ht with ht;subst ht;exact hd) (.bp (p:=⟨gg,cap,esz,el⟩) ?_ rfl (fun _=>⟨rfl,rfl⟩) (fun _=>by simp) AU ⟨by simp,pZ⟩)⟩;simp
end Go.V
namespace Go.V
open Go.RowKit
variable {P:Program} {X:Ctx} {ρ:cQ} {σ:Env} {bx:ae} {a:Act} {w:World}
variable {ty:TypeId} {pos:String} {af:Array Edge} {g:Option (Nat×Bool)}
def yj(t tx ty e:TypeId)(i:TypeInfo)(ht:P.underlying t=some (.slice e))(hi:P.info? e=some i)
 (gg off pw BU:Nat) (cur:Array Value) (hg:w.heap[gg]? =some (.cells cur e (0,0)))
 (x:Value) (m:Nat) (news:List Value) (hs:Src P i.size tx x m news w)
 (jy:pw+m<=BU) (jM:off+pw * i.size+news.length<=cur.size):
 (Builtin.append_ #[t,tx] ty #[.slice (some ⟨gg,off,none⟩) pw BU,x]).run P w=
  .ok (.slice (some ⟨gg,off,none⟩) (pw+m) BU) (w.setRow gg (cur.toList.take (off+pw * i.size)++news++cur.toList.drop (off+pw * i.size+news.length)).toArray):=by
 have bz:=run_storeCells_at P gg (off+pw * i.size) e news 0 cur w hg (by simpa using jM) hs.one;simp only[Nat.add_zero]at bz;rcases hs.kind with⟨e',hk⟩|hk<;>simp[Builtin.append_,run_underlying ht,run_underlying hk,sizeOf,typeInfo,hi,hs.len,jy,hs.cells,Addr.add_lit,bz]
theorem aJ.QS{S:Nat->Prop}{t e sz o n:Nat}{v:Value}(h:aJ w S ρ (.bp t e sz o n) v):∃p off cap,ρ t e=some p/\p.sz=sz/\(o=0->off=0/\cap=p.cap)/\(0<cap->off=o * sz)/\n<=cap/\o+cap<=p.cap/\p.cap<=maxLen/\
 v= .slice (some ⟨p.b,off,none⟩) n cap:=by
 cases h with
 |pure h=>cases h
 |bp hp bP h0 dY hn dK=>exact⟨_,_,_,hp,bP,h0,dY,hn,dK.1,dK.2,rfl⟩
def uN(h:aA X ρ σ bx a w){T T' d sl el esz bytes n cap:Nat}{ag:Bool}(hd:d<X.N)(bH:X.lo<=sl)(hk:(an P T).k= .slice el esz bytes ag)(AN:esz≠0)(hz:(an P el).zero.length=esz)
 {base:Option Addr} {vy:Value} {xs0 ys:List D} {us gv:Nat->Nat->Value} (lA:xs0.length=n) (dK:cap<n+ys.length) (Kk:∀(i:Nat) d,xs0[i]? =some d->d.cells.length=esz)
 (jJ:∀(i:Nat) d (j:Nat) c,xs0[i]? =some d->d.cells[j]? =some c->aJ w (az X ρ bx w) ρ c (us i j)/\(us i j).oneCell'=true)
 (hold:(Builtin.firstCells esz n (.slice base n cap)).run P w.drew= .ok (rowOf us n esz).toArray w.drew) (bw:ys≠[]) (qQ:Src P esz T' vy ys.length (rowOf gv ys.length esz) w) (lN:∀(i:Nat) d,ys[i]? =some d->d.cells.length=esz)
 (iq:∀(i:Nat) d (j:Nat) c,ys[i]? =some d->d.cells[j]? =some c->aJ w (az X ρ bx w) ρ c (gv i j)/\(gv i j).oneCell'=true)
 (yO:(n+ys.length) * bytes<=140737488355328) (qB:0<bytes) {bx1:ae} (uO:∀s,bx1 s=bx s\/((bx1 s).k=0/\(bx1 s).ep=(bx s).ep/\X.lo<=s)):
 ∃v w',(Builtin.append_ #[T,T'] ty #[.slice base n cap,vy]).run P w= .ok v w'/\
  ∃ρ',aA X ρ' (aj σ d (.bp sl ((bx sl).ep+1) esz 0 (n+ys.length))) (aj bx1 sl ⟨(bx sl).ep+1,1,esz,el,xs0++ys⟩) (a.put (some d) v) w':=by
 obtain⟨hu,he,su,_⟩:=dt hk;obtain⟨i,z,hi,we,A0⟩:=tD (P:=P) (t:=el) oM;have bP:i.size=esz:=by
  obtain⟨i',_,dN,_,eb⟩:=lT (P:=P) (t:=el) oM;rw[hi]at dN;injection dN with dN;rw[dN,eb,he]
 have CL:i.bytes=bytes:=by rw[su,hi];rfl
 have tX:z.cells.size=esz:=by rw[<-hz,A0];simp
 have rL:(n+ys.length)<=maxLen:=by
  have:=Nat.le_mul_of_pos_right (n+ys.length) qB;simp only[maxLen];omega
 have WE:0<ys.length:=List.length_pos_iff.2 bw;have hr:=run_append_grow_src (P:=P) w T T' ty el i z hu hi we base n cap (rowOf us n esz) (by rw[bP];exact hold) vy ys.length (rowOf gv ys.length esz) (by rw[bP];exact qQ) dK (by simp only[maxLen]at rL;omega) (growslice_fits oM (by rw[CL];exact yO));have AO:=grownCap_ge w (n+ys.length) cap el;have pZ:grownCap w (n+ys.length) cap el<=maxLen:=grownCap_le_maxLen w (n+ys.length) cap el rL;have n7:((rowOf us n esz++rowOf gv ys.length esz).toArray++Builtin.zeroCells z.cells (grownCap w (n+ys.length) cap el - (n+ys.length))).size=grownCap w (n+ys.length) cap el * esz:=by
  simp only[Array.size_append,List.size_toArray,List.length_append,size_zeroCells,tX,iP,<-Nat.add_mul]
  congr 1
  omega
 have fS:∀(k:Nat) u,(rowOf us n esz++rowOf gv ys.length esz)[k]? =some u->((rowOf us n esz++rowOf gv ys.length esz).toArray++Builtin.zeroCells z.cells (grownCap w (n+ys.length) cap el - (n+ys.length)))[k]? =some u:=fun k u hk=>by
  have tS:=(gS.1 hk).1;rw[Array.getElem?_append_left (by simpa using tS),List.getElem?_toArray];exact hk
 generalize(rowOf us n esz++rowOf gv ys.length esz).toArray++Builtin.zeroCells z.cells (grownCap w (n+ys.length) cap el - (n+ys.length))=qK at hr n7 fS;generalize grownCap w (n+ys.length) cap el=Vu at hr AO pZ n7;have yT:Fr (fun _=>False) w (w.drew.alloc (.cells qK el)):=⟨rfl,rfl,rfl,by simp,fun k hk _=>heap_alloc_old w.drew _ (show k<w.drew.heap.size from hk)⟩
 have hw:∀b',az X ρ bx w b'->(w.drew.alloc (.cells qK el)).heap[b']? =w.heap[b']?:=fun b' hb=>yT.block b' hb.1 fun ee=>ee;have Hr:(w.drew.alloc (.cells qK el)).heap[w.heap.size]? =some (.cells qK el (0,0)):=heap_alloc_new w.drew _;refine⟨_,_,hr,_,(aA.own (t:=sl) (p:=⟨w.heap.size,Vu,esz,el⟩) (es:=xs0++ys) (bx1:=bx1) h bH uO (Old:=fun _=>False) yT (fun _ hh=>hh.elim) (.inl (Nat.le_refl _)) fun S' ρ' hS hρ=>?_).put (dst:=some d) (fun t ht=>by injection ht with ht;subst ht;exact hd) ?_⟩
 ·have lG:∀c u,aJ w (az X ρ bx w) ρ c u->aJ (w.drew.alloc (.cells qK el)) S' ρ' c u:=fun c u hr=>hr.mono hw hS hρ;refine⟨⟨qK,Hr,n7,fun i j=>if i<n then us i j else gv (i - n) j,fun i y j c hi hj=>?_⟩,by simp;omega,pZ,fun i y hi=>?_⟩
  ·dsimp only;by_cases kM:i<n
   ·rw[List.getElem?_append_left oM]at hi;obtain⟨u2,u3⟩:=jJ i y j c hi hj;have AQ:j<esz:=by have:=(gS.1 hj).1;rw[Kk _ y hi]at this;exact this
    simp only[kM,if_true];refine⟨fS _ _ ?_,lG _ _ u2,u3⟩;have Kc:=rW (us:=us) kM AQ;rw[List.getElem?_append_left (gS.1 Kc).1];exact Kc
   ·rw[List.getElem?_append_right oM,lA]at hi;obtain⟨u2,u3⟩:=iq (i - n) y j c hi hj;have AQ:j<esz:=by have:=(gS.1 hj).1;rw[lN _ y hi]at this;exact this
    have jG:=(gS.1 hi).1;simp only[kM,if_false];refine⟨fS _ _ ?_,lG _ _ u2,u3⟩;have e1:i * esz+j=n * esz+((i - n) * esz+j):=by
     have:i=n+(i - n):=oM
     conv=>lhs;rw[this,Nat.add_mul]
     omega
    rw[List.getElem?_append_right (by rw[iP,e1];omega),iP,e1,Nat.add_sub_cancel_left];exact rW jG AQ
  ·by_cases kM:i<n
   ·rw[List.getElem?_append_left oM]at hi;exact Kk i y hi
   ·rw[List.getElem?_append_right oM]at hi;exact lN _ y hi
 ·exact .bp (p:=⟨w.heap.size,Vu,esz,el⟩) sI rfl (fun _=>⟨rfl,rfl⟩) (fun _=>by simp) AO ⟨by simp,pZ⟩
def Gn(h:aA X ρ σ bx a w){T T' d sl el esz bytes n t e o:Nat}{ag:Bool}(hd:d<X.N)(bH:X.lo<=sl)(hk:(an P T).k= .slice el esz bytes ag)(AN:esz≠0)(hz:(an P el).zero.length=esz)
 {vx vy:Value} {ys:List D} (hx:aJ w (az X ρ bx w) ρ (.bp t e esz o n) vx) (ar:X.lo<=t) (J7:(bx t).ep=e) (iL:(bx t).k=1) (hbz:(bx t).sz=esz) (hty:(bx t).ty=el) (hle:o+n<=(bx t).es.length)
 {gv:Nat->Nat->Value} (bw:ys≠[]) (qQ:Src P esz T' vy ys.length (rowOf gv ys.length esz) w) (lN:∀(i:Nat) d,ys[i]? =some d->d.cells.length=esz)
 (iq:∀(i:Nat) d (j:Nat) c,ys[i]? =some d->d.cells[j]? =some c->aJ w (az X ρ bx w) ρ c (gv i j)/\(gv i j).oneCell'=true)
 (yO:(n+ys.length) * bytes<=140737488355328) (qB:0<bytes):
 ∃v w',(Builtin.append_ #[T,T'] ty #[vx,vy]).run P w= .ok v w'/\
  ∃ρ',aA X ρ' (aj σ d (.bp sl ((bx sl).ep+1) esz 0 (n+ys.length))) (aj (aj bx t {bx t with k:=0}) sl ⟨(bx sl).ep+1,1,esz,el,((bx t).es.drop o).take n++ys⟩) (a.put (some d) v) w'\/
   aA X ρ' (aj σ d (.bp sl ((bx sl).ep+1) esz o (n+ys.length))) (aj (aj bx t {bx t with k:=0}) sl ⟨(bx sl).ep+1,1,esz,el,(bx t).es.take (o+n)++ys⟩) (a.put (some d) v) w':=by
 obtain⟨hu,he,su,_⟩:=dt hk;obtain⟨i,z,hi,we,A0⟩:=tD (P:=P) (t:=el) oM;have bP:i.size=esz:=by
  obtain⟨i',_,dN,_,eb⟩:=lT (P:=P) (t:=el) oM;rw[hi]at dN;injection dN with dN;rw[dN,eb,he]
 have CL:i.bytes=bytes:=by rw[su,hi];rfl
 have tX:z.cells.size=esz:=by rw[<-hz,A0];simp
 have rL:(n+ys.length)<=maxLen:=by
  have:=Nat.le_mul_of_pos_right (n+ys.length) qB;simp only[maxLen];omega
 have WE:0<ys.length:=List.length_pos_iff.2 bw;obtain⟨p,off,cap,hp,kf,h0,dY,hn,Ob,jd,rfl⟩:=hx.QS;obtain⟨p',bL,D7,vY,gN,hh⟩:=h.box t (by rw[iL];decide);rw[J7,hp]at bL;injection bL with bL;subst bL;obtain⟨⟨cur,gm,eW,us,gB⟩,rK,xZ,LH⟩:=hh;have Wn:∀i j,i<(bx t).es.length->j<esz->cur[i * esz+j]? =some (us i j):=by
  intro i j hi hj;have hd:=gE hi;have hc:=gE (show j<(bx t).es[i].cells.length by rw[LH i _ hd,kf];exact hj);have:=(gB i _ j _ hd hc).1;rwa[kf]at this
 have uO:∀s,aj bx t {bx t with k:=0} s=bx s\/((aj bx t {bx t with k:=0} s).k=0/\(aj bx t {bx t with k:=0} s).ep=(bx s).ep/\X.lo<=s):=fun s=>by
  by_cases hs:s=t
  ·subst hs;exact .inr ⟨by simp[aj],by simp[aj],ar⟩
  ·exact .inl (by simp[aj,hs])
 have hO:∀b',b'=p.b->∃t0 p0,(bx t0).k=1/\ρ t0 (bx t0).ep=some p0/\p0.b=b'/\(t0=sl\/(aj bx t {bx t with k:=0} t0).k=0):=fun b' hb=>⟨t,p,iL,by rw[J7];exact hp,hb.symm,.inr (by simp[aj])⟩
 by_cases jy:n+ys.length<=cap
 ·
  have Sx:=dY oM;have jM:off+n * i.size+(rowOf gv ys.length esz).length<=cur.size:=by
   rw[iP,eW,kf,bP,Sx,<-Nat.add_mul,<-Nat.add_mul];exact Nat.mul_le_mul_right _ oM
  have hr:=yj (P:=P) (w:=w) T T' ty el i hu hi p.b off n cap cur (by rw[gm,vY,hty]) vy ys.length (rowOf gv ys.length esz) (by rw[bP];exact qQ) jy jM;rw[bP]at hr jM;have eoff:off+n * esz=(o+n) * esz:=by rw[Sx,Nat.add_mul]
  rw[eoff]at hr jM;have hA:(o+n) * esz<=cur.size:=oM;have Wf:∀k,k<(o+n) * esz->(cur.toList.take ((o+n) * esz)++rowOf gv ys.length esz++cur.toList.drop ((o+n) * esz+(rowOf gv ys.length esz).length)).toArray[k]? =cur[k]?:=fun k hk=>by rw[List.getElem?_toArray,List.append_assoc,List.getElem?_append_left (by simp;omega),List.getElem?_take_of_lt hk,aG]
  have Wg:∀(k:Nat) u,(rowOf gv ys.length esz)[k]? =some u->(cur.toList.take ((o+n) * esz)++rowOf gv ys.length esz++cur.toList.drop ((o+n) * esz+(rowOf gv ys.length esz).length)).toArray[(o+n) * esz+k]? =some u:=fun k u hk=>by
   have tS:=(gS.1 hk).1;have yV:(cur.toList.take ((o+n) * esz)).length=(o+n) * esz:=by simp;omega
   rw[List.getElem?_toArray,List.append_assoc,List.getElem?_append_right oM,yV,Nat.add_sub_cancel_left,List.getElem?_append_left tS,hk]
  have n7:(cur.toList.take ((o+n) * esz)++rowOf gv ys.length esz++cur.toList.drop ((o+n) * esz+(rowOf gv ys.length esz).length)).toArray.size=p.cap * p.sz:=by rw[<-eW];simp;omega
  generalize(cur.toList.take ((o+n) * esz)++rowOf gv ys.length esz++cur.toList.drop ((o+n) * esz+(rowOf gv ys.length esz).length)).toArray=qK at hr Wf Wg n7;have kg:(w.setRow p.b qK).heap[p.b]? =some (.cells qK p.ty (0,0)):=setRow_heap w p.b cur _ _ _ gm;have yT:Fr (fun b'=>b'=p.b) w (w.setRow p.b qK):=⟨rfl,rfl,rfl,by simp,fun k _ hk=>setRow_other w p.b k _ hk⟩
  have hw:∀b',az X ρ bx w b'->(w.setRow p.b qK).heap[b']? =w.heap[b']?:=fun b' hb=>yT.block b' hb.1 fun ee=>by
   obtain⟨t0,p0,kN,oz,E_,_⟩:=hO b' ee;exact hb.2.2 t0 kN p0 oz E_
  have fz:((bx t).es.take (o+n)).length=o+n:=by simp;omega
  refine⟨_,_,hr,_,.inr ((aA.own (t:=sl) (p:=⟨p.b,p.cap,esz,el⟩) (es:=(bx t).es.take (o+n)++ys) (bx1:=aj bx t {bx t with k:=0}) h bH uO (Old:=fun b'=>b'=p.b) yT hO (.inr rfl) fun S' ρ' hS hρ=>?_).put (dst:=some d) (fun t ht=>by injection ht with ht;subst ht;exact hd) ?_)⟩
  ·have lG:∀c u,aJ w (az X ρ bx w) ρ c u->aJ (w.setRow p.b qK) S' ρ' c u:=fun c u hr=>hr.mono hw hS hρ;refine⟨⟨qK,by rw[kg,vY,hty],by rw[n7,kf],fun i j=>if i<o+n then us i j else gv (i - (o+n)) j,fun i y j c hi hj=>?_⟩,by simp;omega,jd,fun i y hi=>?_⟩
   ·dsimp only;by_cases kM:i<o+n
    ·rw[List.getElem?_append_left oM,List.getElem?_take_of_lt kM]at hi;obtain⟨u1,u2,u3⟩:=gB i y j c hi hj;have AQ:j<esz:=by have:=(gS.1 hj).1;rw[LH i y hi,kf]at this;exact this
     have wZ:i * esz+j<(o+n) * esz:=by
      have:=Nat.mul_le_mul_right esz (show i+1<=o+n from kM);rw[Nat.succ_mul]at this;omega
     simp only[kM,if_true];rw[kf]at u1;exact⟨(Wf _ wZ).trans u1,lG _ _ u2,u3⟩
    ·rw[List.getElem?_append_right oM,fz]at hi;obtain⟨u2,u3⟩:=iq (i - (o+n)) y j c hi hj;have AQ:j<esz:=by have:=(gS.1 hj).1;rw[lN _ y hi]at this;exact this
     have jG:=(gS.1 hi).1;simp only[kM,if_false];have e1:i * esz+j=(o+n) * esz+((i - (o+n)) * esz+j):=by
      have:i=(o+n)+(i - (o+n)):=oM
      conv=>lhs;rw[this,Nat.add_mul]
      omega
     rw[e1];exact⟨Wg _ _ (rW jG AQ),lG _ _ u2,u3⟩
   ·by_cases kM:i<o+n
    ·rw[List.getElem?_append_left oM,List.getElem?_take_of_lt kM]at hi;exact(LH i y hi).trans kf
    ·rw[List.getElem?_append_right oM]at hi;exact lN _ y hi
  ·exact .bp (p:=⟨p.b,p.cap,esz,el⟩) sI rfl h0 dY jy ⟨Ob,jd⟩
 ·
  have holds:∀j v,(rowOf (fun i j=>us (o+i) j) n esz)[j]? =some v->w.cell? ((⟨p.b,off,none⟩:Addr).add j)=some v:=fun j v hj=>by
   obtain⟨k,l,hk,hl,rfl,rfl⟩:=kZ hj;rw[Addr.ei,dY oM];have:=Wn (o+k) l oM hl;rw[Nat.add_mul]at this;rw[<-Nat.add_assoc];simp[World.cell?,gm,this]
  have fz:(((bx t).es.drop o).take n).length=n:=by simp;omega
  have ez:∀(k:Nat) y,(((bx t).es.drop o).take n)[k]? =some y->k<n/\(bx t).es[o+k]? =some y:=fun k y hk=>by
   have tS:=(gS.1 hk).1;rw[fz]at tS;rw[List.getElem?_take_of_lt tS,List.getElem?_drop]at hk;exact⟨tS,hk⟩
  obtain⟨v,w',hr,ρ',hS⟩:=uN (ty:=ty) (n:=n) (cap:=cap) (base:=some ⟨p.b,off,none⟩) h hd bH hk AN hz fz oM (fun i d hi=>(LH _ d (ez i d hi).2).trans kf) (fun i d j c hi hj=>(gB (o+i) d j c (ez i d hi).2 hj).2)
   (run_firstCells_some w.drew esz n _ n cap (rowOf (fun i j=>us (o+i) j) n esz) (iP _ _ _) (by simpa using holds)) bw qQ lN iq yO qB uO
  exact⟨v,w',hr,ρ',.inl hS⟩
def Ut(s:List UInt8):rowOf (fun i _=> .int .u8 ((s.getD i 0).toNat:Int)) (aB s).length 1=byteCells ⟨s.toArray⟩:=by
 apply List.ext_getElem?;intro i;unfold rowOf byteCells aB;simp only[gM,List.length_map,Nat.mul_one,Nat.div_one];by_cases hi:i<s.length
 ·rw[List.getElem?_range hi];simp[hi]
 ·rw[List.getElem?_eq_none (by simp;omega)];simp[Nat.le_of_not_lt hi]
def xN(h:aA X ρ σ bx a w){T T':TypeId}{x y:Operand}{dst:Option Tmp}(cw:∀t,dst=some t->t<X.N){lo base:Nat}(bH:X.lo<=lo)(wW:X.lo<=base){r:(D×ae)×(D×ae)}(hv:uH lo (an P) (an P T) T T' (ld base dst) bx (ev σ x) (ev σ y)=some r):
 ∃v w',(execOp a.eval ⟨dst,.call {callee:=.builtin .append,args:= #[x,y],argTypes:= #[T,T']},ty,pos,af,g⟩).run P w= .ok (.value v) w'/\∃ρ',aA X ρ' (put σ dst r.1.1) r.1.2 (a.put dst v) w'\/aA X ρ' (put σ dst r.2.1) r.2.2 (a.put dst v) w':=by
 have hx:=h.ev x;have hy:=h.ev y;suffices hs:∃v w',(Builtin.append_ #[T,T'] ty #[a.eval x,a.eval y]).run P w= .ok v w'/\∃ρ',aA X ρ' (put σ dst r.1.1) r.1.2 (a.put dst v) w'\/aA X ρ' (put σ dst r.2.1) r.2.2 (a.put dst v) w' by
  obtain⟨v,w',hr,hS⟩:=hs;refine⟨v,w',?_,hS⟩;simp only[execOp,resolve,invoke,builtin,Sem.run_bind,Sem.run_pure,Result.andThen_ok,List.map_toArray,mC,List.map_nil,hr]
 generalize ev σ x=dx at hv hx;generalize ev σ y=dy at hv hy;generalize a.eval x=vx at hx⊢;generalize a.eval y=vy at hy⊢;unfold uH at hv;split at hv
 ·rename_i el esz bytes ag d0 hk ni;cases dst with
  |none=>simp[ld]at ni
  |some d=>
   simp only[ld,sJ]at ni;subst ni;have mr:X.lo<=base+d:=Nat.le_trans wW (Nat.le_add_right _ _);split at hv
   ·rename_i lO;obtain⟨lO,AN⟩:=lO;obtain⟨hu,he,su,_⟩:=dt hk;obtain⟨i,hi,bP⟩:∃i,P.info? el=some i/\i.size=esz:=by
     obtain⟨i',_,dN,_,eb⟩:=lT (P:=P) (t:=el) oM;exact⟨i',dN,by omega⟩
    rw[Option.bind_eq_some_iff]at hv;obtain⟨ys,er,hv⟩:=hv;have hY:∃gv:Nat->Nat->Value,Src P esz T' vy ys.length (rowOf gv ys.length esz) w/\(∀(i:Nat) d,ys[i]? =some d->d.cells.length=esz)/\
     ∀(i:Nat) d (j:Nat) c,ys[i]? =some d->d.cells[j]? =some c->aJ w (az X ρ bx w) ρ c (gv i j)/\(gv i j).oneCell'=true:=by
     unfold pW at er;split at er
     ·rename_i V2;subst V2;obtain⟨A,c,b,off,us,x9,hA,lN,iq⟩:=oL h hy er;refine⟨us,?_,lN,fun i d j c hi hj=>(iq i d j c hi hj).2⟩;have yP:∀i j,i<ys.length->j<esz->w.cell? ⟨b,off+i * esz+j,none⟩=some (us i j)/\(us i j).oneCell'=true:=by
       intro i j hi hj;have hd:=gE hi;have hc:=gE (show j<ys[i].cells.length by rw[lN i _ hd];exact hj);exact⟨(iq i _ j _ hd hc).1,(iq i _ j _ hd hc).2.2⟩
      by_cases bw:ys=[]
      ·subst bw;subst x9;cases A with
       |none=>exact⟨.inl ⟨_,hu⟩,fun _=>rfl,by simpa[rowOf]using run_firstCells_none (P:=P) w esz 0 0 c,by simpa[rowOf]using run_firstCells_none (P:=P) w.drew esz 0 0 c,by simp[rowOf],by simp[rowOf]⟩
       |some a0=>exact Src.ofSlice w hu a0 0 c _ (by simp[rowOf]) (by simp[rowOf]) (by simp[rowOf])
      ·obtain rfl:=hA bw;subst x9;exact Src.ofSlice w hu ⟨b,off,none⟩ ys.length c (rowOf us ys.length esz) (iP _ _ _) (fun j u hj=>by
        obtain⟨k,l,hk,hl,rfl,rfl⟩:=kZ hj;rw[Addr.ei];have:=(yP k l hk hl).1;rw[<-Nat.add_assoc];exact this) (fun u hu=>by
        obtain⟨j,hj⟩:=List.mem_iff_getElem?.1 hu;obtain⟨k,l,hk,hl,rfl,rfl⟩:=kZ hj;exact(yP k l hk hl).2)
     ·split at er
      ·rename_i s bR;split at er
       ·rename_i hc;obtain⟨_,rfl⟩:=hc;injection er with er;subst er;cases hy with
        |pure hy=>
         cases hy;refine⟨fun i _=> .int .u8 ((s.getD i 0).toNat:Int),?_,fun i d hi=>?_,fun i d j c hi hj=>?_⟩
         ·rw[Ut];have:=Src.ofString (P:=P) w (tx:=T') (qs bR) ⟨s.toArray⟩;have hl:(ByteArray.mk s.toArray).size=(aB s).length:=by simp[aB,ByteArray.size]
          rw[hl]at this;exact this
         ·simp only[aB,gM,mS]at hi;obtain⟨u,_,rfl⟩:=hi;rfl
         ·simp only[aB,gM,mS]at hi;obtain⟨u,hu,rfl⟩:=hi;rcases j with _|j
          ·simp only[D.cells,List.getElem?_cons_zero,sJ]at hj;subst hj;have:s.getD i 0=u:=by simp[hu]
           dsimp only;rw[this];exact⟨.pure (.int _ _),rfl⟩
          ·simp[D.cells]at hj
       ·cases er
      ·cases er
    obtain⟨gv,qQ,lN,iq⟩:=hY;split at hv
    ·rename_i bw;subst bw;have QN:∃B n cap,vx= .slice B n cap/\n<=cap/\∃x',r=((x',bx),(x',bx))/\aJ w (az X ρ bx w) ρ x' vx:=by
      unfold IL at hv;split at hv
      ·injection hv with hv;have dQ:=(hx.fC rfl)
       obtain⟨A,hA⟩:=dQ.vM;exact⟨_,_,_,hA,Nat.le_refl _,_,hv.symm,.pure dQ.rT⟩
      ·injection hv with hv;exact⟨none,0,0,hx.gi,Nat.le_refl _,_,hv.symm,hx⟩
      ·injection hv with hv;obtain⟨p,off,cap,_,_,_,_,hn,_,_,lz⟩:=hx.pJ;exact⟨_,_,_,lz,hn,_,hv.symm,hx⟩
      ·injection hv with hv;have eO:=hx;cases eO with
       |pure eO=>cases eO with|sl hn dK=>exact⟨_,_,_,rfl,dK,_,hv.symm,hx⟩
      ·cases hv
     obtain⟨B,n,cap,rfl,AU,x',rfl,dQ⟩:=QN;refine⟨.slice B n cap,w,?_,ρ,.inl (h.put (dst:=some d) (fun t ht=>by injection ht with ht;subst ht;exact cw d rfl) dQ)⟩;have hlen:=qQ.len w;have fL:=qQ.cells;simp only[List.length_nil,rowOf,Nat.zero_mul,List.range_zero,List.map_nil]at hlen fL;rcases qQ.kind with⟨e',bR⟩|bR<;>cases B<;>simp[Builtin.append_,run_underlying hu,run_underlying bR,sizeOf,typeInfo,hi,bP,hlen,fL,AU,storeCells]
    ·rename_i bw;unfold vr at hv;split at hv
     ·rename_i t e sz o n;split at hv
      ·rename_i hc;obtain⟨c0,c1,c3,c4,c5,c6,c7,c8,c9,Cm⟩:=hc;injection hv with hv;subst hv;subst c1;exact Gn (ty:=ty) h (cw d rfl) mr hk oM lO hx (Nat.le_trans bH c0) c3 c4 c5 c6 c7 bw qQ lN iq c8 Cm
      ·cases hv
     ·rename_i sz es;split at hv
      ·rename_i hc;obtain⟨c1,c8,c9,Cm⟩:=hc;injection hv with hv;subst hv;subst c1;have dQ:=hx.fC rfl;obtain⟨A,hA⟩:=dQ.vM;have eO:=dQ.rT;rw[hA]at eO⊢;cases eO with
       |@sl _ _ _ n cap b off us hn dK jd xS Hy ke AM yZ=>
        have hold:(Builtin.firstCells sz es.length (.slice A es.length es.length)).run P w.drew= .ok (rowOf us es.length sz).toArray w.drew:=by
         by_cases ik:es=[]
         ·subst ik;cases A with
          |none=>simpa[rowOf]using run_firstCells_none (P:=P) w.drew sz 0 0 0
          |some a0=>exact run_firstCells_some w.drew sz 0 a0 0 _ _ (by simp[rowOf]) (by simp[rowOf])
         ·obtain⟨NO,_⟩:=xS ik;subst NO;refine run_firstCells_some w.drew sz es.length _ _ _ (rowOf us es.length sz) (iP _ _ _) fun j u hj=>?_;obtain⟨k,l,hk,hl,rfl,rfl⟩:=kZ hj;rw[Addr.ei];have hd:=gE hk;have hc:=gE (show l<es[k].cells.length by rw[Hy k _ hd];exact hl);have:=ke k _ l _ hd hc;rw[<-Nat.add_assoc];simpa using this
        obtain⟨v,w',Kc,ρ',hS⟩:=uN (ty:=ty) (bx1:=bx) h (cw d rfl) mr hk oM lO rfl (by have:=List.length_pos_iff.2 bw;omega) Hy (fun i d j c hi hj=>⟨.pure (yZ i d j c hi hj),AM i d j c hi hj⟩) hold bw qQ lN iq c8 Cm (fun _=> .inl rfl);exact⟨v,w',Kc,ρ',.inl hS⟩
      ·cases hv
     ·split at hv
      ·rename_i hc;obtain⟨c8,c9,Cm⟩:=hc;injection hv with hv;subst hv;rw[hx.gi];obtain⟨v,w',Kc,ρ',hS⟩:=uN (ty:=ty) (bx1:=bx) (n:=0) (cap:=0) (base:=none) (xs0:=[]) (us:=fun _ _=>undef) h (cw d rfl) mr hk oM lO rfl (by have:=List.length_pos_iff.2 bw;omega) sI sI (by simpa[rowOf]using run_firstCells_none (P:=P) w.drew esz 0 0 0) bw qQ lN iq (by simpa using c8) Cm (fun _=> .inl rfl);simp only[Nat.zero_add,List.nil_append]at hS;exact⟨v,w',Kc,ρ',.inl hS⟩
      ·cases hv
     ·cases hv
   ·cases hv
 ·cases hv
end Go.V
namespace Go.V
open Go.RowKit
variable {P:Program} {X:Ctx} {ρ:cQ} {σ:Env} {bx:ae} {a:Act} {w:World} {ty:TypeId} {pos:String} {af:Array Edge} {g:Option (Nat×Bool)}
def YC{z:Array Value}{m i j:Nat}(hi:i<m)(hj:j<z.size):(Builtin.zeroCells z m)[i * z.size+j]? =some (z.getD j undef):=by
 have ar:i * z.size+j<m * z.size:=by
  have:(i+1) * z.size<=m * z.size:=Nat.mul_le_mul_right _ hi;rw[Nat.add_mul]at this;omega
 unfold Builtin.zeroCells;simp only[Array.getElem?_map,Array.getElem?_range,ar,if_true,Option.map_some,sJ];have:(i * z.size+j) % z.size=j:=by rw[Nat.mul_comm,Nat.mul_add_mod,Nat.mod_eq_of_lt hj]
 rw[this,getElem!_def,Array.getElem?_eq_getElem hj,Array.getD_eq_getD_getElem?,Array.getElem?_eq_getElem hj];rfl
def Er(t tn ty e:TypeId)(i:TypeInfo)(z:Value)(kq kn:IntKind)(ht:P.underlying t=some (.slice e))(Fb:P.underlying tn=some (.int kn))(hi:P.info? e=some i)(hz:i.zero=some z)
 (gb pw BU m:Nat) (cur:Array Value) (hg:w.heap[gb]? =some (.cells cur e (0,0))) (h0:0<m) (hs:0<i.size) (tX:z.cells.size=i.size) (jy:pw+m<=BU) (jM:pw * i.size+m * i.size<=cur.size)
 (xR:(m:Int)<=9223372036854775807) (h48:m * i.bytes<=281474976710656) (h1:∀u∈(Builtin.zeroCells z.cells m).toList,u.oneCell'=true):
 (Builtin.append_ #[t,tn] ty #[.slice (some ⟨gb,0,none⟩) pw BU,.int kq m]).run P w=
  .ok (.slice (some ⟨gb,0,none⟩) (pw+m) BU) (w.setRow gb (cur.toList.take (pw * i.size)++(Builtin.zeroCells z.cells m).toList++cur.toList.drop (pw * i.size+(Builtin.zeroCells z.cells m).toList.length)).toArray):=by
 have bz:=run_storeCells_at P gb (pw * i.size) e (Builtin.zeroCells z.cells m).toList 0 cur w hg (by simp[size_zeroCells,tX];omega) h1;simp only[Nat.add_zero]at bz;have hw:IntKind.i64.wrap (m:Int)=m:=by rw[IntKind.wrap_i64];omega
 have Hq:¬((m:Int)<0):=oM;have aeI:¬(281474976710656<(m:Int) * (i.bytes:Int)):=by rw[<-Int.natCast_mul];omega
 have hns:¬(m * i.size=0):=Nat.mul_ne_zero oM oM;simp[Builtin.append_,run_underlying ht,run_underlying Fb,sizeOf,typeInfo,zeroValue,hi,hz,asInt,asIntOf,hw,Hq,aeI,hns,jy,Addr.add_lit];rw[bz];simp
def IF(base:Nat)(t tn ty e:TypeId)(i:TypeInfo)(z:Value)(kq kn:IntKind)(size bytes:Nat)(ht:P.underlying t=some (.slice e))(Fb:P.underlying tn=some (.int kn))(hi:P.info? e=some i)(hz:i.zero=some z)
 (n7:i.size=size) (yO:i.bytes=bytes) (tX:z.cells.size=size) (bP:0<size)
 (v:Value) (n:Nat) (xs:List Value) (mL:w.ownsRow base e size v n xs) (m:Nat) (hm:0<m) (h1:∀u∈(Builtin.zeroCells z.cells m).toList,u.oneCell'=true)
 (xR:n+m<=maxLen) (N3:(n+m) * bytes<=140737488355328) (wW:base<=w.heap.size):
 ∃v' w',(Builtin.append_ #[t,tn] ty #[v,.int kq m]).run P w= .ok v' w'/\w'.ownsRow base e size v' (n+m) (xs++(Builtin.zeroCells z.cells m).toList)/\w.grownBy w' v.ownBlock/\
  (v'.ownBlock=v.ownBlock\/v'.ownBlock=some w.heap.size):=by
 subst n7;subst yO;have hsmall:n+m<=9223372036854775807:=by simp only[maxLen]at xR;omega
 have hmb:m * i.bytes<=(n+m) * i.bytes:=Nat.mul_le_mul_right _ oM;generalize Sv:(Builtin.zeroCells z.cells m).toList=news at *;have hl:news.length=m * i.size:=by rw[<-Sv];simp[size_zeroCells,tX]
 have hna:news.toArray=Builtin.zeroCells z.cells m:=by rw[<-Sv]
 have hlen:(xs++news).length=(n+m) * i.size:=by rw[List.length_append,mL.1,hl,Nat.add_mul]
 have grown:∀(ya:Nat),ya<n+m->∀(row:Option Nat),
  (w.drew.alloc (.cells (xs.toArray++news.toArray++Builtin.zeroCells z.cells (grownCap w (n+m) ya e - (n+m))) e)).ownsRow base e i.size
   (.slice (some ⟨w.heap.size,0,none⟩) (n+m) (grownCap w (n+m) ya e)) (n+m) (xs++news)/\
  w.grownBy (w.drew.alloc (.cells (xs.toArray++news.toArray++Builtin.zeroCells z.cells (grownCap w (n+m) ya e - (n+m))) e)) row:=by
  intro ya ho row;have AO:=grownCap_ge w (n+m) ya e;have pZ:grownCap w (n+m) ya e<=maxLen:=grownCap_le_maxLen w (n+m) ya e xR;refine⟨⟨hlen,.inr ⟨w.heap.size,_,_,rfl,wW,heap_alloc_new w.drew _,AO,pZ,?_,?_⟩⟩,⟨rfl,rfl,rfl,by simp,fun k hk _=>heap_alloc_old w.drew _ (show k<w.drew.heap.size from hk)⟩⟩
  ·simp only[Array.size_append,List.size_toArray,size_zeroCells,tX,mL.1,hl,<-Nat.add_mul]
   congr 1
   omega
  ·simp only[Array.toList_append,List.append_assoc];rw[<-List.append_assoc,<-hlen];exact List.take_left
 rcases mL.2 with⟨rfl,rfl⟩|⟨gb,cap,cur,rfl,hbg,hg,AU,pZ,eW,CZ⟩
 ·have hx:xs=[]:=List.eq_nil_of_length_eq_zero (by simpa using mL.1);subst hx;have hr:=Lib.run_append_grow_zeros (P:=P) w t tn ty e i z kq kn ht Fb hi hz none 0 0 [] (run_firstCells_none w.drew i.size 0 0 0) m hm bP oM oM oM (growslice_fits oM N3);have vR:=grown 0 oM (Value.ownBlock (.slice none 0 0));rw[hna]at vR;exact⟨_,_,hr,vR.1,vR.2,.inr rfl⟩
 ·by_cases jy:n+m<=cap
  ·have jM:n * i.size+m * i.size<=cur.size:=by rw[eW,<-Nat.add_mul];exact Nat.mul_le_mul_right _ jy
   have hr:=Er (P:=P) (w:=w) t tn ty e i z kq kn ht Fb hi hz gb n cap m cur hg hm bP tX jy jM oM oM (by rw[Sv];exact h1);rw[Sv]at hr;refine⟨_,_,hr,⟨hlen,.inr ⟨gb,cap,_,rfl,hbg,setRow_heap w gb cur _ e _ hg,jy,pZ,?_,?_⟩⟩,⟨rfl,rfl,rfl,by simp,fun k _ hk=>setRow_other w gb k _ (fun e=>hk (by simp[Value.ownBlock,e]))⟩,.inl rfl⟩
   ·simp only[List.size_toArray,List.length_append,List.length_take,List.length_drop,Array.length_toList];omega
   ·rw[CZ,<-hlen];exact List.take_left
  ·have holds:∀j u,xs[j]? =some u->w.cell? ((⟨gb,0,none⟩:Addr).add j)=some u:=mL.cells (g:=gb) rfl;have hr:=Lib.run_append_grow_zeros (P:=P) w t tn ty e i z kq kn ht Fb hi hz (some ⟨gb,0,none⟩) n cap xs (run_firstCells_some w.drew i.size n ⟨gb,0,none⟩ n cap xs mL.1 (by simpa using holds)) m hm bP oM oM oM (growslice_fits oM N3);have vR:=grown cap oM (Value.ownBlock (.slice (some ⟨gb,0,none⟩) n cap));rw[hna]at vR;exact⟨_,_,hr,vR.1,vR.2,.inr rfl⟩
def DO(h:aA X ρ σ bx a w){T T' d sl el esz bytes n m:Nat}{ag:Bool}{kn kq:IntKind}(hd:d<X.N)(bH:X.lo<=sl)(hk:(an P T).k= .slice el esz bytes ag)(cW:(an P T').k= .int kn)(AN:esz≠0)(hz:(an P el).zero.length=esz)
 {zd:D} (C1:jb (an P el)=some zd) {vx:Value} {xs:List Value} {xs0:List D} {us0:Nat->Nat->Value} (mL:w.ownsRow 0 el esz vx n xs) (lA:xs0.length=n)
 (Kk:∀(i:Nat) d,xs0[i]? =some d->d.cells.length=esz)
 (jJ:∀(i:Nat) d (j:Nat) c,xs0[i]? =some d->d.cells[j]? =some c->xs[i * esz+j]? =some (us0 i j)/\aJ w (az X ρ bx w) ρ c (us0 i j)/\(us0 i j).oneCell'=true)
 (hm:0<m) (yO:(n+m) * bytes<=140737488355328) (qB:0<bytes) {bx1:ae} (h1:∀s,bx1 s=bx s\/((bx1 s).k=0/\(bx1 s).ep=(bx s).ep/\X.lo<=s))
 (hO:∀b,some b=vx.ownBlock->∃t0 p0,(bx t0).k=1/\ρ t0 (bx t0).ep=some p0/\p0.b=b/\(t0=sl\/(bx1 t0).k=0)):
 ∃v w',(Builtin.append_ #[T,T'] ty #[vx,.int kq m]).run P w= .ok v w'/\
  ∃ρ',aA X ρ' (aj σ d (.bp sl ((bx sl).ep+1) esz 0 (n+m))) (aj bx1 sl ⟨(bx sl).ep+1,1,esz,el,xs0++List.replicate m zd⟩) (a.put (some d) v) w':=by
 obtain⟨hu,he,su,_⟩:=dt hk;obtain⟨i,z,hi,we,A0⟩:=tD (P:=P) (t:=el) oM;have bP:i.size=esz:=by
  obtain⟨i',_,dN,_,eb⟩:=lT (P:=P) (t:=el) oM;rw[hi]at dN;injection dN with dN;rw[dN,eb,he]
 have CL:i.bytes=bytes:=by rw[su,hi];rfl
 have tX:z.cells.size=esz:=by rw[<-hz,A0];simp
 have rL:(n+m)<=maxLen:=by
  have:=Nat.le_mul_of_pos_right (n+m) qB;simp only[maxLen];omega
 unfold jb at C1;split at C1
 rotate_left
 ·cases C1
 rename_i Wp;obtain⟨eM,lO,hU,fj⟩:=Wp;injection C1 with C1;have oN:zd.cells=(an P el).zero:=by
  subst C1;unfold A4;cases hA:(an P el).agg with
  |true=>rfl
  |false=>
   rcases hU with hU|hU
   ·rw[hA]at hU;cases hU
   ·rw[hU]at lO
    match we:(an P el).zero,lO with
    |[c],_=>
     rw[we]at fj;simp only[List.all_cons,List.all_nil,Bool.and_true]at fj;simp[gk fj]
 have jx:∀(j:Nat) c,zd.cells[j]? =some c->j<esz/\aJ w (az X ρ bx w) ρ c (z.cells.getD j undef)/\(z.cells.getD j undef).oneCell'=true:=fun j c hj=>by
  rw[oN]at hj;have yU:=(gS.1 hj).1;have h1:=List.all_eq_true.1 fj c (mG hj);rw[A0,gM,mS]at hj;obtain⟨u,hu,rfl⟩:=hj;rw[aG]at hu;have dj:z.cells.getD j undef=u:=by rw[Array.getD_eq_getD_getElem?,hu];rfl
  exact⟨by omega,by rw[dj];exact .pure (mH u),by rw[dj];exact(aJ.pure (w:=w) (S:=az X ρ bx w) (ρ:=ρ) (mH u)).one h1⟩
 have pH:∀u∈(Builtin.zeroCells z.cells m).toList,u.oneCell'=true:=fun u hu=>by
  simp only[Builtin.zeroCells,Array.toList_map,List.mem_map]at hu;obtain⟨q,_,rfl⟩:=hu;have hq:q % z.cells.size<z.cells.size:=Nat.mod_lt _ oM;have hj:zd.cells[q % z.cells.size]? =some (A5 (z.cells[q % z.cells.size])):=by rw[oN,A0,gM,aG,Array.getElem?_eq_getElem hq];rfl
  have:=(jx _ _ hj).2.2;rw[Array.getD_eq_getD_getElem?,Array.getElem?_eq_getElem hq]at this;rw[getElem!_pos z.cells _ hq];exact this
 obtain⟨v',w',hr,w6,vR,QC⟩:=IF (P:=P) (w:=w) (ty:=ty) 0 T T' el i z kq kn esz bytes hu (uw cW) hi we bP CL tX oM vx n xs mL m hm pH rL yO (Nat.zero_le _);obtain⟨hlen,w6⟩:=w6;rcases w6 with⟨_,w6⟩|⟨gg,cap,cur,rfl,_,Wy,AU,pZ,eW,CZ⟩
 ·omega
 have hold:w.heap.size<=gg\/some gg=vx.ownBlock:=by
  rcases QC with hb|hb
  ·exact .inr hb
  ·simp only[Value.ownBlock,sJ]at hb;exact .inl oM
 have hw:∀b,az X ρ bx w b->w'.heap[b]? =w.heap[b]?:=fun b hb=>vR.block b hb.1 (fun e=>by
  obtain⟨t0,p0,kN,oz,E_,_⟩:=hO b e;exact hb.2.2 t0 kN p0 oz E_)
 have fS:∀(k:Nat) (u:Value),(xs++(Builtin.zeroCells z.cells m).toList)[k]? =some u->cur[k]? =some u:=by
  intro k u hk;rw[<-CZ]at hk;have ar:=(gS.1 hk).1;rw[List.length_take]at ar;rw[List.getElem?_take_of_lt oM,aG]at hk;exact hk
 have h2:=h.own (w':=w') (t:=sl) (p:=⟨gg,cap,esz,el⟩) (es:=xs0++List.replicate m zd) (bx1:=bx1) bH h1 (Old:=fun b=>some b=vx.ownBlock) (.HZ vR) hO hold (fun S' ρ' hS hρ=>by
  have lG:∀c u,aJ w (az X ρ bx w) ρ c u->aJ w' S' ρ' c u:=fun c u hr=>hr.mono hw hS hρ;refine⟨⟨cur,Wy,eW,fun i j=>if i<n then us0 i j else z.cells.getD j undef,fun i y j c hi hj=>?_⟩,by simp[lA,AU],pZ,fun i y hi=>?_⟩
  ·dsimp only;by_cases kM:i<n
   ·rw[List.getElem?_append_left oM]at hi;obtain⟨u1,u2,u3⟩:=jJ i y j c hi hj;simp only[kM,if_true];refine⟨fS _ _ ?_,lG _ _ u2,u3⟩;rw[List.getElem?_append_left ((gS.1 u1).1)];exact u1
   ·rw[List.getElem?_append_right oM,lA]at hi;have jG:=(gS.1 hi).1;simp only[List.length_replicate]at jG;obtain rfl:y=zd:=List.eq_of_mem_replicate (mG hi);obtain⟨u1,u2,u3⟩:=jx j c hj;simp only[kM,if_false];refine⟨fS _ _ ?_,lG _ _ u2,u3⟩;have HC:xs.length=n * esz:=mL.1;have e1:i * esz+j=n * esz+((i - n) * esz+j):=by
     have:i=n+(i - n):=oM
     conv=>lhs;rw[this,Nat.add_mul]
     omega
    rw[List.getElem?_append_right (by rw[HC,e1];omega),HC,e1,Nat.add_sub_cancel_left,aG,<-tX];exact YC jG oM
  ·by_cases kM:i<n
   ·rw[List.getElem?_append_left oM]at hi;exact Kk i y hi
   ·rw[List.getElem?_append_right oM]at hi;obtain rfl:y=zd:=List.eq_of_mem_replicate (mG hi);rw[oN];exact hz)
 refine⟨_,_,hr,_,h2.put (dst:=some d) (fun t ht=>by injection ht with ht;subst ht;exact hd) (.bp (p:=⟨gg,cap,esz,el⟩) ?_ rfl (fun _=>⟨rfl,rfl⟩) (fun _=>by simp) AU ⟨by simp,pZ⟩)⟩;simp
def Gs(h:aA X ρ σ bx a w){T T':TypeId}{x y:Operand}{dst:Option Tmp}(cw:∀t,dst=some t->t<X.N){lo base:Nat}(bH:X.lo<=lo)(wW:X.lo<=base){r:D×ae}(hv:qJ lo (an P) T T' (ld base dst) bx (ev σ x) (ev σ y)=some r):
 ∃v w',(execOp a.eval ⟨dst,.call {callee:=.builtin .append,args:= #[x,y],argTypes:= #[T,T']},ty,pos,af,g⟩).run P w= .ok (.value v) w'/\∃ρ',aA X ρ' (put σ dst r.1) r.2 (a.put dst v) w':=by
 by_cases hq:uH lo (an P) (an P T) T T' (ld base dst) bx (ev σ x) (ev σ y)=some (r,r)
 ·obtain⟨v,w',hr,ρ',hS|hS⟩:=xN (ty:=ty) (pos:=pos) (af:=af) (g:=g) h cw bH wW hq
  ·exact⟨v,w',hr,ρ',hS⟩
  ·exact⟨v,w',hr,ρ',hS⟩
 have hx:=h.ev x;have hy:=h.ev y;suffices hs:∃v w',(Builtin.append_ #[T,T'] ty #[a.eval x,a.eval y]).run P w= .ok v w'/\∃ρ',aA X ρ' (put σ dst r.1) r.2 (a.put dst v) w' by
  obtain⟨v,w',hr,hS⟩:=hs;refine⟨v,w',?_,hS⟩;simp only[execOp,resolve,invoke,builtin,Sem.run_bind,Sem.run_pure,Result.andThen_ok,List.map_toArray,mC,List.map_nil,hr]
 generalize ev σ x=dx at hv hx hq;generalize ev σ y=dy at hv hy hq;generalize a.eval x=vx at hx⊢;generalize a.eval y=vy at hy⊢;unfold qJ at hv;split at hv
 ·rename_i V2;subst V2;unfold K3 at hv;split at hv
  ·rename_i el esz bytes ag hk;split at hv
   ·cases hv
   ·rename_i AN;rw[Option.bind_eq_some_iff]at hv;obtain⟨ys,er,hv⟩:=hv;obtain⟨A,c,b,off,us,x9,hA,lN,iq⟩:=oL h hy er;unfold fN at hv;rw[hk]at hv;cases dst with
    |none=>simp[ld]at hv
    |some d=>
     have hd:=cw d rfl;dsimp only[ld]at hv;obtain⟨hu,he,_,_⟩:=dt hk;have mr:X.lo<=base+d:=Nat.le_trans wW (Nat.le_add_right _ _);split at hv
     ·rename_i hy0;subst hy0;have QN:∃B n cap,vx= .slice B n cap/\n<=cap/\∃x',r=(x',bx)/\aJ w (az X ρ bx w) ρ x' vx:=by
       unfold S8 at hv;split at hv
       ·injection hv with hv;have dQ:=(hx.fC rfl)
        obtain⟨A',yL⟩:=dQ.vM;exact⟨_,_,_,yL,Nat.le_refl _,_,hv.symm,.pure dQ.rT⟩
       ·injection hv with hv;exact⟨none,0,0,hx.gi,Nat.le_refl _,_,hv.symm,hx⟩
       ·injection hv with hv;obtain⟨p,off,cap,_,_,_,_,hn,_,_,lz⟩:=hx.pJ;exact⟨_,_,_,lz,hn,_,hv.symm,hx⟩
       ·injection hv with hv;have eO:=hx;cases eO with
        |pure eO=>cases eO with|sl hn dK=>exact⟨_,_,_,rfl,dK,_,hv.symm,hx⟩
       ·cases hv
      obtain⟨B,n,cap,lz,AU,x',rfl,dQ⟩:=QN;subst lz x9;refine⟨.slice B n cap,w,?_,ρ,h.put (dst:=some d) (fun t ht=>by injection ht with ht;subst ht;exact hd) dQ⟩;have bP:=dh (P:=P) (t:=el) oM w;cases A<;>cases B<;>simp[Builtin.append_,run_underlying hu,bP,Builtin.lenOf,Builtin.firstCells,loadCells,loadCellsFrom,AU,storeCells]
     ·rename_i bw;split at hv
      ·rename_i lO;obtain rfl:=hA bw;unfold ph at hv;split at hv
       ·split at hv
        ·rename_i hc;injection hv with hv;subst hv;have:=AB (ty:=ty) h hd mr hk AN lO (vx:=vx) (xs:=[]) (xs0:=[]) (n:=0) (us0:=fun _ _=>undef) (by rw[hx.gi];exact World.ownsRow_nil w 0 el esz) rfl sI sI bw x9 lN iq (by simpa using hc.1) hc.2.2 (bx1:=bx) (fun _=> .inl rfl)
          (by rw[hx.gi];simp[Value.ownBlock])
         simp only[List.nil_append,Nat.zero_add]at this;exact this
        ·cases hv
       ·rename_i t e sz o n;unfold DY at hv;split at hv
        ·rename_i hc;obtain⟨c0,c1,c2,c3,c4,c5,c6,c7,c8,c9,Cm⟩:=hc;injection hv with hv;subst hv;subst c1;subst c2;obtain⟨p,vF,cap,hp,kf,h0,_,hn,_,jd,lz⟩:=hx.pJ;obtain⟨rfl,rfl⟩:=h0 rfl;obtain⟨p',bL,D7,vY,gN,hh⟩:=h.box t (by rw[c4];decide);rw[c3,hp]at bL;injection bL with bL;subst bL;obtain⟨⟨cur,gm,eW,us0,gB⟩,rK,xZ,bP⟩:=hh;have hlen:((bx t).es.take n).length=n:=by simp;omega
         have ez:∀(i:Nat) d,((bx t).es.take n)[i]? =some d->i<n/\(bx t).es[i]? =some d:=by
          intro i d hi;have:=(gS.1 hi).1;rw[List.getElem?_take_of_lt oM]at hi;exact⟨by omega,hi⟩
         have jM:n * sz<=cur.size:=by rw[eW,kf];exact Nat.mul_le_mul_right _ oM
         have:=AB (ty:=ty) h hd mr hk AN lO (vx:=vx) (xs:=cur.toList.take (n * sz)) (xs0:=(bx t).es.take n) (n:=n) (us0:=us0)
          (by rw[lz];refine⟨by simp;omega,.inr ⟨p.b,p.cap,cur,rfl,Nat.zero_le _,?_,hn,jd,by rw[eW,kf],rfl⟩⟩;rw[gm,vY,c6]) hlen (fun i d hi=>(bP i d (ez i d hi).2).trans kf)
          (fun i d j c hi hj=>by
           obtain⟨g1,g2⟩:=ez i d hi;obtain⟨u1,u2,u3⟩:=gB i d j c g2 hj;refine⟨?_,u2,u3⟩;have AQ:j<sz:=by have:=(gS.1 hj).1;rw[bP i d g2,kf]at this;exact this
           have ar:i * sz+j<n * sz:=by
            have:=Nat.mul_le_mul_right sz (show i+1<=n from g1);rw[Nat.succ_mul]at this;omega
           rw[List.getElem?_take_of_lt ar,aG,<-kf];exact u1) bw x9 lN iq c8 Cm (bx1:=aj bx t {bx t with k:=0})
          (fun s=>by
           by_cases hs:s=t
           ·subst hs;exact .inr ⟨by simp[aj],by simp[aj],Nat.le_trans bH c0⟩
           ·exact .inl (by simp[aj,hs]))
          (by
           rw[lz];intro b hb;simp only[Value.ownBlock,sJ]at hb;exact⟨t,p,c4,by rw[c3];exact hp,hb.symm,.inr (by simp[aj])⟩)
         exact this
        ·cases hv
       ·rename_i sz es;split at hv
        ·rename_i hc;obtain⟨c1,c8,c9,Cm⟩:=hc;injection hv with hv;subst hv;subst c1;subst x9;have yP:∀i j,i<ys.length->j<sz->w.cell? ⟨b,off+i * sz+j,none⟩=some (us i j)/\(us i j).oneCell'=true:=by
          intro i j hi hj;have hd:=gE hi;have hc:=gE (show j<ys[i].cells.length by rw[lN i _ hd];exact hj);exact⟨(iq i _ j _ hd hc).1,(iq i _ j _ hd hc).2.2⟩
         have qQ:Src P sz T (.slice (some ⟨b,off,none⟩) ys.length c) ys.length (rowOf us ys.length sz) w:=
          Src.ofSlice w hu ⟨b,off,none⟩ ys.length c (rowOf us ys.length sz) (iP _ _ _) (fun j u hj=>by
           obtain⟨k,l,hk,hl,rfl,rfl⟩:=kZ hj;rw[Addr.ei];have:=(yP k l hk hl).1;rw[<-Nat.add_assoc];exact this) (fun u hu=>by
           obtain⟨j,hj⟩:=List.mem_iff_getElem?.1 hu;obtain⟨k,l,hk,hl,rfl,rfl⟩:=kZ hj;exact(yP k l hk hl).2)
         have dQ:=hx.fC rfl;obtain⟨A',yL⟩:=dQ.vM;have eO:=dQ.rT;rw[yL]at eO⊢;cases eO with
         |@sl _ _ _ n cap b2 off2 gv hn dK jd xS Hy ke AM yZ=>
          have hold:(Builtin.firstCells sz es.length (.slice A' es.length es.length)).run P w.drew= .ok (rowOf gv es.length sz).toArray w.drew:=by
           by_cases ik:es=[]
           ·subst ik;cases A' with
            |none=>simpa[rowOf]using run_firstCells_none (P:=P) w.drew sz 0 0 0
            |some a0=>exact run_firstCells_some w.drew sz 0 a0 0 _ _ (by simp[rowOf]) (by simp[rowOf])
           ·obtain⟨NO,_⟩:=xS ik;subst NO;refine run_firstCells_some w.drew sz es.length _ _ _ (rowOf gv es.length sz) (iP _ _ _) fun j u hj=>?_;obtain⟨k,l,hk,hl,rfl,rfl⟩:=kZ hj;rw[Addr.ei];have hd:=gE hk;have hc:=gE (show l<es[k].cells.length by rw[Hy k _ hd];exact hl);have:=ke k _ l _ hd hc;rw[<-Nat.add_assoc];simpa using this
          exact uN (ty:=ty) (bx1:=bx) h hd mr hk oM lO rfl (by have:=List.length_pos_iff.2 bw;omega) Hy (fun i d j c hi hj=>⟨.pure (yZ i d j c hi hj),AM i d j c hi hj⟩) hold bw qQ lN (fun i d j c hi hj=>(iq i d j c hi hj).2) c8 Cm (fun _=> .inl rfl)
        ·cases hv
       ·cases hv
      ·cases hv
  ·cases hv
 ·unfold vt at hv;split at hv
  ·rename_i yy el esz bytes ag kn d0 kq n hk cW ni;cases dst with
   |none=>simp[ld]at ni
   |some d=>
    simp only[ld,sJ]at ni;subst ni;have mr:X.lo<=base+d:=Nat.le_trans wW (Nat.le_add_right _ _);split at hv
    ·rename_i hc;obtain⟨c0,c1,c2,c3,c4⟩:=hc;rw[Option.bind_eq_some_iff]at hv;obtain⟨zd,C1,hv⟩:=hv;obtain⟨hu,he,su,_⟩:=dt hk;obtain⟨m,rfl⟩:∃m:Nat,n=m:=⟨n.toNat,by omega⟩
     simp only[Int.toNat_natCast]at hv;have hyv:=hy.ed;rw[hyv];obtain⟨i,z,hi,we,A0⟩:=tD (P:=P) (t:=el) oM;have bP:i.size=esz:=by
      obtain⟨i',_,dN,_,eb⟩:=lT (P:=P) (t:=el) oM;rw[hi]at dN;injection dN with dN;rw[dN,eb,he]
     have CL:i.bytes=bytes:=by rw[su,hi];rfl
     have SW:∀B q cap,q<=cap->vx= .slice B q cap->(Builtin.append_ #[T,T'] ty #[vx,.int kq ((0:Nat):Int)]).run P w= .ok (.slice B q cap) w:=fun B q cap hq lz=>by
      subst lz;cases B<;>simp[Builtin.append_,run_underlying hu,run_underlying (uw cW),sizeOf,typeInfo,hi,asInt,asIntOf,IntKind.wrap,IntKind.signed,IntKind.bits,hq,storeCells]
     unfold uI at hv;split at hv
     ·split at hv
      ·rename_i h0;rw[List.replicate_eq_nil_iff]at h0;subst h0;injection hv with hv;subst hv;exact⟨_,w,SW none 0 0 (Nat.le_refl _) hx.gi,ρ,by have:=h.put (dst:=some d) (v:=vx) (fun t ht=>by injection ht with ht;subst ht;exact cw d rfl) hx;rw[hx.gi]at this;exact this⟩
      ·rename_i hm;have hm:0<m:=Nat.pos_of_ne_zero fun h=>hm (by rw[h];rfl);unfold ph at hv;simp only at hv;split at hv
       ·rename_i hc;injection hv with hv;subst hv;have:=DO (ty:=ty) (kq:=kq) h (cw d rfl) mr hk cW oM c2 C1 (vx:=vx) (xs:=[]) (xs0:=[]) (n:=0) (us0:=fun _ _=>undef) (by rw[hx.gi];exact World.ownsRow_nil w 0 el esz) rfl sI sI hm (by simpa using hc.1) c4 (bx1:=bx) (fun _=> .inl rfl)
         (by rw[hx.gi];simp[Value.ownBlock])
        rw[List.length_replicate];simp only[Nat.zero_add,List.nil_append]at this;exact this
       ·cases hv
     ·rename_i t e sz o n;split at hv
      ·rename_i h0;rw[List.replicate_eq_nil_iff]at h0;subst h0;injection hv with hv;subst hv;obtain⟨p,off,cap,_,_,_,_,hn,_,_,lz⟩:=hx.pJ;exact⟨_,w,SW _ _ _ hn lz,ρ,by have:=h.put (dst:=some d) (v:=vx) (fun t ht=>by injection ht with ht;subst ht;exact cw d rfl) hx;rw[lz]at this;exact this⟩
      ·rename_i hm;have hm:0<m:=Nat.pos_of_ne_zero fun h=>hm (by rw[h];rfl);unfold ph at hv;simp only at hv;unfold DY at hv;split at hv
       ·rename_i hc;obtain⟨q0,q1,q2,q3,q4,q5,q6,q7,q8,q9,oC⟩:=hc;injection hv with hv;subst hv;subst q1;subst q2;obtain⟨p,vF,cap,hp,kf,h0,_,hn,_,jd,lz⟩:=hx.pJ;obtain⟨rfl,rfl⟩:=h0 rfl;obtain⟨p',bL,D7,vY,gN,hh⟩:=h.box t (by rw[q4];decide);rw[q3,hp]at bL;injection bL with bL;subst bL;obtain⟨⟨cur,gm,eW,us0,gB⟩,rK,xZ,WZ⟩:=hh;have hlen:((bx t).es.take n).length=n:=by simp;omega
        have ez:∀(i:Nat) d,((bx t).es.take n)[i]? =some d->i<n/\(bx t).es[i]? =some d:=by
         intro i d hi;have:=(gS.1 hi).1;rw[List.getElem?_take_of_lt oM]at hi;exact⟨by omega,hi⟩
        have jM:n * sz<=cur.size:=by rw[eW,kf];exact Nat.mul_le_mul_right _ oM
        have:=DO (ty:=ty) (kq:=kq) h (cw d rfl) mr hk cW oM c2 C1 (vx:=vx) (xs:=cur.toList.take (n * sz)) (xs0:=(bx t).es.take n) (n:=n) (us0:=us0)
         (by rw[lz];refine⟨by simp;omega,.inr ⟨p.b,p.cap,cur,rfl,Nat.zero_le _,?_,hn,jd,by rw[eW,kf],rfl⟩⟩;rw[gm,vY,q6]) hlen (fun i d hi=>(WZ i d (ez i d hi).2).trans kf)
         (fun i d j c hi hj=>by
          obtain⟨g1,g2⟩:=ez i d hi;obtain⟨u1,u2,u3⟩:=gB i d j c g2 hj;refine⟨?_,u2,u3⟩;have AQ:j<sz:=by have:=(gS.1 hj).1;rw[WZ i d g2,kf]at this;exact this
          have ar:i * sz+j<n * sz:=by
           have:=Nat.mul_le_mul_right sz (show i+1<=n from g1);rw[Nat.succ_mul]at this;omega
          rw[List.getElem?_take_of_lt ar,aG,<-kf];exact u1) hm (by simpa using q8) c4 (bx1:=aj bx t {bx t with k:=0})
         (fun s=>by
          by_cases hs:s=t
          ·subst hs;exact .inr ⟨by simp[aj],by simp[aj],Nat.le_trans bH q0⟩
          ·exact .inl (by simp[aj,hs]))
         (by
          rw[lz];intro b hb;simp only[Value.ownBlock,sJ]at hb;exact⟨t,p,q4,by rw[q3];exact hp,hb.symm,.inr (by simp[aj])⟩)
        rw[List.length_replicate];exact this
       ·cases hv
     ·cases hv
    ·cases hv
  ·rename_i yy el esz bytes ag d0 s hk cW ni;split at hv
   ·rename_i hc;obtain⟨c1,rfl,c3⟩:=hc;refine absurd ?_ hq;have he:pW (an P) T T' 1 el bx (.str s)=some (aB s):=by
     unfold pW;rw[if_neg (by assumption),cW];simp[c3]
    simp only[uH,hk,ni,he,c1,Nat.one_pos,and_self,if_true,Option.bind_some];simp only[fN,hk,ni,c1,if_true]at hv;by_cases iq:aB s=[]
    ·rw[if_pos iq]at hv⊢;unfold S8 at hv;split at hv<;>first|(injection hv with hv;subst hv;rfl)|cases hv
    ·rw[if_neg iq]at hv⊢;unfold ph at hv;split at hv
     ·split at hv
      ·rename_i hc;injection hv with hv;subst hv;simp[vr,hc]
      ·cases hv
     ·unfold DY at hv;split at hv
      ·rename_i hc;obtain⟨q0,q1,q2,q3,q4,q5,q6,q7,q8,q9,oC⟩:=hc;injection hv with hv;subst hv;subst q2;simp[vr,q0,q1,q3,q4,q5,q6,q7,q8,oC]
      ·cases hv
     ·split at hv
      ·rename_i hc;injection hv with hv;subst hv;simp[vr,hc]
      ·cases hv
     ·cases hv
   ·cases hv
  ·cases hv
end Go.V
namespace Go.V
open Go.RowKit
variable {P:Program} {X:Ctx} {ρ:cQ} {σ:Env} {bx:ae} {a:Act} {w:World}
variable {ty:TypeId} {pos:String} {af:Array Edge} {g:Option (Nat×Bool)}
def ahe(n m:Nat):Nat.min n m=min n m:=rfl
def Oc{S:Nat->Prop}{p:Place}{es ys:List D}{o:Nat}{gv:Nat->Value}{cur:Array Value}
 (hh:Holds w S ρ p es) (gm:w.heap[p.b]? =some (.cells cur p.ty)) (hS:∀b,S b->b≠p.b) (hz:p.sz=1) (jM:o+ys.length<=es.length)
 (hy:∀(i:Nat) d,ys[i]? =some d->d.one=true/\aJ w S ρ d (gv i)/\(gv i).oneCell'=true):
 Holds (w.setRow p.b (cur.toList.take o++(List.range ys.length).map gv++cur.toList.drop (o+ys.length)).toArray) S ρ p (es.take o++ys++es.drop (o+ys.length)):=by
 obtain⟨⟨cur0,Al,eW,us,gB⟩,rK,xZ,bP⟩:=hh;rw[gm]at Al;injection Al with Al;injection Al with Al;subst Al;rw[hz,Nat.mul_one]at eW;have Hr:∀k,(cur.toList.take o++(List.range ys.length).map gv++cur.toList.drop (o+ys.length)).toArray[k]? =if o<=k/\k<o+ys.length then some (gv (k - o))else cur[k]?:=by
  intro k;have yV:(cur.toList.take o).length=o:=by simp;omega
  rw[List.getElem?_toArray,List.append_assoc];by_cases h1:k<o
  ·rw[List.getElem?_append_left oM,List.getElem?_take_of_lt h1,if_neg oM,aG]
  ·rw[List.getElem?_append_right oM,yV];by_cases h2:k<o+ys.length
   ·rw[List.getElem?_append_left (by simp;omega),if_pos oM,gM,List.getElem?_range oM];rfl
   ·rw[List.getElem?_append_right (by simp;omega),if_neg oM,List.getElem?_drop,aG]
    congr 1
    simp;omega
 have n7:(cur.toList.take o++(List.range ys.length).map gv++cur.toList.drop (o+ys.length)).toArray.size=p.cap:=by rw[<-eW];simp;omega
 generalize(cur.toList.take o++(List.range ys.length).map gv++cur.toList.drop (o+ys.length)).toArray=new at Hr n7⊢;have lG:∀c u,aJ w S ρ c u->aJ (w.setRow p.b new) S ρ c u:=fun c u hr=>hr.mono (fun b eo=>setRow_other w p.b b new (hS b eo)) (fun _ h=>h) (fun _ _ _ h=>h);have yV:(es.take o).length=o:=by simp;omega
 have ez:∀(i:Nat) d,(es.take o++ys++es.drop (o+ys.length))[i]? =some d->(o<=i/\i<o+ys.length/\ys[i - o]? =some d)\/(¬(o<=i/\i<o+ys.length)/\es[i]? =some d):=by
  intro i d hi;rw[List.append_assoc]at hi;by_cases h1:i<o
  ·rw[List.getElem?_append_left oM,List.getElem?_take_of_lt h1]at hi;exact .inr ⟨by omega,hi⟩
  ·rw[List.getElem?_append_right oM,yV]at hi;by_cases h2:i<o+ys.length
   ·rw[List.getElem?_append_left oM]at hi;exact .inl ⟨by omega,h2,hi⟩
   ·rw[List.getElem?_append_right oM,List.getElem?_drop]at hi;refine .inr ⟨by omega,?_⟩;rw[<-hi];congr 1;omega
 refine⟨⟨new,setRow_heap w p.b cur new p.ty (0,0) gm,by rw[n7,hz,Nat.mul_one],fun i k=>if o<=i/\i<o+ys.length then gv (i - o)else us i k,fun i d k c hi hk=>?_⟩,by simp;omega,xZ,fun i d hi=>?_⟩
 ·rcases ez i d hi with⟨h1,h2,h3⟩|⟨h1,h3⟩
  ·obtain⟨q1,q2,q3⟩:=hy _ _ h3;rw[gk q1]at hk;obtain rfl:k=0:=by
    rcases k with _|k
    ·rfl
    ·simp at hk
   simp only[List.getElem?_cons_zero,sJ]at hk;subst hk;dsimp only;rw[if_pos ⟨h1,h2⟩];refine⟨?_,lG _ _ q2,q3⟩;rw[Hr,hz,Nat.mul_one,Nat.add_zero,if_pos ⟨h1,h2⟩]
  ·obtain⟨u1,u2,u3⟩:=gB i d k c h3 hk;dsimp only;rw[if_neg h1];refine⟨?_,lG _ _ u2,u3⟩;have kN:k<1:=by have:=(gS.1 hk).1;rw[bP i d h3,hz]at this;exact this
   obtain rfl:k=0:=oM;rw[Hr,hz,Nat.mul_one,Nat.add_zero,if_neg h1];rw[hz,Nat.mul_one,Nat.add_zero]at u1;exact u1
 ·rcases ez i d hi with⟨h1,h2,h3⟩|⟨h1,h3⟩
  ·rw[gk (hy _ _ h3).1,hz];rfl
  ·exact bP i d h3
def Lg(h:aA X ρ σ bx a w){T T':TypeId}{x y:Operand}{dst:Option Tmp}(cw:∀t,dst=some t->t<X.N){lo:Nat}(bH:X.lo<=lo){r:Nat×ae}(hv:wN lo (an P T) (an P T') bx (ev σ x) (ev σ y)=some r):
 ∃v w',(execOp a.eval ⟨dst,.call {callee:=.builtin .copy,args:= #[x,y],argTypes:= #[T,T']},ty,pos,af,g⟩).run P w= .ok (.value v) w'/\aA X ρ (put σ dst (.int .i64 (r.1:Int))) r.2 (a.put dst v) w':=by
 have hx:=h.ev x;have hy:=h.ev y;suffices hs:∃w',(Builtin.copy_ #[T,T'] ty #[a.eval x,a.eval y]).run P w= .ok (goInt r.1) w'/\aA X ρ σ r.2 a w' by
  obtain⟨w',hr,hS⟩:=hs;refine⟨goInt r.1,w',?_,hS.put cw (.pure (.int .i64 _))⟩;simp only[execOp,resolve,invoke,builtin,Sem.run_bind,Sem.run_pure,Result.andThen_ok,List.map_toArray,mC,List.map_nil,hr]
 generalize ev σ x=dx at hv hx;generalize ev σ y=dy at hv hy;generalize a.eval x=vx at hx⊢;generalize a.eval y=vy at hy⊢;unfold wN at hv;split at hv
 ·rename_i el esz bytes ag _ _ _ _ hk _;split at hv
  ·rename_i yR;subst yR;rw[Option.bind_eq_some_iff]at hv;obtain⟨ys,er,hv⟩:=hv;split at hv
   ·rename_i fj;obtain⟨A,c,b,off,us,x9,hA,lN,iq⟩:=oL h hy er;obtain⟨hu,he,_,_⟩:=dt hk;obtain⟨i,hi,bP⟩:∃i,P.info? el=some i/\i.size=1:=by
     obtain⟨i',_,dN,_,eb⟩:=lT (P:=P) (t:=el) oM;exact⟨i',dN,by omega⟩
    have W0:(P.info? el).map (·.size)=some 1:=by rw[hi];simp[bP]
    have none_:∀(d:Option Addr) (n cap:Nat),vx= .slice d n cap->min ys.length n=0->r=(0,bx)->∃w',(Builtin.copy_ #[T,T'] ty #[vx,vy]).run P w= .ok (goInt r.1) w'/\aA X ρ σ r.2 a w':=by
     rintro d n cap rfl h0 rfl;subst x9;exact⟨w,run_copy_none (P:=P) w T T' ty el d A n cap ys.length c hu W0 h0,h⟩
    have rows:∀(p:Place) (o n cap:Nat) (m:Nat) (cur:Array Value),m=min ys.length n->0<m->vx= .slice (some ⟨p.b,o,none⟩) n cap->w.heap[p.b]? =some (.cells cur p.ty)->o+m<=cur.size->
     (Builtin.copy_ #[T,T'] ty #[vx,vy]).run P w= .ok (goInt m) (w.setRow p.b (cur.toList.take o++(List.range m).map (fun i=>us i 0)++cur.toList.drop (o+m)).toArray):=by
     rintro p o n cap m cur hm WE rfl gm jM;have bw:ys≠[]:=by rintro rfl;simp at hm;omega
     obtain rfl:=hA bw;subst x9;have fL:∀k,k<ys.length->∃d,ys[k]? =some d/\d.cells=[d]:=fun k hk=>⟨_,gE hk,gk (List.all_eq_true.1 fj _ (List.getElem_mem hk))⟩
     have:=run_copy_row (P:=P) w T T' ty el p.b o n cap ⟨b,off,none⟩ ys.length c cur p.ty ((List.range m).map fun i=>us i 0) hu W0 gm (by simp[hm]) (fun j v hj=>by
      have pE:=(gS.1 hj).1;simp only[List.length_map,List.length_range]at pE;rw[gM,List.getElem?_range pE]at hj;simp only[Option.map_some,sJ]at hj;obtain⟨d,hd,J5⟩:=fL j oM;have:=(iq j d 0 d hd (by rw[J5];rfl)).1;rw[Addr.ei,<-hj];simpa using this) (by simpa using jM) (fun v hv=>by
      obtain⟨j,hj,rfl⟩:=List.mem_map.1 hv;obtain⟨d,hd,J5⟩:=fL j (by have:=List.mem_range.1 hj;omega);exact(iq j d 0 d hd (by rw[J5];rfl)).2.2)
     simpa using this
    have Kl:∀(m i:Nat) d,(ys.take m)[i]? =some d->d.one=true/\aJ w (az X ρ bx w) ρ d (us i 0)/\(us i 0).oneCell'=true:=fun m i d hi=>by
     have dN:=(gS.1 hi).1;rw[List.getElem?_take_of_lt (by simp at dN;omega)]at hi;have h1:=List.all_eq_true.1 fj d (mG hi);have:=iq i d 0 d hi (by rw[gk h1];rfl);exact⟨h1,this.2⟩
    unfold wO at hv;split at hv
    ·injection hv with hv;exact none_ none 0 0 hx.gi sI hv.symm
    ·rename_i t e sz o n;split at hv
     ·rename_i hc;obtain⟨c0,c1,c2,c3,c4,c5⟩:=hc;injection hv with hv;subst c1;obtain⟨p,vF,cap,hp,kf,h0,dY,hn,Ob,jd,lz⟩:=hx.pJ;obtain⟨p',bL,D7,vY,gN,hh⟩:=h.box t (by rw[c3];decide);rw[c2,hp]at bL;injection bL with bL;subst bL;have Fa:ρ t (bx t).ep=some p:=by rw[c2];exact hp
      by_cases hm:min ys.length n=0
      ·refine none_ _ n cap lz hm ?_;rw[<-hv,hm];have:ys.take n=[]:=by
        rcases Nat.eq_zero_or_pos n with h0|h0
        ·rw[h0];rfl
        ·have:ys.length=0:=oM;rw[List.eq_nil_of_length_eq_zero this];simp
       rw[this]
       congr 1
       funext s;simp only[aj,List.append_nil,Nat.add_zero,List.take_append_drop];split
       ·rename_i hs;rw[hs]
       ·rfl
      ·obtain⟨cur,gm,eW,_⟩:=hh.ex;have rK:=hh.len;have ho:=dY oM;rw[Nat.mul_one]at ho;have jM:vF+min ys.length n<=cur.size:=by rw[eW,kf,ho];omega
       have hr:=rows p vF n cap (min ys.length n) cur rfl oM lz gm jM;have hl:(ys.take n).length=min ys.length n:=by simp[Nat.min_comm]
       have hH:=Oc (o:=o) hh gm (fun b hb e=>hb.2.2 t c3 p Fa e.symm) kf (by rw[hl];omega) (Kl n);rw[hl,<-ho]at hH;refine⟨_,by rw[<-hv];exact hr,?_⟩;rw[<-hv];rw[ho]at hH⊢;exact h.stored (Nat.le_trans bH c0) c3 Fa ⟨rfl,rfl,rfl,by simp[World.setRow],fun k _ hk=>setRow_other w p.b k _ hk⟩ hH
     ·cases hv
    ·rename_i t e i0 j n;split at hv
     ·rename_i hc;obtain⟨c0,c2,c3⟩:=hc;split at hv
      ·rename_i d0 ni;rw[mS]at hv;obtain⟨d',gI,hv⟩:=hv;obtain⟨p,vF,cap,hp,dY,hn,dK,lz⟩:=hx.D9;obtain⟨p',bL,D7,vY,gN,hh⟩:=h.box t (by rw[c3];decide);rw[c2,hp]at bL;injection bL with bL;subst bL;have Fa:ρ t (bx t).ep=some p:=by rw[c2];exact hp
       have hl:(ys.take n).length=min ys.length n:=by simp[Nat.min_comm]
       by_cases hm:min ys.length n=0
       ·refine none_ _ n cap lz hm ?_;rw[<-hv,hm];have:ys.take n=[]:=List.eq_nil_of_length_eq_zero oM;rw[this]at gI
        congr 1
        have hd:d'=d0:=by
         unfold fl at gI;split at gI
         ·split at gI
          ·injection gI with gI;rw[<-gI];simp
          ·cases gI
         ·cases gI
        subst hd;funext s;simp only[aj];split
        ·rename_i hs;rw[hs];have:(bx t).es.set i0 d'=(bx t).es:=by
          obtain⟨h1,h2⟩:=gS.1 ni;rw[<-h2];simp
         rw[this]
        ·rfl
       ·have hdy:aJ w (az X ρ bx w) ρ (.agg (ys.take n)) (.agg ((List.range (min ys.length n)).map fun i=>us i 0).toArray):=by
         refine .agg (by simp[Nat.min_comm]) fun i d v hi aX=>?_;have:=Kl n i d hi;have dN:=(gS.1 hi).1;rw[List.getElem?_toArray,gM,List.getElem?_range oM]at aX;simp only[Option.map_some,sJ]at aX;rw[<-aX];exact this.2.1
        obtain⟨cur,gm,jy,eH,J9⟩:=E8 (dy:=.agg (ys.take n)) hh (fun b hb e=>hb.2.2 t c3 p Fa e.symm) ni gI (List.all_eq_true.2 fun d hd=>List.all_eq_true.1 fj d (List.mem_of_mem_take hd)) hdy;have ho:=dY oM;have fL:(Value.agg ((List.range (min ys.length n)).map fun i=>us i 0).toArray).cells=((List.range (min ys.length n)).map fun i=>us i 0).toArray:=rfl;rw[fL]at jy J9;have hr:=rows p vF n cap (min ys.length n) cur rfl oM lz gm (by rw[ho];simpa using jy);refine⟨_,by rw[<-hv];exact hr,?_⟩;rw[<-hv,ho];have he:(cur.toList.take (i0 * p.sz+j)++(List.range (min ys.length n)).map (fun i=>us i 0)++cur.toList.drop (i0 * p.sz+j+min ys.length n)).toArray=putRow cur (i0 * p.sz+j) ((List.range (min ys.length n)).map fun i=>us i 0).toArray:=by unfold putRow;simp
        rw[he];exact h.stored (Nat.le_trans bH c0) c3 Fa ⟨rfl,rfl,rfl,by simp[World.setRow],fun k _ hk=>setRow_other w p.b k _ hk⟩ J9
      ·cases hv
     ·cases hv
    ·cases hv
   ·cases hv
  ·cases hv
 ·cases hv
end Go.V
namespace Go.V
open Go.RowKit
def cI(w:World)(S:Nat->Prop)(d:D)(v:Value)(w':World):Prop:=
 bB w' (fun b=>S b\/(w.heap.size<=b/\b<w'.heap.size)) d v/\Below w.heap.size w w'
def ao(P:Program)(f:FuncId)(ds:List D)(d:D):Prop:=
 ∀(w:World) (S:Nat->Prop) (vs:Array Value),(∀b,S b->b<w.heap.size)->bB w S .fK undef->vs.size=ds.length->(∀(i:Nat) x v,ds[i]? =some x->vs[i]? =some v->bB w S x v)->
  ((callFunc f vs).run P w= .ok (.enter f vs) w/\Calls P f vs w (fun e w'=>∃v,e= .returned v/\cI w S d v w'))\/
  (∃v w',(callFunc f vs).run P w= .ok (.value v) w'/\cI w S d v w')
variable {P:Program} {C:Calc} {X:Ctx} {ρ:cQ} {σ:Env} {bx:ae} {a:Act} {w:World}
theorem rz:∀(ds:List D),D.FY ds=true->∀(i:Nat) d,ds[i]? =some d->d.bare=true
 |[],_,i,d,hd=>by simp at hd
 |x::xs,hp,i,d,hd=>by
  simp only[D.FY,bA]at hp;cases i with
  |zero=>simp at hd;subst hd;exact hp.1
  |succ i=>exact rz xs hp.2 i d (by simpa using hd)
def u9(ds:List D)(hp:D.aF ds=true)(i:Nat)(d:D)(hd:ds[i]? =some d):d.pure=true:=uh ds hp d (mG hd)
theorem bB.bare{w w':World}{S S':Nat->Prop}{d:D}{v:Value}(h:bB w S d v)(hb:d.bare=true):bB w' S' d v:=by
 induction h with
 |undef v=>simp[D.bare]at hb
 |any ds v=>exact .any ds v
 |fK=>simp[D.bare]at hb
 |int k n=>exact .int k n
 |bool b=>exact .bool b
 |ic b=>exact .ic b
 |str l=>exact .str l
 |raw x=>exact .raw x
 |aq=>exact .aq
 |agg hl _ ih=>exact .agg hl fun i d v hd hv=>ih i d v hd hv (rz _ (by simpa only[D.bare]using hb) i d hd)
 |aI hl _ ih=>exact .aI hl fun i d v hd hv=>ih i d v hd hv (rz _ (by simpa only[D.bare]using hb) i d hd)
 |sl=>simp[D.bare]at hb
 |cG=>simp[D.bare]at hb
 |ij=>simp[D.bare]at hb
 |fn hl _ ih=>exact .fn hl fun i d v hd hv=>ih i d v hd hv (rz _ (by simpa only[D.bare]using hb) i d hd)
 |iC hl _ ih=>exact .iC hl fun i d v hd hv=>ih i d v hd hv (rz _ (by simpa only[D.bare]using hb) i d hd)
 |dI _ ih=>exact .dI (ih (by simpa only[D.bare]using hb))
mutual
def names:D->List Nat
 | .loc t _ _ _| .bp t _ _ _ _| .fJ t _ _ _ _=>[t]
 | .agg ds| .aI ds| .fn _ ds| .iC _ ds=>bM ds
 | .dI _ d=>names d
 |_=>[]
def bM:List D->List Nat
 |[]=>[]
 |d::ds=>names d++bM ds
end
def xQ(b:Bx):Bx:={b with k:=if b.k=1 then 2 else b.k}
def TE(b:Bx):xQ (xQ b)=xQ b:=by
 unfold xQ;by_cases h:b.k=1<;>simp[h]
mutual
theorem JX(bx:ae)(t:Nat):∀d:D,ey bx d t=if t∈names d then xQ (bx t)else bx t
 | .loc s _ _ _=>by simp only[ey,names,aj,List.mem_singleton];split<;>simp_all[xQ]
 | .bp s _ _ _ _=>by simp only[ey,names,aj,List.mem_singleton];split<;>simp_all[xQ]
 | .fJ s _ _ _ _=>by simp only[ey,names,aj,List.mem_singleton];split<;>simp_all[xQ]
 | .ij _ _=>by simp[ey,names]
 | .agg ds=>by simp only[ey,names];exact eL bx t ds
 | .aI ds=>by simp only[ey,names];exact eL bx t ds
 | .fn f ds=>by simp only[ey,names];exact eL bx t ds
 | .iC f ds=>by simp only[ey,names];exact eL bx t ds
 | .dI _ d=>by simp only[ey,names];exact JX bx t d
 | .undef=>by simp[ey,names]
 | .any _=>by simp[ey,names]
 | .fK=>by simp[ey,names]
 | .ic=>by simp[ey,names]
 | .int _ _=>by simp[ey,names]
 | .bool _=>by simp[ey,names]
 | .str _=>by simp[ey,names]
 | .raw _=>by simp[ey,names]
 | .aq=>by simp[ey,names]
 | .sl _ _=>by simp[ey,names]
 | .cG _ _=>by simp[ey,names]
 | .omap _ _=>by simp[ey,names]
theorem eL(bx:ae)(t:Nat):∀ds:List D,dX bx ds t=if t∈bM ds then xQ (bx t)else bx t
 |[]=>by simp[dX,bM]
 |d::ds=>by
  simp only[dX,bM,List.mem_append];rw[eL (ey bx d) t ds,JX bx t d];by_cases h1:t∈names d<;>by_cases h2:t∈bM ds<;>simp[h1,h2,TE]
end
theorem bB.lI{S S':Nat->Prop}{d:D}{v:Value}(h:bB w S d v)(hS:∀b,S b->S' b):bB w S' d v:=h.mono (fun _ _=>rfl) hS
theorem aJ.D_{S:Nat->Prop}{t:TypeId}{d:D}{v:Value}(h:aJ w S ρ (.dI t d) v):∃u,v= .iface t u/\aJ w S ρ d u:=by
 cases h with
 |pure h=>cases h with|dI h=>exact⟨_,rfl,.pure h⟩
 |dI h=>exact⟨_,rfl,h⟩
def pB{x:Option D}{xs:Option (List D)}{r:List D}(h:lD x xs=some r):∃y ys,x=some y/\xs=some ys/\r=y::ys:=by
 cases x<;>cases xs<;>simp[lD]at h;exact⟨_,_,rfl,rfl,h.symm⟩
def zZ(X:Ctx)(ρ:cQ)(bx:ae)(w:World)(S':Nat->Prop)(ns:List Nat):Prop:=
 (∀b,az X ρ bx w b->S' b)/\∀t∈ns,lv (bx t).k->∀p,ρ t (bx t).ep=some p->S' p.b
def MI(d:D):d.Ex.cells=d.cells.map D.vl:=by
 have key:∀c:D,c.cells=[c]->(D.vl c).cells=[D.vl c]:=by
  intro c h;unfold D.vl;split
  ·exact h
  ·rfl
 cases d with
 |agg ds=>rfl
 |_=>exact key _ rfl
mutual
theorem n_(h:aA X ρ σ bx a w){S':Nat->Prop}:∀(d d':D) (v:Value),zZ X ρ bx w S' (names d)->aJ w (az X ρ bx w) ρ d v->bD bx d=some d'->bB w S' d' v
 | .loc t e i j,d',v,hS,hr,ho=>by
   simp only[bD]at ho;split at ho
   ·rename_i hc;obtain⟨he,hk⟩:=hc;split at ho
    ·rename_i d hd;split at ho
     ·rename_i hp;injection ho with ho;subst ho;obtain⟨p,CV,rfl⟩:=hr.lP;obtain⟨p',bL,kf,vY,gN,hh⟩:=h.box t hk;rw[he,CV]at bL;injection bL with bL;subst bL;obtain⟨⟨cur,gm,eW,us,gB⟩,rK,xZ,bP⟩:=hh;refine .cG (off:=i * p.sz) (us:=us i) (hS.2 t (by simp[names]) hk p (by rw[he];exact CV)) rfl (fun m c hm=>?_) (fun m c hm=>(gB i d m c hd hm).2.2) (fun m c hm=>?_)
      ·simp[World.cell?,gm,(gB i d m c hd hm).1]
      ·exact((gB i d m c hd hm).2.1.fC (sY hp c (mG hm))).lI hS.1
     ·injection ho with ho;subst ho;obtain⟨p,CV,rfl⟩:=hr.lP;obtain⟨p',bL,kf,vY,gN,hh⟩:=h.box t hk;rw[he,CV]at bL;injection bL with bL;subst bL;obtain⟨⟨cur,gm,eW,us,gB⟩,rK,xZ,bP⟩:=hh;have jx:∀(m:Nat) c',d.Ex.cells[m]? =some c'->∃c,d.cells[m]? =some c/\c'=D.vl c:=fun m c' hm=>by
       rw[MI,gM,mS]at hm;obtain⟨c,h1,h2⟩:=hm;exact⟨c,h1,h2.symm⟩
      refine .cG (off:=i * p.sz) (us:=us i) (hS.2 t (by simp[names]) hk p (by rw[he];exact CV)) rfl (fun m c' hm=>?_) (fun m c' hm=>?_) (fun m c' hm=>?_)
      ·obtain⟨c,hc,_⟩:=jx m c' hm;simp[World.cell?,gm,(gB i d m c hd hc).1]
      ·obtain⟨c,hc,_⟩:=jx m c' hm;exact(gB i d m c hd hc).2.2
      ·obtain⟨c,hc,rfl⟩:=jx m c' hm;unfold D.vl;split
       ·rename_i vW;exact((gB i d m c hd hc).2.1.fC vW).lI hS.1
       ·exact .undef _
    ·cases ho
   ·cases ho
 | .bp t e sz o n,d',v,hS,hr,ho=>by
   simp only[bD]at ho;split at ho
   ·rename_i hc;obtain⟨he,hk,hz,hle⟩:=hc;split at ho
    ·rename_i hp;injection ho with ho;subst ho;have er:gT bx sz (.bp t e sz o n)=some (((bx t).es.drop o).take n):=by unfold gT;exact if_pos ⟨rfl,he,hk,hz,hle⟩
     obtain⟨p,off,cap,CV,kf,h0,dY,hn,dK,jd,rfl⟩:=hr.pJ;obtain⟨A,c,b,vF,us,hv,hA,lN,iq⟩:=oL h hr er;injection hv with im eN qg;have gN:((bx t).es.drop o).take n≠[]->b=p.b:=fun bw=>by
      have:=hA bw;rw[this]at im;injection im with im;injection im with im;exact im.symm
     refine .sl (b:=b) (off:=vF) (us:=us) eN oM oM (fun bw=>⟨im.trans (hA bw),?_⟩) lN (fun i d j c hi hj=>(iq i d j c hi hj).1) (fun i d j c hi hj=>(iq i d j c hi hj).2.2) (fun i d j c hi hj=>?_)
     ·rw[gN bw];exact hS.2 t (by simp[names]) hk p (by rw[he];exact CV)
     ·exact((iq i d j c hi hj).2.1.fC (sY (uh _ hp d (mG hi)) c (mG hj))).lI hS.1
    ·cases ho
   ·cases ho
 | .fJ t e i j n,d',v,hS,hr,ho=>by
   simp only[bD]at ho;split at ho
   ·rename_i hc;obtain⟨he,hk⟩:=hc;split at ho
    ·rename_i d0 ni;split at ho
     ·rename_i ke;obtain⟨hle,hp,ea⟩:=ke;injection ho with ho;subst ho;have er:gT bx 1 (.fJ t e i j n)=some ((d0.cells.drop j).take n):=by simp only[gT,he,hk,and_self,if_true,ni,hle,ea]
      obtain⟨p,off,cap,CV,dY,hn,dK,rfl⟩:=hr.D9;obtain⟨A,c,b,vF,us,hv,hA,lN,iq⟩:=oL h hr er;injection hv with im eN qg;have hm:(65536:Nat)<=maxLen:=by decide
      have gN:(d0.cells.drop j).take n≠[]->b=p.b:=fun bw=>by
       have:=hA bw;rw[this]at im;injection im with im;injection im with im;exact im.symm
      refine .sl (b:=b) (off:=vF) (us:=us) eN oM oM (fun bw=>⟨im.trans (hA bw),?_⟩) lN (fun i d j c hi hj=>(iq i d j c hi hj).1) (fun i d j c hi hj=>(iq i d j c hi hj).2.2) (fun i d j c hi hj=>?_)
      ·rw[gN bw];exact hS.2 t (by simp[names]) hk p (by rw[he];exact CV)
      ·exact((iq i d j c hi hj).2.1.fC (sY (uh _ hp d (mG hi)) c (mG hj))).lI hS.1
     ·cases ho
    ·cases ho
   ·cases ho
 | .ij sz es,d',v,hS,hr,ho=>by simp only[bD,sJ]at ho;subst ho;exact(hr.fC rfl).lI hS.1
 | .agg ds,d',v,hS,hr,ho=>by
   simp only[bD,mS]at ho;obtain⟨ds',ho,rfl⟩:=ho;obtain⟨vs,rfl,hl,hv⟩:=hr.pI;obtain⟨h1,h2⟩:=kV h ds ds' vs.toList (by simpa[names]using hS) (by simpa using hl) (fun i d v hd aX=>hv i d v hd (by simpa using aX)) ho;exact .agg (hl.trans h1.symm) (fun i d v hd aX=>h2 i d v hd (by simpa using aX))
 | .aI ds,d',v,hS,hr,ho=>by
   simp only[bD,mS]at ho;obtain⟨ds',ho,rfl⟩:=ho;obtain⟨vs,rfl,hl,hv⟩:=hr.Kr;obtain⟨h1,h2⟩:=kV h ds ds' vs.toList (by simpa[names]using hS) (by simpa using hl) (fun i d v hd aX=>hv i d v hd (by simpa using aX)) ho;exact .aI (hl.trans h1.symm) (fun i d v hd aX=>h2 i d v hd (by simpa using aX))
 | .fn f ds,d',v,hS,hr,ho=>by
   simp only[bD,mS]at ho;obtain⟨ds',ho,rfl⟩:=ho;obtain⟨vs,rfl,hl,hv⟩:=hr.wg;obtain⟨h1,h2⟩:=kV h ds ds' vs.toList (by simpa[names]using hS) (by simpa using hl) (fun i d v hd aX=>hv i d v hd (by simpa using aX)) ho;exact .fn (hl.trans h1.symm) (fun i d v hd aX=>h2 i d v hd (by simpa using aX))
 | .iC f ds,d',v,hS,hr,ho=>by
   simp only[bD,mS]at ho;obtain⟨ds',ho,rfl⟩:=ho;obtain⟨vs,rfl,hl,hv⟩:=hr.Kq;obtain⟨h1,h2⟩:=kV h ds ds' vs.toList (by simpa[names]using hS) (by simpa using hl) (fun i d v hd aX=>hv i d v hd (by simpa using aX)) ho;exact .iC (hl.trans h1.symm) (fun i d v hd aX=>h2 i d v hd (by simpa using aX))
 | .dI t d,d',v,hS,hr,ho=>by
   simp only[bD,mS]at ho;obtain⟨d'',ho,rfl⟩:=ho;obtain⟨u,rfl,hu⟩:=hr.D_;exact .dI (n_ h d d'' u (by simpa[names]using hS) hu ho)
 | .undef,d',v,hS,hr,ho=>by simp only[bD,sJ]at ho;subst ho;exact .undef v
 | .any l,d',v,hS,hr,ho=>by simp only[bD,sJ]at ho;subst ho;exact .any l v
 | .int k n,d',v,hS,hr,ho=>by simp only[bD,sJ]at ho;subst ho;exact(hr.fC rfl).lI hS.1
 | .bool b,d',v,hS,hr,ho=>by simp only[bD,sJ]at ho;subst ho;exact(hr.fC rfl).lI hS.1
 | .ic,d',v,hS,hr,ho=>by simp only[bD,sJ]at ho;subst ho;exact(hr.fC rfl).lI hS.1
 | .str s,d',v,hS,hr,ho=>by simp only[bD,sJ]at ho;subst ho;exact(hr.fC rfl).lI hS.1
 | .raw x,d',v,hS,hr,ho=>by simp only[bD,sJ]at ho;subst ho;exact(hr.fC rfl).lI hS.1
 | .fK,d',v,hS,hr,ho=>by simp only[bD,sJ]at ho;subst ho;exact(hr.fC rfl).lI hS.1
 | .aq,d',v,hS,hr,ho=>by simp only[bD,sJ]at ho;subst ho;exact(hr.fC rfl).lI hS.1
 | .sl sz es,d',v,hS,hr,ho=>by simp only[bD,sJ]at ho;subst ho;exact(hr.fC rfl).lI hS.1
 | .cG d j,d',v,hS,hr,ho=>by simp only[bD,sJ]at ho;subst ho;exact(hr.fC rfl).lI hS.1
theorem kV(h:aA X ρ σ bx a w){S':Nat->Prop}:∀(ds ds':List D) (vs:List Value),zZ X ρ bx w S' (bM ds)->vs.length=ds.length->(∀(i:Nat) d v,ds[i]? =some d->vs[i]? =some v->aJ w (az X ρ bx w) ρ d v)->cY bx ds=some ds'->
 ds'.length=ds.length/\∀(i:Nat) d v,ds'[i]? =some d->vs[i]? =some v->bB w S' d v
 |[],ds',vs,hS,hl,hv,ho=>by
  simp only[cY,sJ]at ho;subst ho;exact⟨rfl,fun i d v hd=>by simp at hd⟩
 |d::ds,ds',vs,hS,hl,hv,ho=>by
  simp only[cY]at ho;obtain⟨y,ys,h1,h2,rfl⟩:=pB ho;cases vs with
  |nil=>simp at hl
  |cons v vs=>
   simp only[bM]at hS;have hSd:zZ X ρ bx w S' (names d):=⟨hS.1,fun t ht=>hS.2 t (List.mem_append_left _ ht)⟩
   have hSl:zZ X ρ bx w S' (bM ds):=⟨hS.1,fun t ht=>hS.2 t (List.mem_append_right _ ht)⟩
   obtain⟨g1,g2⟩:=kV h ds ys vs hSl (by simpa using hl) (fun i d' v' hd aX=>hv (i+1) d' v' (by simpa using hd) (by simpa using aX)) h2;refine⟨by simp[g1],fun i d' v' hd aX=>?_⟩;cases i with
   |zero=>
    simp only[List.getElem?_cons_zero,sJ]at hd aX;subst hd;subst aX;exact n_ h d y v hSd (hv 0 d v sI sI) h1
   |succ i=>exact g2 i d' v' (by simpa using hd) (by simpa using aX)
end
theorem aA.VN{w':World}(h:aA X ρ σ bx a w){d:D}{v:Value}(hp:cI w (az X ρ bx w) d v w'):aA X ρ σ bx a w'/\aJ w' (az X ρ bx w') ρ d v:=by
 refine⟨h.ext hp.2,.pure (hp.1.lI fun b hb=>?_)⟩;rcases hb with hb|⟨h1,h2⟩
 ·exact⟨Nat.lt_of_lt_of_le hb.1 hp.2.size,hb.2⟩
 ·refine⟨h2,.inr (Nat.le_trans (Nat.le_trans h.nb h.fr.size) h1),fun t hk p bL=>?_⟩;obtain⟨p',LF,_,_,_,hh⟩:=h.box t (by rw[hk];decide);rw[bL]at LF;injection LF with LF;subst LF;have:=hh.lt;omega
def sQ(h:aA X ρ σ bx a w)(ds:List D):zZ X ρ bx w (az X ρ (dX bx ds) w) (bM ds):=by
 have hfk:∀t,(dX bx ds t).k=1->(bx t).k=1/\t∉bM ds/\(dX bx ds t).ep=(bx t).ep:=by
  intro t ht;rw[eL]at ht⊢;by_cases hn:t∈bM ds
  ·simp only[hn,if_true,xQ]at ht⊢;split at ht<;>simp_all
  ·simp only[hn,if_false]at ht⊢;exact⟨ht,not_false,trivial⟩
 refine⟨fun b hb=>⟨hb.1,hb.2.1,fun t ht p hp=>?_⟩,fun t ht hk p hp=>?_⟩
 ·obtain⟨h1,_,h3⟩:=hfk t ht;rw[h3]at hp;exact hb.2.2 t h1 p hp
 ·obtain⟨p',bL,_,_,gN,hh⟩:=h.box t hk;rw[hp]at bL;injection bL with bL;subst bL;refine⟨hh.lt,.inr gN.1,fun s hs q hq=>?_⟩;obtain⟨h1,h2,h3⟩:=hfk s hs;rw[h3]at hq;exact h.inj s t q p h1 hk (fun e=>h2 (e▸ht)) hq hp
theorem aA.JW(h:aA X ρ σ bx a w)(ds:List D)(bH:∀s∈bM ds,X.lo<=s):aA X ρ σ (dX bx ds) a w:=by
 refine h.less fun s=>?_;rw[eL];by_cases hn:s∈bM ds
 ·right;simp only[hn,if_true,xQ];refine⟨bH s hn,?_,?_⟩
  ·split<;>simp_all
  ·refine⟨trivial,fun hk=>⟨?_,trivial,trivial,trivial⟩,fun hk=>⟨?_,trivial⟩⟩
   ·split at hk
    ·rename_i h1;rw[h1,Xw];trivial
    ·exact hk
   ·split at hk
    ·cases hk
    ·exact hk
 ·left;simp only[hn,if_false]
theorem aA.frozen(h:aA X ρ σ bx a w)(bH:X.lo=0)(ds:List D):aA X ρ σ (dX bx ds) a w:=h.JW ds fun s _=>by omega
theorem xr{d:D}(h:d.pure=true):names d=[]:=by
 have hL:∀ds:List D,(∀d∈ds,d.pure=true->names d=[])->D.aF ds=true->bM ds=[]:=by
  intro ds;induction ds with
  |nil=>intros;rfl
  |cons x xs ih=>
   intro h1 h2;simp only[D.aF,bA]at h2;simp only[bM,h1 x (List.mem_cons_self ..) h2.1,ih (fun d hd=>h1 d (List.mem_cons_of_mem _ hd)) h2.2,List.append_nil]
 match d with
 | .agg ds| .aI ds| .fn _ ds| .iC _ ds=>simp only[names];exact hL ds (fun d hd hp=>xr hp) (by simpa only[D.pure]using h)
 | .dI _ d=>simp only[names];exact xr (by simpa only[D.pure]using h)
 | .loc ..| .bp ..| .fJ ..| .omap ..=>simp[D.pure]at h
 | .int ..| .bool _| .str _| .raw _| .aq| .sl ..| .ij ..| .cG ..| .undef| .fK| .any _| .ic=>simp[names]
theorem ug:∀(ds ds':List D),cY bx ds=some ds'->ds'.length=ds.length/\∀(i:Nat) d',ds'[i]? =some d'->∃d,ds[i]? =some d/\bD bx d=some d'
 |[],ds',h=>by simp only[cY,sJ]at h;subst h;simp
 |d::ds,ds',h=>by
  simp only[cY]at h;obtain⟨y,ys,h1,h2,rfl⟩:=pB h;obtain⟨g1,g2⟩:=ug ds ys h2;refine⟨by simp[g1],fun i d' hd=>?_⟩;cases i with
  |zero=>simp at hd;subst hd;exact⟨d,by simp,h1⟩
  |succ i=>simpa using g2 i d' (by simpa using hd)
def Di{d d':D}(h:bD bx d=some d'):d'.cells.length=d.cells.length/\∀(j:Nat) c',d'.cells[j]? =some c'->∃c,d.cells[j]? =some c/\bD bx c=some c':=by
 have single:d.cells=[d]->d'.cells=[d']->d'.cells.length=d.cells.length/\∀(j:Nat) c',d'.cells[j]? =some c'->∃c,d.cells[j]? =some c/\bD bx c=some c':=by
  intro h1 h2;rw[h1,h2];refine⟨rfl,fun j c' hj=>?_⟩;cases j with
  |zero=>simp at hj;subst hj;exact⟨d,rfl,h⟩
  |succ j=>simp at hj
 cases d with
 |agg ds=>
  simp only[bD,mS]at h;obtain⟨es,he,rfl⟩:=h;exact ug ds es he
 |loc t e i j=>
  refine single rfl ?_;simp only[bD]at h;split at h
  ·split at h
   ·split at h<;>(injection h with h;subst h;rfl)
   ·cases h
  ·cases h
 |bp t e sz o n=>
  refine single rfl ?_;simp only[bD]at h;split at h
  ·split at h
   ·injection h with h;subst h;rfl
   ·cases h
  ·cases h
 |fJ t e i j n=>
  refine single rfl ?_;simp only[bD]at h;split at h
  ·split at h
   ·split at h
    ·injection h with h;subst h;rfl
    ·cases h
   ·cases h
  ·cases h
 |aI ds=>simp only[bD,mS]at h;obtain⟨es,he,rfl⟩:=h;exact single rfl rfl
 |fn f ds=>simp only[bD,mS]at h;obtain⟨es,he,rfl⟩:=h;exact single rfl rfl
 |iC f ds=>simp only[bD,mS]at h;obtain⟨es,he,rfl⟩:=h;exact single rfl rfl
 |dI t d=>simp only[bD,mS]at h;obtain⟨es,he,rfl⟩:=h;exact single rfl rfl
 |omap=>cases h
 |_=>injection h with h;subst h;exact single rfl rfl
def Jp(d:D):∀(j:Nat) c,d.cells[j]? =some c->∀t∈names c,t∈names d:=by
 have mem:∀(ds:List D) (j:Nat) c,ds[j]? =some c->∀t∈names c,t∈bM ds:=by
  intro ds;induction ds with
  |nil=>intro j c hj;simp at hj
  |cons x xs ih=>
   intro j c hj t ht;simp only[bM,List.mem_append];cases j with
   |zero=>simp at hj;subst hj;exact .inl ht
   |succ j=>exact .inr (ih j c (by simpa using hj) t ht)
 intro j c hj t ht;cases d with
 |agg ds=>exact mem ds j c hj t ht
 |_=>
  cases j with
  |zero=>simp[D.cells]at hj;subst hj;exact ht
  |succ j=>simp[D.cells]at hj
theorem Fu:∀(ds:List D) (j:Nat) c,ds[j]? =some c->∀t∈names c,t∈bM ds
 |[],j,c,hj=>by simp at hj
 |x::xs,j,c,hj=>by
  intro t ht;simp only[bM,List.mem_append];cases j with
  |zero=>simp at hj;subst hj;exact .inl ht
  |succ j=>exact .inr (Fu xs j c (by simpa using hj) t ht)
theorem aA.Ou(h:aA X ρ σ bx a w)(bH:X.lo=0){s:Nat}{es:List D}(hk:(bx s).k=1)(ho:cY bx (bx s).es=some es):aA X ρ σ (eI bx s es) a w:=by
 have h1:=h.frozen bH (bx s).es;have hL:=sQ h (bx s).es;have bw:∀t,t≠s->eI bx s es t=dX bx (bx s).es t:=fun t ht=>by simp[eI,aj,ht]
 have fS:∀t,(eI bx s es t).k=(dX bx (bx s).es t).k/\(eI bx s es t).ep=(dX bx (bx s).es t).ep/\(eI bx s es t).sz=(dX bx (bx s).es t).sz/\(eI bx s es t).ty=(dX bx (bx s).es t).ty:=fun t=>by
  by_cases ht:t=s
  ·subst ht;simp[eI,aj]
  ·rw[bw t ht];exact⟨rfl,rfl,rfl,rfl⟩
 have hS:az X ρ (eI bx s es) w=az X ρ (dX bx (bx s).es) w:=by
  funext b;simp only[az,(fS _).1,(fS _).2.1]
 have xV:(dX bx (bx s).es s).ep=(bx s).ep/\(dX bx (bx s).es s).k≠3/\(dX bx (bx s).es s).es=(bx s).es:=by
  rw[eL];split
  ·simp[xQ,hk]
  ·simp[hk]
 obtain⟨gl,gg⟩:=ug _ _ ho;refine⟨h1.fr,h1.s0,h1.nb,h1.mb,h1.ec,h1.size,by rw[hS];exact h1.marks,h1.qh,h1.rQ,fun t=>by rw[hS];exact h1.tmps t,by rw[hS];exact h1.fK,fun t ht=>?_,fun t t' p p' ht oR hn hp bL=>?_,fun t e p hp=>by rw[(fS t).2.1];exact h1.ou t e p hp,h1.r0,h1.hold,h1.gA,h1.yc,h1.y0 bH _ _,h1.y0,h1.kl,h1.maps.of (fun t ht=>?_) (fun _ _ _ h=>h) (fun _ _ _ _ _ h=>h) (fun _ h=>h)⟩
 ·rw[(fS t).1]at ht;obtain⟨p,hp,h2,h3,h4,h5⟩:=h1.box t ht;refine⟨p,by rw[(fS t).2.1];exact hp,by rw[(fS t).2.2.1];exact h2,by rw[(fS t).2.2.2];exact h3,by rw[(fS t).1];exact h4,?_⟩;rw[hS];by_cases kQ:t=s
  ·subst kQ;have e:(eI bx t es t).es=es:=by simp[eI,aj]
   rw[e];obtain⟨q,hq,_,_,_,hh⟩:=h.box t (by rw[hk];decide);rw[xV.1]at hp;rw[hp]at hq;injection hq with hq;subst hq;obtain⟨⟨cur,gm,eW,us,gB⟩,rK,xZ,bP⟩:=hh;refine⟨⟨cur,gm,eW,us,fun i d' j c' hi hj=>?_⟩,by rw[gl];exact rK,xZ,fun i d' hi=>?_⟩
   ·obtain⟨d,hd,Kb⟩:=gg i d' hi;obtain⟨c,hc,Ob⟩:=(Di Kb).2 j c' hj;obtain⟨u1,u2,u3⟩:=gB i d j c hd hc;refine⟨u1,.pure (n_ h c c' _ ⟨hL.1,fun t' oR=>hL.2 t' (Fu _ _ _ hd t' (Jp d j c hc t' oR))⟩ u2 Ob),u3⟩
   ·obtain⟨d,hd,Kb⟩:=gg i d' hi;rw[(Di Kb).1];exact bP i d hd
  ·rw[bw t kQ];exact h5
 ·rw[(fS t).1]at ht;rw[(fS t').1]at oR;rw[(fS t).2.1]at hp;rw[(fS t').2.1]at bL;exact h1.inj t t' p p' ht oR hn hp bL
 ·have kQ:t≠s:=by
   rintro rfl;rw[(fS t).1]at ht;exact xV.2.1 ht
  rw[bw t kQ]at ht⊢;exact⟨ht,rfl,rfl⟩
def Lq(h:aA X ρ σ bx a w){lo t:Nat}(bH:X.lo<=lo){s:Env×ae}(hf:vz lo t σ bx=some s):aA X ρ s.1 s.2 a w:=by
 unfold vz at hf;split at hf
 ·rename_i hc;rw[mS]at hf;obtain⟨v,ho,rfl⟩:=hf;have hn:∀s∈bM [σ t],X.lo<=s:=fun s hs=>by
   simp only[bM,List.append_nil]at hs;rcases hc.2 with h0|h0
   ·omega
   ·unfold HN at h0;split at h0
    ·rename_i e;rw[e]at hs;simp only[names,List.mem_singleton]at hs;subst hs;exact Nat.le_trans bH (of_decide_eq_true h0)
    ·rename_i e;rw[e]at hs;simp only[names,List.mem_singleton]at hs;subst hs;exact Nat.le_trans bH (of_decide_eq_true h0)
    ·rename_i e;rw[e]at hs;simp only[names,List.mem_singleton]at hs;subst hs;exact Nat.le_trans bH (of_decide_eq_true h0)
    ·rw[xr h0]at hs;cases hs
  have h1:=h.JW [σ t] hn;have hL:=sQ h [σ t];have e1:dX bx [σ t]=ey bx (σ t):=by simp[dX]
  rw[e1]at h1 hL;simp only[bM,List.append_nil]at hL;have hd:en≠t:=by have:=hc.1;omega
  refine {h1 with marks:= ?_,tmps:=fun x=>?_}
  ·have:=h1.marks;simpa only[aj,if_neg hd]using this
  ·simp only[aj];split
   ·rename_i hx;subst hx;exact .pure (n_ h (σ x) v _ hL (h.tmps x) ho)
   ·exact h1.tmps x
 ·split at hf
  ·rename_i hc;rw[mS]at hf;obtain⟨es,ho,rfl⟩:=hf;exact h.Ou oM hc.2.2 ho
  ·cases hf
theorem AL{lo:Nat}(bH:X.lo<=lo):∀(ts:List Nat) {σ:Env} {bx:ae} {s:Env×ae},aA X ρ σ bx a w->rh lo ts σ bx=some s->aA X ρ s.1 s.2 a w
 |[],σ,bx,s,h,hf=>by simp only[rh,sJ]at hf;subst hf;exact h
 |t::ts,σ,bx,s,h,hf=>by
  simp only[rh,Option.bind_eq_some_iff]at hf;obtain⟨s1,h1,h2⟩:=hf;exact AL bH ts (Lq h bH h1) h2
theorem Calls.mono{f:FuncId}{args:Array Value}{R R':Ending->World->Prop}(h:Calls P f args w R)(hr:∀e w',R e w'->R' e w'):Calls P f args w R':=
 fun cs=>let ⟨e,w',fr,r,rest⟩:=h cs;⟨e,w',fr,hr _ _ r,rest⟩
def DR(P:Program)(f:FuncId)(vs:Array Value)(w:World)(G:Value->World->Prop):Prop:=
 ((callFunc f vs).run P w= .ok (.enter f vs) w/\Calls P f vs w (fun e w'=>∃v,e= .returned v/\G v w'))\/
 (∃v w',(callFunc f vs).run P w= .ok (.value v) w'/\G v w')
def pe(v:Value):PanicEntry:={v,recovered:=false}
def o9(P:Program)(f:FuncId)(vs:Array Value)(w:World)(G Gp:Value->World->Prop):Prop:=
 ((callFunc f vs).run P w= .ok (.enter f vs) w/\Calls P f vs w (fun e w'=>(∃v,e= .returned v/\G v w')\/∃v,e= .panicked [pe v]/\Gp v w'))\/
 (∃v w',(callFunc f vs).run P w= .ok (.value v) w'/\G v w')
theorem DR.fC{f:FuncId}{vs:Array Value}{G Gp:Value->World->Prop}(h:DR P f vs w G):o9 P f vs w G Gp:=by
 rcases h with⟨h1,h2⟩|h
 ·exact .inl ⟨h1,Calls.mono h2 fun e w' h=> .inl h⟩
 ·exact .inr h
theorem o9.mono{f:FuncId}{vs:Array Value}{G Gp G' Gp':Value->World->Prop}(h:o9 P f vs w G Gp)(h1:∀v w',G v w'->G' v w')(h2:∀v w',Gp v w'->Gp' v w'):o9 P f vs w G' Gp':=by
 rcases h with⟨k1,k2⟩|⟨v,w',k1,k2⟩
 ·refine .inl ⟨k1,Calls.mono k2 fun e w' h=>?_⟩;rcases h with⟨v,he,hg⟩|⟨v,he,hg⟩
  ·exact .inl ⟨v,he,h1 _ _ hg⟩
  ·exact .inr ⟨v,he,h2 _ _ hg⟩
 ·exact .inr ⟨v,w',k1,h1 _ _ k2⟩
theorem ao.carried{f:FuncId}{ds:List D}{d:D}(h:ao P f ds d){S:Nat->Prop}{vs:Array Value}{G:Value->World->Prop}(hS:∀b,S b->b<w.heap.size)(hg:bB w S .fK undef)(hl:vs.size=ds.length)
 (hv:∀(i:Nat) x v,ds[i]? =some x->vs[i]? =some v->bB w S x v) (hG:∀v w',cI w S d v w'->G v w'):DR P f vs w G:=by
 rcases h w S vs hS hg hl hv with⟨h1,h2⟩|⟨v,w',h1,h2⟩
 ·exact .inl ⟨h1,Calls.mono h2 fun e w' ⟨v,he,hp⟩=>⟨v,he,hG v w' hp⟩⟩
 ·exact .inr ⟨v,w',h1,hG v w' h2⟩
def bj(P:Program)(f:FuncId)(base:Nat)(ds:List D)(bx:ae)(Q Qp:D->ae->Prop):Prop:=
 ∀(X:Ctx) (ρ:cQ) (σ:Env) (a:Act) (w:World) (vs:Array Value),aA X ρ σ bx a w->X.lo=0->vs.size=ds.length->(∀(i:Nat) x v,ds[i]? =some x->vs[i]? =some v->aJ w (az X ρ bx w) ρ x v)->
  o9 P f vs w (fun v w'=>∃d bx' ρ',Q d bx'/\aA X ρ' σ bx' a w'/\aJ w' (az X ρ' bx' w') ρ' d v) (fun v w'=>∃d bx' ρ',Qp d bx'/\aA X ρ' σ bx' a w'/\aJ w' (az X ρ' bx' w') ρ' d v)
def DT(P:Program)(X:Ctx)(l:Nat)(rc:Loop)(base ext:Nat)(items:List (List D))(J:Nat->ae->Prop)(Jx:Code->ae->Prop)(σ:Env)(a:Act):Prop:=
 ∀(n:Nat) (it:List D) (ρ:cQ) (bx:ae) (w:World) (us:Array Value),items[n]? =some it->aA X ρ σ bx a w->ρ.hold l=some (.loop rc)->J n (bU base bx)->us.size=it.length->
  (∀(i:Nat) x v,it[i]? =some x->us[i]? =some v->bB w (az X ρ bx w) x v)->
  ∃f tm as bd,(Instr.yield l us).run P w= .ok (.round l f tm as bd) w/\∀m,RoundIn Fence.wide m P l f tm as bd w fun e w2=>∃ρ2 bK b,e= .returned (.bool b)/\(∀s,base<=s->s<base+ext->bK s=bx s)/\
   (∀(X1:Ctx) (σ1:Env) (a1:Act),X1.S0=X.S0->X1.n0=X.n0->X1.E l->aA X1 ρ σ1 bx a1 w->X1.Y (bU X1.lo bK) ρ2.hold->aA X1 ρ2 σ1 bK a1 w2)/\
   (∀k o,k≠l->ρ.hold k=some o->Obj.Fi o=false->ρ2.hold k=some o)/\
   ((b=true/\ρ2.hold l=some (.loop rc)/\J (n+1) (bU base bK))\/(b=false/\∃jump,ρ2.hold l=some (.loop {rc with state:=.done,pending:=some jump})/\Jx jump (bU base bK)))
def yk(P:Program)(f:FuncId)(caps:List D)(items:List (List D))(ext:Nat):Prop:=
 ∀(X:Ctx) (ρ:cQ) (σ:Env) (bx:ae) (a:Act) (w:World) (l base:Nat) (rc:Loop) (vs:Array Value) (J:Nat->ae->Prop) (Jx:Code->ae->Prop),aA X ρ σ bx a w->X.lo=0->ρ.hold l=some (.loop rc)->(X.w0.heap.size<=l)->X.r0.hold l=none->
  vs.size=caps.length->(∀(i:Nat) x v,caps[i]? =some x->vs[i]? =some v->bB w (az X ρ bx w) x v)->J 0 (bU base bx)->DT P X l rc base ext items J Jx σ a->
  (callFunc f (#[.func (.yield l) #[] #[]]++vs)).run P w= .ok (.enter f (#[.func (.yield l) #[] #[]]++vs)) w/\
  Calls P f (#[.func (.yield l) #[] #[]]++vs) w fun e w'=>∃v ρ' bx',e= .returned v/\aA X ρ' σ bx' a w'/\
   ((ρ'.hold l=some (.loop rc)/\J items.length (bU base bx'))\/∃jump,ρ'.hold l=some (.loop {rc with state:=.done,pending:=some jump})/\Jx jump (bU base bx'))
def zY(P:Program)(f:FuncId)(b:Bx)(items:List (List D))(pd:Option D)(ext:Nat):Prop:=
 ∀(X:Ctx) (ρ:cQ) (σ:Env) (bx:ae) (a:Act) (w:World) (l base e:Nat) (rc:Loop) (u:Value) (J:Nat->ae->Prop) (Jx:Code->ae->Prop),aA X ρ σ bx a w->X.lo=0->ρ.hold l=some (.loop rc)->(X.w0.heap.size<=l)->X.r0.hold l=none->
  bx (base+1)=⟨e,1,b.sz,b.ty,b.es⟩->aJ w (az X ρ bx w) ρ (.loc (base+1) e 0 0) u->J 0 (bU base bx)->DT P X l rc base ext items J Jx σ a->
  (callFunc f #[.func (.yield l) #[] #[],u]).run P w= .ok (.enter f #[.func (.yield l) #[] #[],u]) w/\
  Calls P f #[.func (.yield l) #[] #[],u] w fun e w'=>(∃v ρ' bx',e= .returned v/\aA X ρ' σ bx' a w'/\
   ((pd=none/\ρ'.hold l=some (.loop rc)/\J items.length (bU base bx'))\/∃jump,ρ'.hold l=some (.loop {rc with state:=.done,pending:=some jump})/\Jx jump (bU base bx')))\/
   ∃d v ρ' bx',pd=some d/\e= .panicked [pe v]/\aA X ρ' σ bx' a w'/\aJ w' (az X ρ' bx' w') ρ' d v/\J items.length (bU base bx')
structure Ok(P:Program)(O:gO):Prop where
 to:∀f ds d,O.to f ds d->ao P f ds d
 ux:∀f base ds bx Q Qp,O.ux f base ds bx Q Qp->bj P f base ds bx Q Qp
 it:∀f caps items ext,O.it f caps items ext->yk P f caps items ext
 A1:∀f b items pd ext,O.A1 f b items pd ext->zY P f b items pd ext
def YOk(P:Program)(C:Calc)(X:Ctx):Prop:=∀items gs l,C.yl=some (items,gs,l)->∀(ρ:cQ) (σ:Env) (bx:ae) (a:Act) (w:World) (us:Array Value) (ds:List D),aA X ρ σ bx a w->items[(bx gs).sz]? =some ds->us.size=ds.length->
 (∀(i:Nat) x v,ds[i]? =some x->us[i]? =some v->bB w (az X ρ bx w) x v)->
  ∃f tm as bd,(Instr.yield l us).run P w= .ok (.round l f tm as bd) w/\∀m,RoundIn Fence.wide m P l f tm as bd w fun e w2=>∃ρ2 bx1 b,e= .returned (.bool b)/\
   aA X ρ2 σ (aj (qU C.lo C.bk bx bx1) gs {bx gs with sz:=if b then(bx gs).sz+1 else items.length+1}) a w2
structure Good(P:Program)(C:Calc)(X:Ctx):Prop where
 ok:Ok P C.o
 lo:X.lo<=C.lo
 base:X.lo<=C.base
 yok:YOk P C X
 df:C.df=true->X.md=2
 it:X.md=3->∀f c i e,¬C.o.it f c i e
 A1:X.md=3->∀f b i d e,¬C.o.A1 f b i d e
def vw(h:aA X ρ σ bx a w)(hG:Good P C X){f:FuncId}{ds:List D}{vs:Array Value}(hl:vs.size=ds.length)
 (hv:∀(i:Nat) x v,ds[i]? =some x->vs[i]? =some v->aJ w (az X ρ bx w) ρ x v) {K:Cl->D->ae->Prop} (hc:fD C f ds bx K):
 o9 P f vs w (fun v w'=>∃c d bx' ρ',(∀x,c≠ .cX x)/\K c d bx'/\aA X ρ' σ bx' a w'/\aJ w' (az X ρ' bx' w') ρ' d v) (fun v w'=>∃d bx' ρ',K (.cX d) .undef bx'/\aA X ρ' σ bx' a w'/\aJ w' (az X ρ' bx' w') ρ' d v):=by
 have hC:=hG.ok.to;rcases hc with⟨d,hp,jP,hK⟩|⟨ds',d,ho,jP,hb,hK⟩|⟨ds',d,bH,ho,jP,hK⟩|⟨Q,Qp,bH,jP,hK,hKp⟩
 ·exact((hC f ds d jP).carried (S:=az X ρ bx w) (fun b hb=>hb.1) (h.fK.fC rfl) hl (fun i x v hx aX=>(hv i x v hx aX).fC (u9 _ hp i x hx)) fun v w' hp=>⟨.n,d,bx,ρ,(by intro x;simp),hK,h.VN hp⟩).fC
 ·have hL:zZ X ρ bx w (fun b=>b<w.heap.size) (bM ds):=⟨fun b hb=>hb.1,fun t _ hk p hp=>by
   obtain⟨p',bL,_,_,_,hh⟩:=h.box t hk;rw[hp]at bL;injection bL with bL;subst bL;exact hh.lt⟩
  obtain⟨g1,g2⟩:=kV h ds ds' vs.toList hL (by simpa using hl) (fun i x v hx aX=>hv i x v hx (by simpa using aX)) ho;exact((hC f ds' d jP).carried (S:=fun b=>b<w.heap.size) (fun b hb=>hb) ((h.fK.fC rfl).mono (fun _ _=>rfl) (fun b hb=>hb.1)) (hl.trans g1.symm) (fun i x v hx aX=>g2 i x v hx (by simpa using aX)) fun v w' hp=>⟨.ra,d,bx,ρ,(by intro x;simp),hK,h.ext hp.2,.pure (hp.1.bare hb)⟩).fC
 ·have hL:=sQ h ds;obtain⟨g1,g2⟩:=kV h ds ds' vs.toList hL (by simpa using hl) (fun i x v hx aX=>hv i x v hx (by simpa using aX)) ho;exact((hC f ds' d jP).carried (S:=az X ρ (dX bx ds) w) (fun b hb=>hb.1) ((h.frozen (by have:=hG.lo;omega) ds).fK.fC rfl) (hl.trans g1.symm) (fun i x v hx aX=>g2 i x v hx (by simpa using aX)) fun v w' hp=>⟨.wa,d,dX bx ds,ρ,(by intro x;simp),hK,(h.frozen (by have:=hG.lo;omega) ds).VN hp⟩).fC
 ·refine(hG.ok.ux _ _ _ _ _ _ jP X ρ σ a w vs h (by have:=hG.lo;omega) hl hv).mono ?_ ?_
  ·rintro v w' ⟨d,bx',ρ',g1,g2⟩;rcases hK d bx' g1 with hk|⟨r,r',e1,e2,hk⟩
   ·exact⟨.wa,d,bx',ρ',(by intro x;simp),hk,g2⟩
   ·obtain⟨g2,g3⟩:=g2;have ho:cY bx' [d]=some [r]:=by simp[cY,e1,lD]
    obtain⟨_,g5⟩:=kV g2 [d] [r] [v] (sQ g2 [d]) rfl (fun i x u hx hu=>by
     rcases i with _|i
     ·simp at hx hu;subst hx;subst hu;exact g3
     ·simp at hx) ho
    exact⟨.wa,r',dX bx' [d],ρ',(by intro x;simp),hk,g2.frozen (by have:=hG.lo;omega) [d],.pure (aJ.uy e2 (g5 0 r v rfl rfl))⟩
  ·rintro v w' ⟨d,bx',ρ',g1,g2⟩;exact⟨d,bx',ρ',hKp d bx' g1,g2⟩
end Go.V
