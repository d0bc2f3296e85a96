/- Lemmas on plain data and programs: part VB. -/
import Derived.Test.YtkknfajchefgaaaGreatDoorVA
import Derived.Laws.BytesArg
import Derived.Maps.AppendAt
import Derived.Deep.AppendSrc
import Derived.Lib.AppendZerosOnto
import Derived.Laws.CopyRow
import Derived.Laws.IdiomCopy
set_option linter.all false
set_option maxHeartbeats 8000000
namespace Go.V
open Go.RowKit
variable {P:Program} {X:Ctx} {ρ:bX} {σ:Env} {bx:ab} {a:Act} {w:World}
variable {dst:Option Tmp} {ty:TypeId} {pos:String} {af:Array Edge} {g:Option (Nat×Bool)}
theorem M5:∀(vs:List Value) (k off:Nat) (cs:Array Value),(((vs.zipIdx k).foldl (fun(cs:Array Value) (x:Value×Nat)=>cs.setIfInBounds (off+x.2) x.1) cs).size=cs.size)/\
 ∀i,((vs.zipIdx k).foldl (fun(cs:Array Value) (x:Value×Nat)=>cs.setIfInBounds (off+x.2) x.1) cs)[i]? =if off+k<=i/\i<off+k+vs.length/\i<cs.size then vs[i - (off+k)]? else cs[i]?
 |[],k,off,cs=>by
  simp[List.zipIdx_nil,List.foldl_nil,aeW,agA]
  exact awN
 |v::vs,k,off,cs=>by
  obtain⟨h1,h2⟩:=M5 vs (k+1) off (cs.setIfInBounds (off+k) v);simp[List.zipIdx_cons,List.foldl_cons]
  exact awN
def EO(w:World)(S:Nat->Prop)(ρ:bX)(cs:List D)(vs:Array Value):Prop:=vs.size=cs.length/\∀(i:Nat) c u,cs[i]? =some c->vs[i]? =some u->aG w S ρ c u
def YA{S:Nat->Prop}{cs:List D}{vs:Array Value}{d:D}{v:Value}{off:Nat}(h:EO w S ρ cs vs)(hd:aG w S ρ d v)(h1:d.cells.all D.one=true)(hl:off+d.cells.length<=cs.length):
 v.cells.size=d.cells.length/\EO w S ρ (cs.take off++d.cells++cs.drop (off+d.cells.length)) (v.cells.zipIdx.foldl (fun(cs:Array Value) (x:Value×Nat)=>cs.setIfInBounds (off+x.2) x.1) vs):=by
 obtain⟨hs,hc⟩:=hd.cells h1;refine⟨hs,?_⟩;have e:v.cells.zipIdx.foldl (fun(cs:Array Value) (x:Value×Nat)=>cs.setIfInBounds (off+x.2) x.1) vs=(v.cells.toList.zipIdx 0).foldl (fun(cs:Array _) (x:Value×Nat)=>cs.setIfInBounds (off+x.2) x.1) vs:=by grind [Array.toList_zipIdx]
 rw[e];obtain⟨f1,f2⟩:=M5 _ 0 _ vs;refine⟨by rw[f1,h.1];simp;omega,fun i c u hi hu=>?_⟩;rw[f2]at hu;simp[agA,akK,aba]at hu;by_cases ho:i<off
 ·rw[aaw oM]at hu;rw[aaU,aeU awe,afn ho]at hi;exact h.2 i c u hi hu
 ·by_cases hm:i<off+d.cells.length
  ·exact awN
  ·rw[aaw oM]at hu;have uU:(cs.take off++d.cells).length=off+d.cells.length:=awe
   rw[abn oM,uU,akU]at hi;have:off+d.cells.length+(i - (off+d.cells.length))=i:=oM;rw[this]at hi;exact h.2 i c u hi hu
theorem vZ{S:Nat->Prop}{fs:List (Nat×Nat×Bool)}{places:Nat->Option (Nat×Nat)}(nF:∀(i:Nat) x,fs[i]? =some x->places i=some (x.1,x.2.1)):∀(ps:List (Nat×D)) (EK:List (Nat×Value)) (cs r:List D) (vs:Array Value),
 jW fs cs ps=some r->ps.length=EK.length->(∀(i:Nat) p q,ps[i]? =some p->EK[i]? =some q->p.1=q.1/\aG w S ρ p.2 q.2)->EO w S ρ cs vs->
 ∃fM,Instr.fill places vs EK=some fM/\EO w S ρ r fM
 |[],EK,cs,r,vs,hb,hl,_,h=>by
  cases EK with
  |nil=>simp[jW,aaM]at hb;subst hb;exact⟨vs,rfl,h⟩
  |cons q EK=>simp at hl
 |(i,d)::ps,EK,cs,r,vs,hb,hl,hr,h=>by
  cases EK with
  |nil=>simp at hl
  |cons q EK=>
  obtain⟨j,v⟩:=q;obtain⟨Et,hd⟩:=hr 0 _ _ rfl rfl;simp at Et hd;simp only[jW]at hb;cases hf:fs[i]? with
  |none=>grind
  |some f=>
   obtain⟨off,sz,gg⟩:=f;simp only[hf]at hb;split at hb
   ·rename_i hc;obtain⟨h1,h2,h3⟩:=hc;rw[<-h1]at hb h2;obtain⟨g1,g2⟩:=YA h hd h3 h2;obtain⟨fM,k1,k2⟩:=vZ nF ps EK _ r _ hb awN (fun i p q hp hq=>hr (i+1) p q awN awN) g2;have hle:¬(v.cells.size≠sz\/off+v.cells.size>vs.size):=by rw[h.1];omega
    simp[Instr.fill,nF i _ hf]
    exact awN
   ·cases hb
theorem run_places:∀(L:List Field),(∀f∈L,0<cA P f.type)->(L.mapM fun f=>(do pure (f.offset,<-sizeOf f.type):Sem (Nat×Nat))).run P w= .ok (L.map fun f=>(f.offset,cA P f.type)) w
 |[],_=>awP
 |f::L,h=>by
  have ih:=run_places L (fun f hf=>h f (aa2 _ hf));simp_all[cI]
def Sv{t:TypeId}(h:vL (aj P t) (zeroV P t)=true):(aj P t).size=0/\P.underlying t=some (.struct #[])/\∃i z,P.info? t=some i/\i.zero=some z/\BK z= .agg []/\i.size=0:=by
 unfold vL at h;split at h
 ·rename_i q hk hz;obtain⟨F,hu,Es,_⟩:=rU hk;have hF:F= #[]:=awy
  unfold zeroV at hz;cases hi:P.info? t with
  |none=>grind
  |some i=>
   cases h1:i.zero with
   |none=>grind
   |some z=>
    grind [aj,cA]
 ·exact awI
def Wx{z:Value}(h:BK z= .agg []):z.cells= #[]:=by
 have:=I8 (w:=default) (S:=fun _=>False) z;rw[h]at this;cases this with
 |agg hl _=>exact Array.eq_empty_of_size_eq_zero hl
theorem Ml(h:aw X ρ σ bx a w){t:TypeId}{ps:Array (Nat×Operand)}{d:D}(hv:nt (aj P t) (ps.toList.map fun p=>(p.1,ev σ p.2))=some d):Yields P X ρ bx a w ⟨dst,.build t ps,ty,pos,af,g⟩ d:=by
 unfold nt at hv;split at hv
 ·rename_i fs eq hk;split at hv
  ·rename_i hz;obtain⟨F,hu,Es,_⟩:=rU hk;subst Es;rw[aav]at hv;obtain⟨r,hb,rfl⟩:=hv;have hzero:∃z,(zeroValue t).run P w= .ok z w/\(aj P t).zero=z.cells.toList.map ED:=by
    have h2:(aj P t).zero.length≠0:=oM;simp only[aj]at h2⊢;cases hi:P.info? t with
    |none=>grind
    |some i=>
     exact arP
   obtain⟨z,oO,tF⟩:=hzero;have fR:∀f∈F.toList,0<cA P f.type:=by
    intro f hf;have:=aaI.1 hz.2.2 _ (aa1.2 ⟨f,hf,rfl⟩)
    exact awN
   have bZ:(F.mapM fun f=>(do pure (f.offset,<-sizeOf f.type):Sem (Nat×Nat))).run P w= .ok (F.map fun f=>(f.offset,cA P f.type)) w:=by
    rw[Array.mapM_eq_mapM_toList,Sem.run_map,run_places F.toList fR,aa4]
    congr 1
    exact awN
   obtain⟨fM,k1,k2⟩:=vZ (S:=ay X ρ bx w) (ρ:=ρ) (w:=w) (places:=fun i=>(F.map fun f=>(f.offset,cA P f.type))[i]?) (fun i x hx=>by
    grind) _
    (ps.toList.map fun p=>(p.1,a.eval p.2)) _ _ z.cells hb sI (fun i p q hp hq=>by
     simp only[aaZ,aav]at hp hq;obtain⟨y,hy,rfl⟩:=hp;obtain⟨y',rG,rfl⟩:=hq;rw[hy]at rG;injection rG with rG;subst rG;exact⟨rfl,h.ev _⟩) ⟨awN,fun i c u hc hu=>by
      rw[tF,aaZ,aba,hu]at hc;simp only[aec,aaM]at hc;subst hc;exact .pure (nO u)⟩
   refine aK (.agg fM) ?_ (.agg k2.1 k2.2);simp_all[execOp,Instr.build,aaD]
  ·cases hv
 ·rename_i n esz ag hk;split at hv
  ·rename_i hz;obtain⟨e,hu,kd,_⟩:=xC hk;rw[aav]at hv;obtain⟨r,hb,rfl⟩:=hv;have hzero:∃z,(zeroValue t).run P w= .ok z w/\(aj P t).zero=z.cells.toList.map ED:=by
    have h2:(aj P t).zero.length≠0:=oM;simp only[aj]at h2⊢;cases hi:P.info? t with
    |none=>grind
    |some i=>
     exact arP
   obtain⟨z,oO,tF⟩:=hzero;obtain⟨fM,k1,k2⟩:=vZ (S:=ay X ρ bx w) (ρ:=ρ) (w:=w) (places:=fun i=>some (i * esz,esz)) (fun i x hx=>by
    grind) _
    (ps.toList.map fun p=>(p.1,a.eval p.2)) _ _ z.cells hb sI (fun i p q hp hq=>by
     simp only[aaZ,aav]at hp hq;obtain⟨y,hy,rfl⟩:=hp;obtain⟨y',rG,rfl⟩:=hq;rw[hy]at rG;injection rG with rG;subst rG;exact⟨rfl,h.ev _⟩) ⟨awN,fun i c u hc hu=>by
      rw[tF,aaZ,aba,hu]at hc;simp only[aec,aaM]at hc;subst hc;exact .pure (nO u)⟩
   refine aK (.agg fM) ?_ (.agg k2.1 k2.2);simp_all[execOp,Instr.build,aaD,cI]
  ·cases hv
 ·cases hv
theorem Eg{fs:List (Nat×Nat×Bool)}{esz:Nat}{ag:Bool}:∀(ps:List (Nat×D)) (k:Nat) (done:List D),done.length=k * esz->ps.map (·.1)=List.range' k ps.length->ps.all (fun p=>p.2.cells.length==esz&&p.2.cells.all D.one)=true->
 (∀i,i<k+ps.length->fs[i]? =some (i * esz,esz,ag))->jW fs (done++List.replicate (ps.length * esz) .undef) ps=some (done++(ps.map (·.2)).flatMap D.cells)
 |[],k,done,_,_,_,_=>by simp[jW]
 |(i,d)::ps,k,done,hd,hm,ha,hf=>by
  simp[abk,aa5,ajE,afc]at hm;obtain⟨rfl,hm⟩:=hm;simp only[aep,aas,akv]at ha;obtain⟨⟨h1,h2⟩,h3⟩:=ha;simp only[jW,hf i sI];have hlen:(done++List.replicate (((i,d)::ps).length * esz) D.undef).length=i * esz+(ps.length+1) * esz:=by simp[hd]
  rw[aaO ⟨h1,awN,h2⟩];have e1:(done++List.replicate (((i,d)::ps).length * esz) D.undef).take (i * esz)=done:=awN
  have e2:(done++List.replicate (((i,d)::ps).length * esz) D.undef).drop (i * esz+esz)=List.replicate (ps.length * esz) D.undef:=by
   rw[<-hd,<-alS]
   exact awN
  rw[e1,e2,Eg ps _ _ awN hm h3 (fun j hj=>hf j awe)];simp
theorem M0{sz:Nat}:∀(ds:List D),(∀x∈ds,x.cells.length=sz)->(ds.flatMap D.cells).length=ds.length * sz
 |[],_=>awP
 |x::ds,h=>by
  rw[afs,aaY,h x (aeY ..),M0 ds (fun y hy=>h y (aa2 _ hy)),aa5,agr];omega
theorem E1{sz:Nat}:∀(ds:List D) (i j:Nat) (d:D),(∀x∈ds,x.cells.length=sz)->ds[i]? =some d->j<sz->(ds.flatMap D.cells)[i * sz+j]? =d.cells[j]?
 |[],i,j,d,_,hd,_=>aws
 |x::ds,i,j,d,hs,hd,hj=>by
  have hx:=hs x (aeY ..);simp[afs];cases i with
  |zero=>
   exact awN
  |succ i=>
   rw[agr,abn oM,hx];have:i * sz+1 * sz+j - sz=i * sz+j:=oM;rw[this];exact E1 ds i j d (fun y hy=>hs y (aa2 _ hy)) awN hj
theorem aw.fresh(h:aw X ρ σ bx a w)(o:Obj):ay X ρ bx (w.alloc o) w.heap.size:=by
 refine⟨awP,.inr (adz h.nb h.fr.size),fun t hk p hp=>?_⟩;obtain⟨p',bu,_,_,_,hh⟩:=h.box t avV;rw[hp]at bu;cases bu;have:=hh.lt;omega
def Rh(h:aw X ρ σ bx a w){t e:TypeId}{n esz:Nat}{ag:Bool}{ps:Array (Nat×Operand)}{oB:List (Nat×D)}(hu:P.underlying t=some (.slice e))(kd:esz=cA P e)(Nq:(ps.toList.map fun p=>(p.1,ev σ p.2))=oB)(hm:oB.map (·.1)=List.range n)
 (ha:oB.all (fun p=>p.2.cells.length==esz&&p.2.cells.all D.one)=true) (fR:0<esz) (E6:n * esz<=65536) (qx:(aj P e).zero.length=esz):
 ∃fM,(Instr.buildSlice t n (ps.map fun(x:Nat×Operand)=>(x.1,a.eval x.2))).run P w= .ok (.slice (some ⟨w.heap.size,0,none⟩) n n) (w.alloc (.cells fM e))/\EO w (ay X ρ bx w) ρ ((oB.map (·.2)).flatMap D.cells) fM:=by
 have hlen:oB.length=n:=auA
 have hzero:∃z,(zeroValue e).run P w= .ok z w/\z.cells.size=esz:=by
  have h2:(aj P e).zero.length≠0:=oM;simp only[aj]at h2 qx;cases hi:P.info? e with
  |none=>grind
  |some i=>
   exact arP
 obtain⟨z,oO,tF⟩:=hzero;have hbl:=Eg (fs:=(List.range n).map fun i=>(i * esz,esz,ag)) (esz:=esz) (ag:=ag) oB 0 [] sI (by rw[hm,ap_,hlen]) ha (fun i hi=>awN);simp only[adC,hlen]at hbl;have go:∀zc:Array Value,(n * esz=0\/zc=z.cells)->∃fM,Instr.fill (fun i=>some (i * esz,esz)) ((Array.range (n * esz)).map (zc[· % zc.size]!)) (ps.toList.map fun p=>(p.1,a.eval p.2))=some fM/\EO w (ay X ρ bx w) ρ ((oB.map (·.2)).flatMap D.cells) fM:=by
  intro zc _;refine vZ (S:=ay X ρ bx w) (ρ:=ρ) (w:=w) (places:=fun i=>some (i * esz,esz)) (fun i x hx=>?_) _ _ _ _ ((Array.range (n * esz)).map (zc[· % zc.size]!)) hbl awN (fun i p q hp hq=>?_) ⟨awP,fun i c u hc _=>?_⟩
  ·exact awN
  ·rw[<-Nq]at hp;simp only[aaZ,aav]at hp hq;obtain⟨y,hy,rfl⟩:=hp;obtain⟨y',rG,rfl⟩:=hq;rw[hy]at rG;injection rG with rG;subst rG;exact⟨rfl,h.ev _⟩
  ·have:=aat hc;have:=alb this;subst this;exact .pure (.undef u)
 have main:∃fM,(Instr.buildSlice t n (ps.map fun(x:Nat×Operand)=>(x.1,a.eval x.2))).run P w= .ok (.slice (some ⟨w.heap.size,0,none⟩) n n) (w.alloc (.cells fM e))/\EO w (ay X ρ bx w) ρ ((oB.map (·.2)).flatMap D.cells) fM:=by
  have GR:(ps.map fun(x:Nat×Operand)=>(x.1,a.eval x.2)).toList=ps.toList.map fun p=>(p.1,a.eval p.2):=awP
  have Kf:¬n * cA P e>2 ^ 24:=awN
  by_cases vS:n * esz=0
  ·obtain⟨fM,k1,k2⟩:=go #[] (.inl vS);refine⟨fM,?_,k2⟩;rw[vS]at k1;have anl:¬0>2 ^ 24:=oM;simp only[Instr.buildSlice,aa9,aaD hu,aa4,cI (kd▸fR),<-kd,vS,anl,aa_,abo,adB,GR,k1,newRow,newObj,Sem.run,World.alloc]
  ·obtain⟨fM,k1,k2⟩:=go z.cells (.inr rfl);refine⟨fM,?_,k2⟩;rw[<-kd]at Kf;simp only[Instr.buildSlice,aa9,aaD hu,aa4,cI (kd▸fR),<-kd,Kf,aa_,vS,adB,GR,oO,k1,newRow,newObj,Sem.run,World.alloc]
 exact main
def ES(h:aw X ρ σ bx a w){t:TypeId}{n:Nat}{ps:Array (Nat×Operand)}{d:D}(hv:nK (aj P) (aj P t) n (ps.toList.map fun p=>(p.1,ev σ p.2))=some d):Yields P X ρ bx a w ⟨dst,.buildSlice t n ps,ty,pos,af,g⟩ d:=by
 unfold nK at hv;split at hv
 ·rename_i e esz b ag hk;split at hv
  ·rename_i hc;obtain⟨hm,ha,fR,E6,qx⟩:=hc;injection hv with hv;subst hv;obtain⟨hu,kd,_,_⟩:=cW hk;generalize Nq:(ps.toList.map fun p=>(p.1,ev σ p.2))=oB at hm ha;have hlen:oB.length=n:=auA
   have ha':oB.all (fun p=>p.2.cells.length==esz&&p.2.cells.all D.one)=true:=awN
   obtain⟨fM,bZ,gR⟩:=Rh (ag:=ag) h hu kd Nq hm ha' fR E6 qx;have hb:=(afY w.heap.size w).alloc (aaN _) (.cells fM e);have fO:∀x∈oB.map (·.2),x.cells.length=esz/\x.cells.all D.one=true/\x.pure=true:=awN
   have iO:∀(i:Nat) d (j:Nat) c,(oB.map (·.2))[i]? =some d->d.cells[j]? =some c->∃u,fM[i * esz+j]? =some u/\aG w (ay X ρ bx w) ρ c u:=by
    intro i d j c hi hj;have hd:=fO d (aat hi);have vP:j<esz:=awN
    have hf:=E1 (sz:=esz) (oB.map (·.2)) i j d (fun x hx=>(fO x hx).1) hi vP;rw[hj]at hf;have au:=(aaL.1 hf).1;have qe:i * esz+j<fM.size:=by rw[gR.1];exact au
    exact aqR
   have rz:∀(i:Nat) d (j:Nat) c,(oB.map (·.2))[i]? =some d->d.cells[j]? =some c->fM[i * esz+j]? =some (fM.getD (i * esz+j) undef)/\aG w (ay X ρ bx w) ρ c (fM.getD (i * esz+j) undef):=by
    exact ara
   refine⟨.slice (some ⟨w.heap.size,0,none⟩) n n,w.alloc (.cells fM e),?_,hb,.pure (.sl (b:=w.heap.size) (off:=0) (us:=fun i j=>fM.getD (i * esz+j) undef) awJ (aaN _) ?_ (fun _=>⟨rfl,h.fresh _⟩)
    (fun i d hi=>(fO d (aat hi)).1) (fun i d j c hi hj=>?_) (fun i d j c hi hj=>?_) (fun i d j c hi hj=>?_))⟩
   ·exact ard
   ·have:n<=n * esz:=afr n fR
    exact avL
   ·rw[aeC];have hn:=aka w (.cells fM e);simp only[World.cell?,hn,Option.isSome_none,aew,aa_]
    exact awN
   ·exact(rz i d j c hi hj).2.one (aaI.1 (fO d (aat hi)).2.1 c (aat hj))
   ·refine((rz i d j c hi hj).2.mono (fun b dQ=>?_) (fun b dQ=>?_) (fun _ _ _ h=>h)).fw (wu (fO d (aat hi)).2.2 c (aat hj))
    ·exact hb.block b dQ.1
    ·exact⟨aeD dQ.1 hb.size,dQ.2⟩
  ·cases hv
 ·cases hv
def qk{b:Builtin}{b_:Array TypeId}{args:Array Operand}{v:Value}{f:Array TypeId->TypeId->Array Value->Sem Value}(hb:∀ts t cs vs,builtin b ts t cs vs=(do pure (.value (<-f ts t vs))))(hr:(f b_ ty (args.map a.eval)).run P w= .ok v w):
 (execOp a.eval ⟨dst,.call {callee:=.builtin b,args,argTypes:=b_},ty,pos,af,g⟩).run P w= .ok (.value v) w:=by
 simp_all[execOp,resolve,invoke]
def We(h:aw X ρ σ bx a w){b_:Array TypeId}{args:Array Operand}{d:D}(hv:pI .len (b_.toList.map (aj P)) (args.toList.map (ev σ))=some d):Yields P X ρ bx a w ⟨dst,.call {callee:=.builtin .len,args,argTypes:=b_},ty,pos,af,g⟩ d:=by
 obtain⟨b_⟩:=b_;obtain⟨args⟩:=args;cases b_ with
 |nil=>simp[pI]at hv
 |cons T b_=>
 cases b_ with
 |cons T' b_=>simp[pI]at hv
 |nil=>
 cases args with
 |nil=>simp[pI]at hv
 |cons x args=>
 cases args with
 |cons y args=>simp[pI]at hv
 |nil=>
 simp only[abk,aex,pI,aav]at hv;obtain⟨n,hn,rfl⟩:=hv;have hx:=h.ev x;generalize ev σ x=dx at hn hx;refine aK _ (qk (f:=Builtin.len_) (fun _ _ _ _=>rfl) (v:=.int .i64 (n:Int)) ?_) (.pure (.int _ _));simp only[alc,abk,aex];unfold AG at hn;split at hn<;>try (cases hn;done)
 all_goals injection hn with hn;subst hn
 ·rename_i s hk;have bz:(⟨s.toArray⟩:ByteArray).size=s.length:=au3
  simp only[Builtin.len_,afl,aet,hx.fj,aa9,aaD (ta hk),aa4,adB,goInt,bz]
 ·rename_i hk;have eA:=hx.fw rfl;generalize ig:a.eval x=vx at eA;cases eA with
  |sl hn _ _ _ _ _ _ _=>subst hn;simp[Builtin.len_,aaD (cW hk).1,goInt]
 ·rename_i hk;simp[Builtin.len_,hx.gv,aaD (cW hk).1,goInt]
 ·rename_i hk;generalize ig:a.eval x=vx at hx;cases hx with
  |pure h=>cases h
  |ba=>simp[Builtin.len_,aaD (cW hk).1,goInt]
 ·rename_i hk;obtain⟨A,ig⟩:=(hx.fw rfl).yZ;simp[Builtin.len_,ig,aaD (cW hk).1,goInt]
 ·rename_i hk;generalize ig:a.eval x=vx at hx;cases hx with
  |pure h=>cases h
  |ic=>simp[Builtin.len_,aaD (cW hk).1,goInt]
 ·rename_i hk;obtain⟨e,hu,_⟩:=xC hk;simp[Builtin.len_,aaD hu,goInt]
def Uy(h:aw X ρ σ bx a w){b_:Array TypeId}{args:Array Operand}{d:D}(hv:pI .cap (b_.toList.map (aj P)) (args.toList.map (ev σ))=some d):Yields P X ρ bx a w ⟨dst,.call {callee:=.builtin .cap,args,argTypes:=b_},ty,pos,af,g⟩ d:=by
 obtain⟨b_⟩:=b_;obtain⟨args⟩:=args;cases b_ with
 |nil=>simp[pI]at hv
 |cons T b_=>
 cases b_ with
 |cons T' b_=>simp[pI]at hv
 |nil=>
 cases args with
 |nil=>simp[pI]at hv
 |cons x args=>
 cases args with
 |cons y args=>simp[pI]at hv
 |nil=>
 simp only[abk,aex]at hv;have hx:=h.ev x;generalize hti:aj P T=ti at hv;generalize ev σ x=dx at hv hx;obtain⟨k,size,ag,z⟩:=ti;cases k<;>try (simp[pI]at hv;done)
 cases dx<;>try (simp[pI]at hv;done)
 simp only[pI,aaM]at hv;subst hv;rename_i e esz b g;have hk:(aj P T).k= .slice e esz b g:=by rw[hti]
 refine aK _ (qk (f:=Builtin.cap_) (fun _ _ _ _=>rfl) (v:=.int _ 0) ?_) (.pure (.int _ _));simp[Builtin.cap_,hx.gv,aaD (cW hk).1,goInt]
theorem Wm(h:aw X ρ σ bx a w){b_:Array TypeId}{args:Array Operand}{d:D}(hv:minD (args.toList.map (ev σ))=some d):Yields P X ρ bx a w ⟨dst,.call {callee:=.builtin .min,args,argTypes:=b_},ty,pos,af,g⟩ d:=by
 obtain⟨args⟩:=args;unfold minD at hv;split at hv
 ·rename_i k m k' n he;cases args with
  |nil=>simp at he
  |cons x args=>
  cases args with
  |nil=>simp at he
  |cons y args=>
  cases args with
  |cons z args=>simp at he
  |nil=>
  simp[abk,aex,afc,akQ]at he;split at hv
  ·cases hv;have hx:=h.ev x;have hy:=h.ev y;rw[he.1]at hx;rw[he.2]at hy;refine aK _ (qk (fun _ _ _ _=>rfl) ?_) (.pure (.int _ _));simp[Builtin.min_,Builtin.min2,hx.cV,hy.cV]
  ·cases hv
 ·cases hv
def Fg{S:Nat->Prop}{x y d:D}{u v:Value}(h:Hf x y=some d)(hx:aG w S ρ x u)(hy:aG w S ρ y v):∃k n,d= .int k n/\(Builtin.max2 u v).run P w= .ok (.int k n) w:=by
 unfold Hf at h;split at h
 ·split at h
  ·rw[hx.cV,hy.cV];simp_all[Builtin.max2]
  ·exact awI
 ·exact awI
theorem Wj(h:aw X ρ σ bx a w){b_:Array TypeId}{args:Array Operand}{d:D}(hv:maxD (args.toList.map (ev σ))=some d):Yields P X ρ bx a w ⟨dst,.call {callee:=.builtin .max,args,argTypes:=b_},ty,pos,af,g⟩ d:=by
 obtain⟨args⟩:=args
 match args,hv with
 |[x,y],hv=>
  obtain⟨k,n,rfl,h1⟩:=Fg (P:=P) hv (h.ev x) (h.ev y);refine aK _ (qk (fun _ _ _ _=>rfl) ?_) (.pure (.int _ _));simp[Builtin.max_,h1]
 |[x,y,z],hv=>
  obtain⟨m,hm,hv⟩:=aeP.1 hv;obtain⟨k,n,rfl,h1⟩:=Fg (P:=P) hm (h.ev x) (h.ev y);obtain⟨k',n',rfl,h2⟩:=Fg (P:=P) hv (.pure (.int k n)) (h.ev z);refine aK _ (qk (fun _ _ _ _=>rfl) ?_) (.pure (.int _ _));simp[Builtin.max_,h1,h2]
 |[],hv=>cases hv
 |[_],hv=>cases hv
 |_::_::_::_::_,hv=>cases hv
theorem JB:∀(es:List D) (l:List UInt8),oz es=some l->∃ns:List Int,es=ns.map (D.int .u8)/\l=ns.map fun n=>UInt8.ofNat n.toNat
 |[],l,h=>by simp_all[oz]
 |x::es,l,h=>by
  unfold oz at h;split at h
  ·exact awN
  ·rename_i n es' heq;cases heq;rw[aav]at h;obtain⟨l',h',rfl⟩:=h;obtain⟨ns,rfl,rfl⟩:=JB _ _ h';exact⟨n::ns,rfl,rfl⟩
  ·exact awI
theorem Us{S:Nat->Prop}{es:List D}{A:Option Addr}{n cap:Nat}{l:List UInt8}(hx:bc w S (.sl 1 es) (.slice A n cap))(hl:oz es=some l):(Conv.bytesToString (.slice A n cap)).run P w= .ok (.string ⟨l.toArray⟩) w:=by
 obtain⟨ns,rfl,rfl⟩:=JB es l hl;cases hx with
 |@sl _ _ _ _ _ b off us hn cU gQ hA bz hc h1 hr=>
  by_cases bh:ns=[]
  ·subst bh;simp only[aex,aeW]at hn;subst hn;cases A with
   |none=>rw[Conv.bytesToString,adB];rfl
   |some ad=>
    rw[run_bytesToString w ad 0 cap [] (akT (P:=P) (w:=w) ad [] (fun j v hj=>by simp at hj))];rfl
  ·obtain⟨rfl,_⟩:=hA awN;have hl:(loadCells ⟨b,off,none⟩ n).run P w= .ok (ns.map (Value.int .u8)).toArray w:=by
    have:=akT (P:=P) (w:=w) ⟨b,off,none⟩ (ns.map (Value.int .u8)) (fun j v hj=>by
     rw[aaZ,aav]at hj;obtain⟨m,hm,rfl⟩:=hj;have h0:=hc j (.int .u8 m) 0 (.int .u8 m) (by simp[hm]) rfl;have h2:=hr j (.int .u8 m) 0 (.int .u8 m) (by simp[hm]) rfl;have e:us j 0= .int .u8 m:=(aG.pure (ρ:=⟨fun _ _=>none,fun _=>none⟩) h2).cV
     grind [Addr.ei])
    exact awN
   rw[run_bytesToString w _ n cap ns hl,foldl_push_bytes];exact awy
def So(h:aw X ρ σ bx a w){s t:TypeId}{x:Operand}{d:D}(hv:As (aj P) (aj P s) (aj P t) (ev σ x)=some d):Yields P X ρ bx a w ⟨dst,.convert s t x,ty,pos,af,g⟩ d:=by
 have hx:=h.ev x;generalize ev σ x=dx at hv hx;have key:∀(sz:Nat) (es:List D) (e z0 b0:Nat) (g0:Bool),(aj P s).k= .slice e z0 b0 g0->(aj P t).k= .str->(sz=1/\(aj P e).k.vB=true)->bc w (ay X ρ bx w) (.sl sz es) (a.eval x)->(oz es).map D.str=some d->Yields P X ρ bx a w ⟨dst,.convert s t x,ty,pos,af,g⟩ d:=by
  intro sz es e z0 b0 g0 h1 h2 bz eA fX;obtain⟨bz,hu8⟩:=bz;subst bz;have hu:P.underlying e=some (.int .u8):=by grind [TK.vB,xD]
  rw[aav]at fX;obtain⟨l,hl,rfl⟩:=fX;refine aK (.string ⟨l.toArray⟩) ?_ (.pure (.str _));generalize ig:a.eval x=vx at eA;have uW:∃A n cap,vx= .slice A n cap:=by cases eA;grind
  obtain⟨A,n,cap,rfl⟩:=uW;have bZ:=Us (P:=P) eA hl;simp only[execOp,convert,ig,aa9,aaD (cW h1).1,aaD (ta h2),aaD hu,aa4,bZ,adB]
 unfold As at hv;split at hv
 ·rename_i k n;split at hv
  ·rename_i k1 k2 h1 h2;injection hv with hv;subst hv;refine aK (.int k2 (k2.wrap n)) ?_ (.pure (.int _ _));simp[execOp,convert,aaD (xD h1),aaD (xD h2),hx.cV,Conv.intToInt]
  ·cases hv
 ·rename_i l;split at hv
  ·rename_i h1 h2;injection hv with hv;subst hv;refine aK (.string ⟨l.toArray⟩) ?_ (.pure (.str _));simp[execOp,convert,aaD (ta h1),aaD (ta h2),hx.fj]
  ·cases hv
 ·rename_i sz es;split at hv
  ·rename_i e z0 b0 g0 h1 h2;split at hv
   ·rename_i bz;exact key sz es e z0 b0 g0 h1 h2 bz (hx.fw rfl) hv
   ·cases hv
  ·cases hv
 ·rename_i sz es;split at hv
  ·rename_i e z0 b0 g0 h1 h2;split at hv
   ·rename_i bz;exact key sz es e z0 b0 g0 h1 h2 bz (hx.fw rfl).u_ hv
   ·cases hv
  ·cases hv
 ·split at hv
  ·rename_i e z0 b0 g0 h1 h2;split at hv
   ·rename_i hu8;injection hv with hv;subst hv;have hu:P.underlying e=some (.int .u8):=by grind [TK.vB,xD]
    refine aK (.string ⟨([]:List UInt8).toArray⟩) ?_ (.pure (.str _));simp only[execOp,convert,hx.gv,aa9,aaD (cW h1).1,aaD (ta h2),aaD hu,aa4,Conv.bytesToString,adB];rfl
   ·cases hv
  ·cases hv
 ·cases hv
def OO(h:aw X ρ σ bx a w){t:TypeId}{x m:Operand}{lo hi:Option Operand}{d:D}(hv:ZF (aj P t) (ev σ x) (fu σ lo) (fu σ hi) (E9 (ev σ m))=some d):Yields P X ρ bx a w ⟨dst,.slice t x lo hi (some m),ty,pos,af,g⟩ d:=by
 have hx:=h.ev x;have hm:=h.ev m;generalize ev σ x=dx at hv hx;generalize ev σ m=dm at hv hm;unfold ZF at hv;split at hv
 ·rename_i l hh mm hl hhi GL;obtain⟨k,hdm⟩:∃k,dm= .int k mm:=by
   cases dm<;>simp only[E9]at GL<;>try (cases GL;done)
   exact awN
  subst hdm;have hmv:=hm.cV;rcases sU h hhi with⟨_,h0⟩|⟨y,k',n',hy1,NG,hy⟩
  ·cases h0
  injection NG with NG;subst NG;subst hy1;have bound:∀(p q:Nat) (len cap:Nat),fy len l (some hh)=some (p,q)->mm=hh->len<=cap->(Instr.sliceBounds true len cap (lo.map a.eval) (some (a.eval y)) (some (a.eval m))).run P w= .ok (p,q,q) w/\p<=q/\q<=len:=by
   intro p q len cap hc hmh hle;subst hmh;unfold fy at hc;simp only[ajC]at hc;split at hc
   ·rename_i hb;injection hc with hc;injection hc with h1 h2;have c1:0<=mm/\mm<=(cap:Int):=⟨awO,awO⟩
    have c2:0<=mm/\mm<=((mm.toNat:Nat):Int):=⟨awO,awO⟩
    rcases sU h hl with⟨rfl,rfl⟩|⟨z,kz,nz,rfl,rfl,hz⟩<;>simp only[Option.getD_none,ajC]at hb h1
    ·subst h1;subst h2;exact arw
    ·subst h1;subst h2;have c3:0<=nz/\nz<=((mm.toNat:Nat):Int):=⟨awO,awO⟩
     exact aqP
   ·cases hc
  unfold Rz at hv;split at hv
  ·rename_i e esz b ag sz es hk;split at hv
   ·rename_i Vz;obtain⟨he,fR,hmh⟩:=Vz;subst he;obtain⟨hu,kd,_,_⟩:=cW hk;cases hc:fy es.length l (some hh)with
    |none=>grind
    |some pq=>
     obtain⟨p,q⟩:=pq;simp only[hc,aec,aaM]at hv;subst hv;have eA:bc w (ay X ρ bx w) (.sl sz es) (a.eval x):=hx.fw rfl;generalize ig:a.eval x=vx at eA;cases eA with
     |@sl _ _ A n cap b' off us hn cU gQ hA bz iR h1 hr=>
      subst hn;obtain⟨bZ,k1,k2⟩:=bound p q _ cap hc hmh cU;have fO:∀(i:Nat) c,((es.drop p).take (q - p))[i]? =some c->es[p+i]? =some c:=fun i c hi=>by grind [List.getElem?_take_of_lt]
      refine aK (.slice (if q=p then A else A.map (·.add (p * sz))) (q - p) (q - p)) ?_ (.pure (.nu (.sl (b:=b') (off:=off+p * sz) (us:=fun i j=>us (p+i) j) awe oM oM (fun bh=>?_)
       (fun i c hi=>bz _ _ (fO i c hi)) (fun i c j c' hi hj=>?_) (fun i c j c' hi hj=>h1 _ _ _ _ (fO i c hi) hj) (fun i c j c' hi hj=>hr _ _ _ _ (fO i c hi) hj))))
      ·simp only[execOp,Instr.sliceAt,Instr.slice,ig,aa9,adB,aa4,aaD hu,aec,bZ,cI (kd▸fR),<-kd]
      ·have au:p<es.length:=awN
       have hqp:q≠p:=by rintro rfl;grind
       obtain⟨rfl,hb⟩:=hA awN;simp_all[Addr.ei]
      exact awN
   ·cases hv
  ·rename_i e esz b ag hk;split at hv
   ·rename_i Vz;obtain⟨h1,h2,h3,fR⟩:=Vz;injection hv with hv;subst hv;obtain⟨hu,kd,_,_⟩:=cW hk;have ig:=hx.gv;simp_all[fy,aK,execOp,Instr.sliceAt,Instr.slice,aaD,cI]
   ·cases hv
  ·cases hv
 ·cases hv
def Tw(h:aw X ρ σ bx a w){c x y:Operand}{d:D}(hv:uJ (ev σ c) (ev σ x) (ev σ y)=some d):Yields P X ρ bx a w ⟨dst,.pick c x y,ty,pos,af,g⟩ d:=by
 have hc:=h.ev c;generalize ev σ c=dc at hv hc;cases dc<;>simp[uJ]at hv<;>try (done)
 rename_i t;cases hv;refine aK (if t then a.eval x else a.eval y) ?_ ?_
 ·simp[execOp,asBool,hc.kA]
 ·cases t
  ·exact h.ev y
  ·exact h.ev x
theorem Wp(h:aw X ρ σ bx a w){op:BinOp}{t t':TypeId}{x:Operand}{d:D}(hv:Zz (aj P t) op (ev σ x)=some d):Yields P X ρ bx a w ⟨dst,.binOp op t x (.const .nilIface) t',ty,pos,af,g⟩ d:=by
 have hx:=h.ev x;generalize ev σ x=dx at hv hx;have key:∀b ms,P.underlying t=some (.interface ms)->sQ dx=some b->(Op.equal t (a.eval x) .nilIface).run P w= .ok b w/\(∀op,(eqGuard op t x (.const .nilIface) (a.eval x) .nilIface).run P w= .ok () w)/\((∃t v,a.eval x= .iface t v)\/a.eval x= .nilIface):=by
  intro b ms hu hb;unfold sQ at hb;split at hb
  ·injection hb with hb;subst hb;generalize a.eval x=vx at hx;have:∃t v,vx= .iface t v:=by cases hx with
    |pure h=>cases h<;>grind
    |bK h=>grind
   obtain⟨t1,v1,rfl⟩:=this;have e1:∀n,(Op.equalIn (n+1) t (.iface t1 v1) .nilIface).run P w= .ok false w:=fun n=>by simp[Op.equalIn,aaD hu]
   exact⟨e1 9999,fun op=>by cases op<;>simp[eqGuard],.inl ⟨_,_,rfl⟩⟩
  ·injection hb with hb;subst hb;have hx:=hx.IJ;rw[hx];have e1:∀n,(Op.equalIn (n+1) t .nilIface .nilIface).run P w= .ok true w:=fun n=>by simp[Op.equalIn,aaD hu]
   exact⟨e1 9999,fun op=>by cases op<;>simp[eqGuard],.inr rfl⟩
  ·cases hb
 unfold Zz at hv;split at hv
 ·rename_i hk;obtain⟨ms,hu⟩:=Xr hk;rw[aav]at hv;obtain⟨b,hb,rfl⟩:=hv;obtain⟨h1,h2,h3⟩:=key b ms hu hb;refine aK (.bool b) ?_ (.pure (.bool _));exact aqW
 ·rename_i hk;obtain⟨ms,hu⟩:=Xr hk;rw[aav]at hv;obtain⟨b,hb,rfl⟩:=hv;obtain⟨h1,h2,h3⟩:=key b ms hu hb;refine aK (.bool (!b)) ?_ (.pure (.bool _));exact aqW
 ·cases hv
def PA(h:aw X ρ σ bx a w){t:TypeId}{x:Operand}{d:D}(hv:DY (aj P t) t (ev σ x)=some d):Yields P X ρ bx a w ⟨dst,.makeInterface t x,ty,pos,af,g⟩ d:=by
 unfold DY at hv;split at hv
 ·cases hv
 ·cases hv
 ·rename_i h1 h2;cases hv;obtain⟨dd,hu,hn⟩:=O0 h1 h2;refine aK _ ?_ (.bK (h.ev x));simp_all[execOp,Instr.makeInterface,aaD]
def TS(h:aw X ρ σ bx a w){t xt:TypeId}{x:Operand}{ok:Bool}{d:D}(hv:HP (aj P t) t ok (ev σ x)=some d):Yields P X ρ bx a w ⟨dst,.typeAssert x xt t ok,ty,pos,af,g⟩ d:=by
 have hx:=h.ev x;generalize ev σ x=dx at hv hx;have hzero:(aj P t).zero.isEmpty=false->∃z,(zeroValue t).run P w= .ok z w:=by
  intro h2;simp only[aj]at h2;cases hi:P.info? t with
  |none=>grind
  |some i=>
   exact arP
 have Zb:∀(v v2:Value) (d d2:D),aG w (ay X ρ bx w) ρ d v->aG w (ay X ρ bx w) ρ d2 v2->aG w (ay X ρ bx w) ρ (.aL [d,d2]) (.tuple #[v,v2]):=by
  intro v v2 d d2 h1 h2;refine .aL rfl fun i dd vv hd hv=>?_
  exact awN
 unfold HP at hv;split at hv
 ·cases hv
 ·cases hv
 ·rename_i h1 h2;obtain⟨dd,hu,hn⟩:=O0 h1 h2;split at hv
  ·rename_i t' v0;generalize ig:a.eval x=vx at hx;have:∃v,vx= .iface t' v/\aG w (ay X ρ bx w) ρ v0 v:=by cases hx with
    |pure h=>cases h with|bK h=>exact⟨_,rfl,.pure h⟩
    |bK h=>grind
   obtain⟨v,rfl,hr⟩:=this;split at hv
   ·rename_i ht;subst ht;injection hv with hv;subst hv;refine aK (if ok then .tuple #[v,.bool true]else v) ?_ ?_
    ·simp_all[execOp,Instr.typeAssert,aaD]
    ·cases ok
     ·exact hr
     ·exact Zb _ _ _ _ hr (.pure (.bool _))
   ·rename_i ht;split at hv
    ·rename_i hz;simp only[aas,ae_]at hz;obtain⟨rfl,hz⟩:=hz;injection hv with hv;subst hv;obtain⟨z,hz⟩:=hzero hz;refine aK (.tuple #[z,.bool false]) ?_ (Zb _ _ _ _ (.pure (.undef _)) (.pure (.bool _)));simp_all[execOp,Instr.typeAssert,aaD]
    ·cases hv
  ·split at hv
   ·rename_i hz;simp only[aas,ae_]at hz;obtain⟨rfl,hz⟩:=hz;injection hv with hv;subst hv;obtain⟨z,hz⟩:=hzero hz;refine aK (.tuple #[z,.bool false]) ?_ (Zb _ _ _ _ (.pure (.undef _)) (.pure (.bool _)));simp only[execOp,Instr.typeAssert,aa9,aaD hu,aa4,hx.IJ];exact awy
   ·cases hv
  ·cases hv
def Li(h:aw X ρ σ bx a w)(o:Oper){d:D}(hv:cv P σ bx o.op=some d):Yields P X ρ bx a w o d:=by
 obtain⟨dst,op,ty,pos,af,g⟩:=o;simp only at hv;cases op with
 |move x=>simp only[cv,aaM]at hv;subst hv;exact aK (a.eval x) (by simp[execOp]) (h.ev x)
 |assign x=>simp only[cv,aaM]at hv;subst hv;exact aK (a.eval x) (by simp[execOp]) (h.ev x)
 |pick c x y=>exact Tw h hv
 |binOp op t x y t'=>
  grind [cv,ER,isNil,Pj,Wp]
 |makeInterface t x=>exact PA h hv
 |typeAssert x xt t ok=>exact TS h hv
 |unOp op t x=>exact TW h hv
 |fieldAddr t x i=>exact Gk h hv
 |field t x i=>exact Pu h hv
 |sliceToArrayPointer t x=>exact Pg h hv
 |indexAddr t x y=>exact GZ h hv
 |index t x y=>exact Py h hv
 |load t x=>exact S8 h hv
 |extract x i=>
  simp only[cv]at hv;have hx:=h.ev x;generalize ev σ x=dx at hv hx;cases dx<;>simp only[Lw]at hv<;>try (cases hv;done)
  rename_i ds;obtain⟨vs,ig,hl,hr⟩:=hx.Q4;have hi:i<vs.size:=awN
  have hvi:vs[i]? =some vs[i]:=abd hi;exact aK vs[i] (by simp[execOp,Instr.extract,ig,hvi]) (hr _ _ _ hv hvi)
 |slice t x lo hi mx=>
  cases mx with
  |none=>exact PR h hv
  |some m=>exact OO h hv
 |build t ps=>
  simp only[cv]at hv;cases hb:nt (aj P t) (ps.toList.map fun p=>(p.1,ev σ p.2))with
  |some d'=>rw[hb]at hv;injection hv with hv;grind [Ml]
  |none=>
   rw[hb]at hv;simp only[BM]at hv;split at hv
   ·rename_i hc;injection hv with hv;subst hv;rw[aas]at hc;obtain⟨h0,hu,i,z,hi,hz,tF,bz⟩:=Sv hc.2;have Ki:ps= #[]:=awN
    subst Ki;refine aK (.agg #[]) ?_ (.pure (.agg rfl fun i d u hd hu=>aws));simp_all[execOp,Instr.build,zeroValue,typeInfo,aaD,Instr.fill,Wx]
   ·cases hv
 |buildSlice t n ps=>exact ES h hv
 |nilCheck x=>
  simp only[cv]at hv;have hx:=h.ev x;generalize ev σ x=dx at hv hx;cases dx<;>simp only[IY]at hv<;>try (cases hv;done)
  ·injection hv with hv;subst hv;have eA:=hx.fw rfl;generalize ig:a.eval x=vx at hx eA;refine aK vx ?_ hx;cases eA;simp[execOp,ig]
  ·injection hv with hv;subst hv;obtain⟨p,hp,ig⟩:=hx.mH;simp_all[aK,execOp]
 |makeFunc f first caps=>
  simp only[cv]at hv;split at hv
  ·rename_i hf;injection hv with hv;subst hv;have hf:first= #[]:=awN
   subst hf;refine aK (.func f #[] (caps.map a.eval)) (by simp[execOp,Instr.makeFunc]) (.fn sI fun i d v hd hv=>?_);simp only[aaZ,aba,afo,aav]at hd hv;obtain⟨x,hx,rfl⟩:=hd;obtain⟨y,hy,rfl⟩:=hv;rw[hx]at hy;injection hy with hy;subst hy;exact h.ev x
  ·split at hv
   ·rename_i hf;have hf:caps= #[]:=awN
    subst hf;unfold adU at hv;split at hv
    ·injection hv with hv;subst hv;refine aK (.func (.func _) (first.map a.eval) #[]) (by simp[execOp,Instr.makeFunc]) (.fW sI fun i d v hd hv=>?_);simp only[aaZ,aba,afo,aav]at hd hv;obtain⟨x,hx,rfl⟩:=hd;obtain⟨y,hy,rfl⟩:=hv;rw[hx]at hy;injection hy with hy;subst hy;exact h.ev x
    ·cases hv
   ·cases hv
 |convert s t x=>exact So h hv
 |call c=>
  obtain⟨callee,args,b_⟩:=c;cases callee with
  |builtin b=>
   simp only[cv]at hv;cases b with
   |len=>exact We h hv
   |cap=>exact Uy h hv
   |min=>grind [Wm,pI]
   |max=>grind [Wj,pI]
   |_=>simp[pI]at hv
  |_=>simp[cv]at hv
 |_=>simp[cv]at hv
end Go.V
namespace Go.V
open Go.RowKit
variable {P:Program} {X:Ctx} {ρ:bX} {σ:Env} {bx:ab} {a:Act} {w:World}
variable {ty:TypeId} {pos:String} {af:Array Edge} {g:Option (Nat×Bool)}
def N6(h:aw X ρ σ bx a w){T d s:Nat}(hd:d<X.N)(bC:X.lo<=s){v:Value}{x:D}(hs:v.cells.size=x.cells.length)
 (hc:∀(j:Nat) c,x.cells[j]? =some c->∃u,v.cells[j]? =some u/\aG w (ay X ρ bx w) ρ c u/\u.oneCell'=true):
 ∃ρ',aw X ρ' (ah σ d (.loc s ((bx s).ep+1) 0 0)) (ah bx s ⟨(bx s).ep+1,1,x.cells.length,T,[x]⟩) (a.put (some d) (.pointer (some ⟨w.heap.size,0,none⟩))) (w.alloc (.cells v.cells T)):=by
 have hb:=(afY _ w).alloc (aaN _) (.cells v.cells T);have h2:=h.own (p:=⟨w.heap.size,1,x.cells.length,T⟩) (es:=[x]) bC (fun _=> .inl rfl) (Old:=fun _=>False) (.xr hb) (fun _ h=>h.elim) (.inl (aaN _)) (fun S' ρ' hS hρ=>by
  refine⟨⟨v.cells,aka w _,by simp[hs],fun _ j=>v.cells.getD j undef,fun i y j c hi hj=>?_⟩,awP,by simp[maxLen],fun i y hi=>?_⟩
  ·cases i with
   |zero=>
    simp[aet,aaM]at hi;subst hi;dsimp only;obtain⟨u,hu,hr,h1⟩:=hc j c hj;have:v.cells.getD j undef=u:=awy
    rw[this,akF,aeC];exact⟨hu,hr.mono (fun b dQ=>hb.block b dQ.1) hS hρ,h1⟩
   |succ i=>simp at hi
  grind)
 refine⟨_,h2.put (dst:=some d) (fun t ht=>awN) (.loc (p:=⟨w.heap.size,1,x.cells.length,T⟩) ?_ sI)⟩;simp
theorem wK{t:TypeId}(h:(aj P t).zero.length≠0):∃i z,P.info? t=some i/\i.zero=some z/\(aj P t).zero=z.cells.toList.map ED:=by
 simp[aj]at h⊢;cases hi:P.info? t with
 |none=>grind
 |some i=>
  cases hz:i.zero<;>grind
def L_(h:aw X ρ σ bx a w){T d s:Nat}(hd:d<X.N)(bC:X.lo<=s){z:D}(hz:kT (aj P T)=some z):
 ∃v w',(execOp a.eval ⟨some d,.alloc T,ty,pos,af,g⟩).run P w= .ok (.value v) w'/\
  ∃ρ',aw X ρ' (ah σ d (.loc s ((bx s).ep+1) 0 0)) (ah bx s ⟨(bx s).ep+1,1,(aj P T).size,T,[z]⟩) (a.put (some d) v) w':=by
 unfold kT at hz;split at hz
 ·rename_i hc;obtain⟨fR,hl,eW,fQ⟩:=hc;injection hz with hz;have hzero:∃zv,(zeroValue T).run P w= .ok zv w/\(aj P T).zero=zv.cells.toList.map ED:=by
   have h2:(aj P T).zero.length≠0:=oM;simp only[aj]at h2⊢;cases hi:P.info? T with
   |none=>grind
   |some i=>
    exact arP
  obtain⟨zv,oO,tF⟩:=hzero;have Cs:z.cells=(aj P T).zero:=by
   subst hz;unfold EB;cases hA:(aj P T).agg with
   |true=>rfl
   |false=>
    rcases eW with eW|eW
    ·exact awN
    ·rw[eW]at hl
     match zy:(aj P T).zero,hl with
     |[c],_=>
      exact ary
  have hlen:z.cells.length=(aj P T).size:=awN
  obtain⟨ρ',h'⟩:=N6 (T:=T) h hd bC (v:=zv) (x:=z) awN (fun j c hj=>by
   rw[Cs]at hj;have h1:=aaI.1 fQ c (aat hj);rw[tF,aaZ,aav]at hj;obtain⟨u,hu,rfl⟩:=hj;rw[aba]at hu;exact⟨u,hu,.pure (nO u),(aG.pure (w:=w) (S:=ay X ρ bx w) (ρ:=ρ) (nO u)).one h1⟩)
  rw[hlen]at h';refine⟨_,_,?_,ρ',h'⟩;exact aqK
 ·cases hz
def Pf(h:aw X ρ σ bx a w){T d s:Nat}(hd:d<X.N)(bC:X.lo<=s){z:D}(hz:BM (kT (aj P T)) (vL (aj P T) (zeroV P T))=some z):
 ∃v w',(execOp a.eval ⟨some d,.alloc T,ty,pos,af,g⟩).run P w= .ok (.value v) w'/\
  ∃ρ',aw X ρ' (ah σ d (.loc s ((bx s).ep+1) 0 0)) (ah bx s ⟨(bx s).ep+1,1,(aj P T).size,T,[z]⟩) (a.put (some d) v) w':=by
 cases hq:kT _ with
 |some z'=>rw[hq]at hz;cases hz;exact L_ h hd bC hq
 |none=>
  rw[hq]at hz;simp only[BM]at hz;split at hz
  ·rename_i hc;cases hz;obtain⟨h0,hu,i,zv,hi,oO,tF,bz⟩:=Sv hc;obtain⟨ρ',h'⟩:=N6 h hd bC (x:=.agg []) (by rw[Wx tF];rfl) (fun j c hj=>by simp[D.cells]at hj);rw[h0];refine⟨_,_,?_,ρ',h'⟩;have oO:(zeroValue T).run P w= .ok zv w:=by simp_all[zeroValue,typeInfo]
   exact aqK
  ·cases hz
def Tc(h:aw X ρ σ bx a w){T d s:Nat}(hd:d<X.N)(bC:X.lo<=s){l c:Operand}{r:Nat×TypeId×List D}(hz:x9 (aj P) (aj P T) (ev σ l) (ev σ c)=some r):
 ∃v w',(execOp a.eval ⟨some d,.makeSlice T l c,ty,pos,af,g⟩).run P w= .ok (.value v) w'/\
  ∃ρ',aw X ρ' (ah σ d (.ba s ((bx s).ep+1) r.1 0 r.2.2.length)) (ah bx s ⟨(bx s).ep+1,1,r.1,r.2.1,r.2.2⟩) (a.put (some d) v) w':=by
 have hl:=h.ev l;have hc:=h.ev c;generalize ev σ l=dl at hz hl;generalize ev σ c=dc at hz hc;unfold x9 at hz;split at hz
 ·rename_i el esz bytes g0 k1 n k2 m hk;split at hz
  ·rename_i uB;obtain⟨h0,QS,GA,vN,mD,bz⟩:=uB;rw[aav]at hz;obtain⟨z,hz,rfl⟩:=hz;obtain⟨hu,he,Gz,_⟩:=cW hk;unfold kT at hz;split at hz
   ·rename_i hcz;obtain⟨fR,qx,eW,fQ⟩:=hcz;injection hz with hz;obtain⟨i,zv,hi,oO,tF⟩:=wK (P:=P) (t:=el) oM;have Cs:z.cells=(aj P el).zero:=by
     subst hz;unfold EB;cases hA:(aj P el).agg with
     |true=>rfl
     |false=>
      rcases eW with eW|eW
      ·exact awN
      ·rw[eW]at qx
       match zy:(aj P el).zero,qx with
       |[c],_=>
        exact ary
    have J8:i.bytes=bytes:=awN
    have zx:zv.cells.size=esz:=awN
    have hmb:m<=m * bytes:=by
     have:m * 1<=m * (bytes:Int):=Int.mul_le_mul_of_nonneg_left oM oM;exact awO
    have hmz:0<m.toNat * esz\/m.toNat=0:=by
     rcases Nat.eq_zero_or_pos m.toNat with h|h
     ·exact awN
     ·exact .inl (Nat.mul_pos h vN)
    generalize yx:((Array.range (m.toNat * esz)).map ((if m.toNat * esz=0 then(#[]:Array Value)else zv.cells)[· % (if m.toNat * esz=0 then(#[]:Array Value)else zv.cells).size]!))=arr;have QW:arr.size=m.toNat * esz:=awN
    have eC:∀i' j,i'<m.toNat->j<esz->arr[i' * esz+j]? =some (zv.cells.getD j undef):=by
     intro i' j pP hj;have au:i' * esz+j<m.toNat * esz:=by
      have:(i'+1) * esz<=m.toNat * esz:=aen _ pP
      exact awN
     rw[<-yx];simp only[afo,Array.getElem?_range,au,abo,aec];have bh:¬m.toNat * esz=0:=oM;simp only[bh,aa_,zx];have:(i' * esz+j) % esz=j:=by rw[aqh,Nat.mul_add_mod,Nat.mod_eq_of_lt hj]
     rw[this,aeE]
     exact awN
    have hb:=(afY w.heap.size w).alloc (aaN _) (.cells arr el);have h2:=h.own (w':=w.alloc (.cells arr el)) (t:=s) (p:=⟨w.heap.size,m.toNat,esz,el⟩) (es:=List.replicate n.toNat z) (bx1:=bx) bC (fun _=> .inl rfl) (Old:=fun _=>False) (.xr hb) (fun _ h=>h.elim) (.inl (aaN _)) (fun S' ρ' hS hρ=>by
     refine⟨⟨arr,aka w _,QW,fun _ j=>zv.cells.getD j undef,fun i' y j c pP hj=>?_⟩,awe,avL,fun i' y pP=>?_⟩
     ·have oH:=(aaL.1 pP).1;simp only[aff]at oH;have hy:y=z:=awN
      subst hy;rw[Cs]at hj;have GH:=(aaL.1 hj).1;have h1:=aaI.1 fQ c (aat hj);rw[tF,aaZ,aav]at hj;obtain⟨u,hu,rfl⟩:=hj;rw[aba]at hu;have rz:zv.cells.getD j undef=u:=by rw[aeE,hu];rfl
      refine⟨eC i' j oM oM,?_,?_⟩
      ·dsimp only;rw[rz];exact .pure (nO u)
      ·dsimp only;exact aq6
     grind)
    refine⟨.slice (some ⟨w.heap.size,0,none⟩) n.toNat m.toNat,_,?_,_,h2.put (dst:=some d) (fun t ht=>awN) ?_⟩
    ·have hby2:(bytes:Int) * m<=140737488355328:=awN
     have hp:(2:Int) ^ 48=281474976710656:=awL
     have uB:(decide (m<0)||decide ((bytes:Int) * m>2 ^ 48)||decide (n<0)||decide (n>m))=false:=awN
     have ha:∀k (n:Int),(asInt (.int k n)).run P w= .ok n w:=fun k n=>by simp[asInt,asIntOf]
     have CG:IntKind.i64.wrap n=n:=IntWalk.i64_in n ⟨awO,awO⟩;have nG:IntKind.i64.wrap m=m:=IntWalk.i64_in m ⟨awO,awO⟩;have aiw:(program).run P w= .ok P w:=av2
     have hzv:(zeroValue el).run P w= .ok zv w:=by simp[zeroValue,typeInfo,hi,oO,go_sem]
     simp only[execOp,Instr.makeSlice,hl.cV,hc.cV,aa9,aaD hu,adB,aa4,ha,typeInfo,aiw,hi,J8,CG,nG,uB,aew,aa_,run_askRoom,cI (P:=P) (t:=el) oM,<-he];by_cases CH:m.toNat * esz=0
     ·simp only[CH,abo]at yx;simp only[CH,abo,aa9,adB,aa4,newRow,newObj,Sem.run,World.alloc]
      exact awN
     ·simp only[CH,aa_]at yx;simp only[CH,aa_,aa9,adB,aa4,hzv,newRow,newObj,Sem.run,World.alloc]
      exact awN
    ·simp only[aff];refine .ba (p:=⟨w.heap.size,m.toNat,esz,el⟩) ?_ rfl (fun _=>⟨rfl,rfl⟩) (fun _=>awP) ?_ ?_
     ·exact awP
     ·exact awe
     exact avL
   ·cases hz
  ·cases hz
 ·cases hz
def S7(h:aw X ρ σ bx a w){T d s n:Nat}(hd:d<X.N)(bC:X.lo<=s){ps:Array (Nat×Operand)}{r:Nat×TypeId×List D}(hz:x6 (aj P) (aj P T) n (ps.toList.map fun p=>(p.1,ev σ p.2))=some r):
 ∃v w',(execOp a.eval ⟨some d,.buildSlice T n ps,ty,pos,af,g⟩).run P w= .ok (.value v) w'/\
  ∃ρ',aw X ρ' (ah σ d (.ba s ((bx s).ep+1) r.1 0 r.2.2.length)) (ah bx s ⟨(bx s).ep+1,1,r.1,r.2.1,r.2.2⟩) (a.put (some d) v) w':=by
 unfold x6 at hz;split at hz
 ·rename_i e esz b ag hk;split at hz
  ·rename_i hc;obtain⟨hm,ha,fR,E6,qx⟩:=hc;injection hz with hz;subst hz;obtain⟨hu,kd,_,_⟩:=cW hk;generalize Nq:(ps.toList.map fun p=>(p.1,ev σ p.2))=oB at hm ha;have hlen:oB.length=n:=auA
   obtain⟨fM,bZ,gR⟩:=Rh (ag:=ag) h hu kd Nq hm ha fR E6 qx;have fO:∀x∈oB.map (·.2),x.cells.length=esz/\x.cells.all D.one=true:=awN
   have iO:∀(i:Nat) d (j:Nat) c,(oB.map (·.2))[i]? =some d->d.cells[j]? =some c->∃u,fM[i * esz+j]? =some u/\aG w (ay X ρ bx w) ρ c u:=by
    intro i d j c hi hj;have hd:=fO d (aat hi);have vP:j<esz:=awN
    have hf:=E1 (sz:=esz) (oB.map (·.2)) i j d (fun x hx=>(fO x hx).1) hi vP;rw[hj]at hf;have au:=(aaL.1 hf).1;have qe:i * esz+j<fM.size:=by rw[gR.1];exact au
    exact aqR
   have rz:∀(i:Nat) d (j:Nat) c,(oB.map (·.2))[i]? =some d->d.cells[j]? =some c->fM[i * esz+j]? =some (fM.getD (i * esz+j) undef)/\aG w (ay X ρ bx w) ρ c (fM.getD (i * esz+j) undef):=by
    exact ara
   have QW:fM.size=n * esz:=by
    rw[gR.1,M0 (oB.map (·.2)) (fun x hx=>(fO x hx).1)];simp[hlen]
   have hb:=(afY w.heap.size w).alloc (aaN _) (.cells fM e);have hmn:n<=n * esz:=afr n fR;have h2:=h.own (w':=w.alloc (.cells fM e)) (t:=s) (p:=⟨w.heap.size,n,esz,e⟩) (es:=oB.map (·.2)) (bx1:=bx) bC (fun _=> .inl rfl) (Old:=fun _=>False) (.xr hb) (fun _ h=>h.elim) (.inl (aaN _)) (fun S' ρ' hS hρ=>by
    refine⟨⟨fM,aka w _,QW,fun i j=>fM.getD (i * esz+j) undef,fun i' y j c pP hj=>?_⟩,awe,avL,fun i' y pP=>?_⟩
    ·obtain⟨g1,g2⟩:=rz i' y j c pP hj;have h1:=aaI.1 (fO y (aat pP)).2 c (aat hj);exact⟨g1,(g2.mono (fun b dQ=>hb.block b dQ.1) (fun b dQ=>hS b dQ) hρ),g2.one h1⟩
    grind)
   refine⟨.slice (some ⟨w.heap.size,0,none⟩) n n,_,?_,_,h2.put (dst:=some d) (fun t ht=>awN) ?_⟩
   ·exact ard
   ·simp only[aa0,hlen];refine .ba (p:=⟨w.heap.size,n,esz,e⟩) ?_ rfl (fun _=>⟨rfl,rfl⟩) (fun _=>awP) ?_ ?_
    ·exact awP
    ·exact awP
    exact avL
  ·cases hz
 ·cases hz
def Uo(h:aw X ρ σ bx a w){T d s:Nat}(hd:d<X.N)(bC:X.lo<=s){x:Operand}{z:D}(hz:B0 (aj P T) (ev σ x)=some z):
 ∃v w',(execOp a.eval ⟨some d,.box T x,ty,pos,af,g⟩).run P w= .ok (.value v) w'/\
  ∃ρ',aw X ρ' (ah σ d (.loc s ((bx s).ep+1) 0 0)) (ah bx s ⟨(bx s).ep+1,1,(aj P T).size,T,[z]⟩) (a.put (some d) v) w':=by
 have hx:=h.ev x;unfold B0 at hz;split at hz
 ·rename_i hc;obtain⟨fR,hl,fQ⟩:=hc;cases hz;obtain⟨hs,iR⟩:=hx.cells fQ;obtain⟨ρ',h'⟩:=N6 h hd bC hs iR;rw[hl]at h';refine⟨_,_,?_,ρ',h'⟩;simp only[execOp,Instr.box,aa9,aa4,newVar,newRow,newObj,adB,Sem.run,World.alloc]
 ·cases hz
def Z1{d d':D}{j:Nat}{cs:List D}(h:ed d j cs=some d')(fQ:cs.all D.one=true):d'.cells.length=d.cells.length/\j+cs.length<=d.cells.length/\∀(k:Nat) c,d'.cells[k]? =some c->(j<=k/\k<j+cs.length/\cs[k - j]? =some c)\/((k<j\/j+cs.length<=k)/\d.cells[k]? =some c):=by
 unfold ed at h;split at h
 ·rename_i hle;cases d with
  |agg ds=>
   simp only[aaM]at h;subst h;simp only[D.cells]at hle⊢;refine⟨awe,hle,fun k c hk=>?_⟩;by_cases h1:k<j
   ·exact awN
   ·have hl:(ds.take j).length=j:=awe
    by_cases h2:k<j+cs.length
    ·exact awN
    ·have uU:(ds.take j++cs).length=j+cs.length:=awe
     rw[abn oM,uU,akU]at hk
     exact awN
  |_=>
   all_goals
    match cs,h with
    |[c],h=>
     simp only[aaM]at h;subst h;simp only[aep,agv,afN]at fQ;rw[fD fQ];simp only[D.cells,aa5,aeW]at hle⊢;refine⟨awP,hle,fun k c' hk=>?_⟩;obtain rfl:j=0:=oM;have mQ:k=0:=by have:=(aaL.1 hk).1;simp at this;exact this
     subst mQ;exact .inl ⟨aaN _,awO,hk⟩
 ·exact awI
def putRow(cur:Array Value)(o:Nat)(vs:Array Value):Array Value:=
 (cur.toList.take o++vs.toList++cur.toList.drop (o+vs.size)).toArray
def PG{cur vs:Array Value}{o:Nat}(h:o+vs.size<=cur.size):(putRow cur o vs).size=cur.size:=by grind [putRow]
def TA{cur vs:Array Value}{o:Nat}(h:o+vs.size<=cur.size)(k:Nat):(putRow cur o vs)[k]? =if o<=k/\k<o+vs.size then vs[k - o]? else cur[k]?:=by
 unfold putRow
 exact awN
def Kg{S:Nat->Prop}{p:Place}{es:List D}{i j:Nat}{d0 d' dy:D}{v:Value}
 (hh:Holds w S ρ p es) (hS:∀b,S b->b≠p.b) (hi:es[i]? =some d0) (fk:ed d0 j dy.cells=some d') (fQ:dy.cells.all D.one=true) (hy:aG w S ρ dy v):
 ∃cur,w.heap[p.b]? =some (.cells cur p.ty)/\i * p.sz+j+v.cells.size<=cur.size/\(∀u∈v.cells.toList,u.oneCell'=true)/\
  Holds (w.setRow p.b (putRow cur (i * p.sz+j) v.cells)) S ρ p (es.set i d'):=by
 obtain⟨⟨cur,jO,gz,us,ke⟩,uV,eK,bz⟩:=hh;obtain⟨hs,iR⟩:=hy.cells fQ;obtain⟨hlen,lV,eC⟩:=Z1 fk fQ;have tz:=bz i d0 hi;have hilt:=(aaL.1 hi).1;have hmul:i * p.sz+p.sz<=cur.size:=by rw[gz,<-ak6];exact aen _ oM
 have lC:i * p.sz+j+v.cells.size<=cur.size:=oM;refine⟨cur,jO,lC,fun u hu=>?_,?_⟩
 ·obtain⟨k,nx,eQ⟩:=List.mem_iff_getElem.1 hu;have Nu:k<dy.cells.length:=awN
  obtain⟨u',xj,_,h1⟩:=iR k _ (aaS Nu)
  exact awN
 ·have VQ:=PG lC;have DO:=TA lC;generalize putRow cur (i * p.sz+j) v.cells=new at VQ DO⊢;have uC:∀c u,aG w S ρ c u->aG (w.setRow p.b new) S ρ c u:=fun c u hr=>hr.mono (fun b dQ=>akb w p.b b new (hS b dQ)) (fun _ h=>h) (fun _ _ _ h=>h);have fin:∀c q u,new[q]? =some u->aG w S ρ c u->u.oneCell'=true->new[q]? =some (new.getD q undef)/\aG (w.setRow p.b new) S ρ c (new.getD q undef)/\(new.getD q undef).oneCell'=true:=awy
  refine⟨⟨new,alN w p.b cur new p.ty (0,0) jO,by rw[VQ,gz],fun i' k=>new.getD (i' * p.sz+k) undef,fun i' d k c pP dZ=>?_⟩,awN,eK,fun i' d pP=>?_⟩
  ·by_cases hii:i'=i
   ·subst hii;rw[ajI oM]at pP;injection pP with pP;subst pP;rcases eC k c dZ with⟨k1,k2,k3⟩|⟨k1,k3⟩
    ·obtain⟨u,hu,hr,h1⟩:=iR _ _ k3;refine fin _ _ u ?_ hr h1;rw[DO,aaO oM];have:i' * p.sz+k - (i' * p.sz+j)=k - j:=oM
     exact awN
    ·obtain⟨u1,u2,u3⟩:=ke i' d0 k c hi k3;refine fin _ _ _ ?_ u2 u3;rw[DO,aaw oM];exact u1
   ·rw[List.getElem?_set_ne (Ne.symm hii)]at pP;have hkz:k<p.sz:=awN
    obtain⟨u1,u2,u3⟩:=ke i' d k c pP dZ;refine fin _ _ _ ?_ u2 u3;rw[DO,aaw ?_]
    ·exact u1
    ·rcases akV hii with au|VI
     ·have:=aen p.sz (show i'+1<=i from au)
      exact awN
     ·have:=aen p.sz (show i+1<=i' from VI)
      exact awN
  exact awN
def OW(h:aw X ρ σ bx a w){T:Nat}{x y:Operand}{dst:Option Tmp}(bV:∀t,dst=some t->t<X.N){lo:Nat}(bC:X.lo<=lo){bx':ab}(hv:gZ lo (aj P T) bx (ev σ x) (ev σ y)=some bx'):
 ∃w',(execOp a.eval ⟨dst,.store T x y,ty,pos,af,g⟩).run P w= .ok .skip w'/\∃ρ',aw X ρ' (put σ dst (.raw undef)) bx' (a.put dst undef) w':=by
 have hx:=h.ev x;have hy:=h.ev y;generalize ev σ x=dx at hv hx;generalize ev σ y=dy at hv hy;unfold gZ at hv;split at hv
 ·rename_i t e i j;split at hv
  ·rename_i hc;obtain⟨au,hl,fR,fQ⟩:=hc;unfold Ai at hv;split at hv
   ·rename_i hk;obtain⟨he,hk⟩:=hk;cases hi:(bx t).es[i]? with
    |none=>grind
    |some d0=>
     simp only[hi,aav]at hv;obtain⟨d',fk,rfl⟩:=hv;obtain⟨p,hp,ig⟩:=hx.mH;obtain⟨p',bu,tA,CA,jH,hh⟩:=h.box t avV;rw[he,hp]at bu;injection bu with bu;subst bu;have zw:ρ t (bx t).ep=some p:=awN
     obtain⟨cur,jO,lC,eB,QP⟩:=Kg hh (fun b hb e=>hb.2.2 t hk p zw e.symm) hi fk fQ hy;obtain⟨hs,_⟩:=hy.cells fQ;have bI:=ak1 P p.b (i * p.sz+j) p.ty (a.eval y).cells.toList 0 cur w jO awN eB;simp only[agA,akK]at bI;have kW:Fr (fun b=>b=p.b) w (w.setRow p.b (putRow cur (i * p.sz+j) (a.eval y).cells)):=⟨rfl,rfl,rfl,awP,fun k _ hk=>akb w p.b k _ hk⟩
     refine⟨w.setRow p.b (putRow cur (i * p.sz+j) (a.eval y).cells),?_,ρ,((h.stored (adz bC au) hk zw kW QP).put bV (.pure (.raw _)))⟩;have qL:=cI (P:=P) (t:=T) fR w;simp_all[aj,execOp,Instr.storeAt,Instr.sureAddr,storeVar,putRow]
   ·cases hv
  ·cases hv
 ·cases hv
theorem PU(h:aw X ρ σ bx a w){T:Nat}{x y:Operand}{dst:Option Tmp}(bV:∀t,dst=some t->t<X.N){lo:Nat}(bC:X.lo<=lo){bx':ab}(hv:zN (gZ lo (aj P T) bx (ev σ x) (ev σ y)) (vL (aj P T) (zeroV P T)) bx (ev σ x) (ev σ y)=some bx'):
 ∃w',(execOp a.eval ⟨dst,.store T x y,ty,pos,af,g⟩).run P w= .ok .skip w'/\∃ρ',aw X ρ' (put σ dst (.raw undef)) bx' (a.put dst undef) w':=by
 cases hq:gZ lo _ bx _ _ with
 |some z'=>rw[hq]at hv;cases hv;exact OW h bV bC hq
 |none=>
  rw[hq]at hv;have hx:=h.ev x;have hy:=h.ev y;generalize ev σ x=dx at hv hx;simp[zN]at hv;split at hv
  ·split at hv
   ·rename_i hc;cases hv;obtain⟨h0,hu,i,zv,hi,oO,tF,bz⟩:=Sv hc.1;obtain⟨p,hp,ig⟩:=hx.mH;obtain⟨hs,_⟩:=hy.cells awN;refine⟨w,?_,ρ,h.put bV (.pure (.raw _))⟩;simp_all[sizeOf,typeInfo,execOp,Instr.storeAt,Instr.sureAddr,storeVar,storeCells]
   ·cases hv
  ·cases hv
end Go.V
namespace Go.V
open Go.RowKit
variable {P:Program} {X:Ctx} {ρ:bX} {σ:Env} {bx:ab} {a:Act} {w:World}
variable {ty:TypeId} {pos:String} {af:Array Edge} {g:Option (Nat×Bool)}
theorem aG.rI{S:Nat->Prop}{t e sz o n:Nat}{v:Value}(h:aG w S ρ (.ba t e sz o n) v):∃p off cap,ρ t e=some p/\p.sz=sz/\(o=0->off=0/\cap=p.cap)/\(0<n->off=o * sz)/\n<=cap/\o+cap<=p.cap/\p.cap<=maxLen/\
 v= .slice (some ⟨p.b,off,none⟩) n cap:=by
 cases h with
 |pure h=>cases h
 |ba hp bz h0 ek hn cU=>exact⟨_,_,_,hp,bz,h0,fun h=>ek oM,hn,cU.1,cU.2,rfl⟩
theorem aG.IH{S:Nat->Prop}{t e i j n:Nat}{v:Value}(h:aG w S ρ (.ic t e i j n) v):∃p off cap,ρ t e=some p/\(0<n->off=i * p.sz+j)/\n<=cap/\cap<=65536/\v= .slice (some ⟨p.b,off,none⟩) n cap:=by
 cases h with
 |pure h=>cases h
 |ic hp ek hn cU=>exact⟨_,_,_,hp,fun h=>ek oM,hn,cU,rfl⟩
def qm(h:aw X ρ σ bx a w){esz:Nat}{x:D}{v:Value}(hx:aG w (ay X ρ bx w) ρ x v){ys:List D}(he:mz bx esz x=some ys):
 ∃A c b off,∃us:Nat->Nat->Value,v= .slice A ys.length c/\(ys≠[]->A=some ⟨b,off,none⟩)/\(∀(i:Nat) d,ys[i]? =some d->d.cells.length=esz)/\
  ∀(i:Nat) d (j:Nat) c,ys[i]? =some d->d.cells[j]? =some c->w.cell? ⟨b,off+i * esz+j,none⟩=some (us i j)/\aG w (ay X ρ bx w) ρ c (us i j)/\(us i j).oneCell'=true:=by
 unfold mz at he;split at he
 ·injection he with he;subst he;exact⟨none,0,0,0,fun _ _=>undef,hx.gv,awP,awP,awP⟩
 ·rename_i sz es;split at he
  ·rename_i hs;injection he with he;subst he;subst hs;cases hx with
   |pure hx=>
    cases hx with
    |@sl _ _ A n cap b off us hn cU gQ hA bz hc h1 hr=>
     exact OF
  ·cases he
 ·rename_i t e sz o n;split at he
  ·rename_i hs;obtain⟨hs,VD,hk,hbs,hle⟩:=hs;injection he with he;subst hs;obtain⟨p,off,cap,hp,tA,h0,ek,hn,VT,gQ,rfl⟩:=hx.rI;obtain⟨p',bu,ID,CA,jH,hh⟩:=h.box t hk;rw[VD,hp]at bu;injection bu with bu;subst bu;have hl:ys.length=n:=awN
   have eC:∀(i:Nat) d,ys[i]? =some d->(bx t).es[o+i]? =some d/\0<n:=awN
   obtain⟨⟨cur,jO,gz,us,ke⟩,uV,eK,bz⟩:=hh;refine⟨_,_,p.b,off,fun i j=>us (o+i) j,by rw[hl],fun _=>rfl,fun i d hi=>(bz _ d (eC i d hi).1).trans tA,fun i d j c hi hj=>?_⟩;obtain⟨h1,h2⟩:=eC i d hi;obtain⟨u1,u2,u3⟩:=ke (o+i) d j c h1 hj;simp_all[agr,World.cell?]
  ·cases he
 ·rename_i sz es;split at he
  ·rename_i hs;injection he with he;subst he;subst hs;have hx:=(hx.fw rfl).u_;cases hx with
   |@sl _ _ A n cap b off us hn cU gQ hA bz hc h1 hr=>
    exact OF
  ·cases he
 ·rename_i t e i j n;split at he
  ·rename_i hs;obtain⟨hs,VD,hk⟩:=hs;subst hs;split at he
   ·rename_i d0 tz;split at he
    ·rename_i qt;obtain⟨hle,gW⟩:=qt;injection he with he;obtain⟨p,off,cap,hp,ek,hn,cU,rfl⟩:=hx.IH;obtain⟨p',bu,ID,CA,jH,hh⟩:=h.box t hk;rw[VD,hp]at bu;injection bu with bu;subst bu;have hl:ys.length=n:=awN
     have eC:∀(m:Nat) d,ys[m]? =some d->d0.cells[j+m]? =some d/\0<n/\d.cells=[d]:=by grind [fD]
     obtain⟨⟨cur,jO,gz,us,ke⟩,uV,eK,bz⟩:=hh;refine⟨_,_,p.b,off,fun m _=>us i (j+m),by rw[hl],fun _=>rfl,fun m d hm=>awN,fun m d k c hm dZ=>?_⟩;obtain⟨g1,g2,g3⟩:=eC m d hm;rw[g3]at dZ;obtain rfl:k=0:=awN
     simp only[aet,aaM]at dZ
     exact avc
    ·cases he
   ·cases he
  ·cases he
 ·cases he
def rowOf(us:Nat->Nat->Value)(m sz:Nat):List Value:=(List.range (m * sz)).map fun k=>us (k / sz) (k % sz)
theorem jA(us:Nat->Nat->Value)(m sz:Nat):(rowOf us m sz).length=m * sz:=by simp[rowOf]
theorem vg{us:Nat->Nat->Value}{m sz i j:Nat}(hi:i<m)(hj:j<sz):(rowOf us m sz)[i * sz+j]? =some (us i j):=by
 have au:i * sz+j<m * sz:=by
  have:=aen sz (show i+1<=m from hi)
  exact awN
 unfold rowOf;rw[aaZ,aqg au,aec]
 congr 2
 ·rw[Nat.add_comm,Nat.add_mul_div_right _ _ oM,Nat.div_eq_of_lt hj,aeC]
 grind [Nat.add_mul_mod_self_right,Nat.mod_eq_of_lt]
def lJ{us:Nat->Nat->Value}{m sz k:Nat}{u:Value}(h:(rowOf us m sz)[k]? =some u):∃i j,i<m/\j<sz/\k=i * sz+j/\u=us i j:=by
 have hk:k<m * sz:=by grind [jA]
 have hdm:=Nat.div_add_mod' k sz
 grind [Nat.div_lt_of_lt_mul,Nat.mod_lt,vg]
def Ee(h:aw X ρ σ bx a w){T d sl el esz bytes n:Nat}{ag:Bool}(hd:d<X.N)(bC:X.lo<=sl)(hk:(aj P T).k= .slice el esz bytes ag)(vN:esz≠0)(hz:(aj P el).zero.length=esz)
 {vx vy:Value} {xs:List Value} {xs0 ys:List D} {us0:Nat->Nat->Value} (xh:w.ownsRow 0 el esz vx n xs) (rF:xs0.length=n)
 (hxz:∀(i:Nat) d,xs0[i]? =some d->d.cells.length=esz)
 (iS:∀(i:Nat) d (j:Nat) c,xs0[i]? =some d->d.cells[j]? =some c->xs[i * esz+j]? =some (us0 i j)/\aG w (ay X ρ bx w) ρ c (us0 i j)/\(us0 i j).oneCell'=true)
 {c b off:Nat} {us:Nat->Nat->Value} (bh:ys≠[]) (CF:vy= .slice (some ⟨b,off,none⟩) ys.length c) (tE:∀(i:Nat) d,ys[i]? =some d->d.cells.length=esz)
 (mf:∀(i:Nat) d (j:Nat) c,ys[i]? =some d->d.cells[j]? =some c->w.cell? ⟨b,off+i * esz+j,none⟩=some (us i j)/\aG w (ay X ρ bx w) ρ c (us i j)/\(us i j).oneCell'=true)
 (GA:(n+ys.length) * bytes<=140737488355328) (mD:0<bytes) {bx1:ab} (h1:∀s,bx1 s=bx s\/((bx1 s).k=0/\(bx1 s).ep=(bx s).ep/\X.lo<=s))
 (hO:∀b,some b=vx.ownBlock->∃t0 p0,(bx t0).k=1/\ρ t0 (bx t0).ep=some p0/\p0.b=b/\(t0=sl\/(bx1 t0).k=0)):
 ∃v w',(Builtin.append_ #[T,T] ty #[vx,vy]).run P w= .ok v w'/\
  ∃ρ',aw X ρ' (ah σ d (.ba sl ((bx sl).ep+1) esz 0 (n+ys.length))) (ah bx1 sl ⟨(bx sl).ep+1,1,esz,el,xs0++ys⟩) (a.put (some d) v) w':=by
 obtain⟨hu,he,Gz,_⟩:=cW hk;obtain⟨i,z,hi,zy,V5⟩:=wK (P:=P) (t:=el) oM;have bz:i.size=esz:=awn
 have J8:i.bytes=bytes:=awN
 have zx:z.cells.size=esz:=awN
 have GL:(n+ys.length)<=maxLen:=by
  have:=afr (n+ys.length) mD
  exact avL
 have hm0:0<ys.length:=aev.2 bh;have iO:∀i j,i<ys.length->j<esz->w.cell? ⟨b,off+i * esz+j,none⟩=some (us i j)/\(us i j).oneCell'=true:=by
  intro i j hi hj;have hd:=aaS hi
  exact awN
 obtain⟨v',w',hr,vA,mF,gA,ana⟩:=run_append_own_at (P:=P) w 0 T ty el i z esz bytes hu hi zy bz J8 zx oM vx n xs xh ⟨b,off,none⟩ ys.length c (rowOf us ys.length esz) (jA _ _ _)
  (fun j u hj=>by
   obtain⟨k,l,hk,hl,rfl,rfl⟩:=lJ hj
   grind [Addr.ei])
  (fun u hu=>by
   obtain⟨j,hj⟩:=afj.1 hu;obtain⟨k,l,hk,hl,rfl,rfl⟩:=lJ hj
   grind) GL GA (aes _)
 subst CF;obtain⟨hlen,vA⟩:=vA;rcases vA with⟨_,vA⟩|⟨gg,cap,cur,rfl,_,hgg,GO,tw,gz,aa7⟩
 ·exact awO
 have hold:w.heap.size<=gg\/some gg=vx.ownBlock:=by grind [Value.ownBlock]
 have hw:∀b,ay X ρ bx w b->w'.heap[b]? =w.heap[b]?:=fun b hb=>mF.block b hb.1 (fun e=>by
  obtain⟨t0,p0,mQ,sL,Kh,_⟩:=hO b e;exact hb.2.2 t0 mQ p0 sL Kh)
 have iu:∀(k:Nat) (u:Value),(xs++rowOf us ys.length esz)[k]? =some u->cur[k]? =some u:=awN
 have h2:=h.own (w':=w') (t:=sl) (p:=⟨gg,cap,esz,el⟩) (es:=xs0++ys) (bx1:=bx1) bC h1 (Old:=fun b=>some b=vx.ownBlock) (.N9 mF) hO hold (fun S' ρ' hS hρ=>by
  have uC:∀c u,aG w (ay X ρ bx w) ρ c u->aG w' S' ρ' c u:=fun c u hr=>hr.mono hw hS hρ;refine⟨⟨cur,hgg,gz,fun i j=>if i<n then us0 i j else us (i - n) j,fun i y j c hi hj=>?_⟩,awN,tw,fun i y hi=>?_⟩
  ·dsimp only;by_cases nw:i<n
   ·exact awN
   ·rw[abn oM,rF]at hi;obtain⟨u1,u2,u3⟩:=mf (i - n) y j c hi hj;simp only[nw,aa_];refine⟨iu _ _ ?_,uC _ _ u2,u3⟩;have GI:j<esz:=awN
    have qv:=(aaL.1 hi).1;have Ze:xs.length=n * esz:=xh.1;have e1:i * esz+j=n * esz+((i - n) * esz+j):=by
     have:i=n+(i - n):=oM
     exact awN
    rw[abn awN,Ze,e1,ajF];exact vg qv GI
  grind)
 refine⟨_,_,hr,_,h2.put (dst:=some d) (fun t ht=>awN) (.ba (p:=⟨gg,cap,esz,el⟩) ?_ rfl (fun _=>⟨rfl,rfl⟩) (fun _=>awP) GO ⟨awP,tw⟩)⟩;simp
end Go.V
namespace Go.V
open Go.RowKit
variable {P:Program} {X:Ctx} {ρ:bX} {σ:Env} {bx:ab} {a:Act} {w:World}
variable {ty:TypeId} {pos:String} {af:Array Edge} {g:Option (Nat×Bool)}
def BR(t tx ty e:TypeId)(i:TypeInfo)(ht:P.underlying t=some (.slice e))(hi:P.info? e=some i)
 (gg off rf Fz:Nat) (cur:Array Value) (hg:w.heap[gg]? =some (.cells cur e (0,0)))
 (x:Value) (m:Nat) (news:List Value) (hs:Src P i.size tx x m news w)
 (lC:rf+m<=Fz) (lV:off+rf * i.size+news.length<=cur.size):
 (Builtin.append_ #[t,tx] ty #[.slice (some ⟨gg,off,none⟩) rf Fz,x]).run P w=
  .ok (.slice (some ⟨gg,off,none⟩) (rf+m) Fz) (w.setRow gg (cur.toList.take (off+rf * i.size)++news++cur.toList.drop (off+rf * i.size+news.length)).toArray):=by
 have bI:=ak1 P gg (off+rf * i.size) e news 0 cur w hg awN hs.one;simp only[agA]at bI;rcases hs.kind with⟨e',hk⟩|hk<;>simp[Builtin.append_,aaD ht,aaD hk,sizeOf,typeInfo,hi,hs.len,lC,hs.cells,Addr.add_lit,bI]
theorem aG.Zi{S:Nat->Prop}{t e sz o n:Nat}{v:Value}(h:aG w S ρ (.ba t e sz o n) v):∃p off cap,ρ t e=some p/\p.sz=sz/\(o=0->off=0/\cap=p.cap)/\(0<cap->off=o * sz)/\n<=cap/\o+cap<=p.cap/\p.cap<=maxLen/\
 v= .slice (some ⟨p.b,off,none⟩) n cap:=by
 cases h with
 |pure h=>cases h
 |ba hp bz h0 ek hn cU=>exact⟨_,_,_,hp,bz,h0,ek,hn,cU.1,cU.2,rfl⟩
def xP(h:aw X ρ σ bx a w){T T' d sl el esz bytes n cap:Nat}{ag:Bool}(hd:d<X.N)(bC:X.lo<=sl)(hk:(aj P T).k= .slice el esz bytes ag)(vN:esz≠0)(hz:(aj P el).zero.length=esz)
 {base:Option Addr} {vy:Value} {xs0 ys:List D} {us gO:Nat->Nat->Value} (rF:xs0.length=n) (cU:cap<n+ys.length) (hxz:∀(i:Nat) d,xs0[i]? =some d->d.cells.length=esz)
 (iS:∀(i:Nat) d (j:Nat) c,xs0[i]? =some d->d.cells[j]? =some c->aG w (ay X ρ bx w) ρ c (us i j)/\(us i j).oneCell'=true)
 (hold:(Builtin.firstCells esz n (.slice base n cap)).run P w.drew= .ok (rowOf us n esz).toArray w.drew) (bh:ys≠[]) (xi:Src P esz T' vy ys.length (rowOf gO ys.length esz) w) (tE:∀(i:Nat) d,ys[i]? =some d->d.cells.length=esz)
 (mf:∀(i:Nat) d (j:Nat) c,ys[i]? =some d->d.cells[j]? =some c->aG w (ay X ρ bx w) ρ c (gO i j)/\(gO i j).oneCell'=true)
 (GA:(n+ys.length) * bytes<=140737488355328) (mD:0<bytes) {bx1:ab} (gN:∀s,bx1 s=bx s\/((bx1 s).k=0/\(bx1 s).ep=(bx s).ep/\X.lo<=s)):
 ∃v w',(Builtin.append_ #[T,T'] ty #[.slice base n cap,vy]).run P w= .ok v w'/\
  ∃ρ',aw X ρ' (ah σ d (.ba sl ((bx sl).ep+1) esz 0 (n+ys.length))) (ah bx1 sl ⟨(bx sl).ep+1,1,esz,el,xs0++ys⟩) (a.put (some d) v) w':=by
 obtain⟨hu,he,Gz,_⟩:=cW hk;obtain⟨i,z,hi,zy,V5⟩:=wK (P:=P) (t:=el) oM;have bz:i.size=esz:=awn
 have J8:i.bytes=bytes:=awN
 have zx:z.cells.size=esz:=awN
 have GL:(n+ys.length)<=maxLen:=by
  have:=afr (n+ys.length) mD
  exact avL
 have hm0:0<ys.length:=aev.2 bh;have hr:=run_append_grow_src (P:=P) w T T' ty el i z hu hi zy base n cap (rowOf us n esz) awN vy ys.length (rowOf gO ys.length esz) awN cU avL (al9 oM awN);have VF:=grownCap_ge w (n+ys.length) cap el;have tw:grownCap w (n+ys.length) cap el<=maxLen:=grownCap_le_maxLen w (n+ys.length) cap el GL;have qL:((rowOf us n esz++rowOf gO ys.length esz).toArray++Builtin.zeroCells z.cells (grownCap w (n+ys.length) cap el - (n+ys.length))).size=grownCap w (n+ys.length) cap el * esz:=by
  simp only[Array.size_append,ak2,aaY,size_zeroCells,zx,jA,<-agr]
  exact awN
 have iu:∀(k:Nat) u,(rowOf us n esz++rowOf gO ys.length esz)[k]? =some u->((rowOf us n esz++rowOf gO ys.length esz).toArray++Builtin.zeroCells z.cells (grownCap w (n+ys.length) cap el - (n+ys.length)))[k]? =some u:=fun k u hk=>awN
 generalize(rowOf us n esz++rowOf gO ys.length esz).toArray++Builtin.zeroCells z.cells (grownCap w (n+ys.length) cap el - (n+ys.length))=tJ at hr qL iu;generalize grownCap w (n+ys.length) cap el=ad1 at hr VF tw qL;have kW:Fr (fun _=>False) w (w.drew.alloc (.cells tJ el)):=⟨rfl,rfl,rfl,awP,fun k hk _=>heap_alloc_old w.drew _ (show k<w.drew.heap.size from hk)⟩
 have hw:∀b',ay X ρ bx w b'->(w.drew.alloc (.cells tJ el)).heap[b']? =w.heap[b']?:=fun b' hb=>kW.block b' hb.1 fun ee=>ee;have tP:(w.drew.alloc (.cells tJ el)).heap[w.heap.size]? =some (.cells tJ el (0,0)):=aka w.drew _;refine⟨_,_,hr,_,(aw.own (t:=sl) (p:=⟨w.heap.size,ad1,esz,el⟩) (es:=xs0++ys) (bx1:=bx1) h bC gN (Old:=fun _=>False) kW (fun _ hh=>hh.elim) (.inl (aaN _)) fun S' ρ' hS hρ=>?_).put (dst:=some d) (fun t ht=>awN) ?_⟩
 ·have uC:∀c u,aG w (ay X ρ bx w) ρ c u->aG (w.drew.alloc (.cells tJ el)) S' ρ' c u:=fun c u hr=>hr.mono hw hS hρ;refine⟨⟨tJ,tP,qL,fun i j=>if i<n then us i j else gO (i - n) j,fun i y j c hi hj=>?_⟩,awe,tw,fun i y hi=>?_⟩
  ·dsimp only;by_cases nw:i<n
   ·rw[aeU oM]at hi;obtain⟨u2,u3⟩:=iS i y j c hi hj;have GI:j<esz:=awN
    simp only[nw,abo]
    grind [vg,List.getElem?_append_left]
   ·rw[abn oM,rF]at hi;obtain⟨u2,u3⟩:=mf (i - n) y j c hi hj;have GI:j<esz:=awN
    have qv:=(aaL.1 hi).1;simp only[nw,aa_];refine⟨iu _ _ ?_,uC _ _ u2,u3⟩;have e1:i * esz+j=n * esz+((i - n) * esz+j):=by
     have:i=n+(i - n):=oM
     exact awN
    rw[abn (by grind [jA]),jA,e1,ajF];exact vg qv GI
  exact awN
 ·exact .ba (p:=⟨w.heap.size,ad1,esz,el⟩) sI rfl (fun _=>⟨rfl,rfl⟩) (fun _=>awP) VF ⟨awP,tw⟩
def Mf(h:aw X ρ σ bx a w){T T' d sl el esz bytes n t e o:Nat}{ag:Bool}(hd:d<X.N)(bC:X.lo<=sl)(hk:(aj P T).k= .slice el esz bytes ag)(vN:esz≠0)(hz:(aj P el).zero.length=esz)
 {vx vy:Value} {ys:List D} (hx:aG w (ay X ρ bx w) ρ (.ba t e esz o n) vx) (au:X.lo<=t) (VD:(bx t).ep=e) (nx:(bx t).k=1) (hbz:(bx t).sz=esz) (QY:(bx t).ty=el) (hle:o+n<=(bx t).es.length)
 {gO:Nat->Nat->Value} (bh:ys≠[]) (xi:Src P esz T' vy ys.length (rowOf gO ys.length esz) w) (tE:∀(i:Nat) d,ys[i]? =some d->d.cells.length=esz)
 (mf:∀(i:Nat) d (j:Nat) c,ys[i]? =some d->d.cells[j]? =some c->aG w (ay X ρ bx w) ρ c (gO i j)/\(gO i j).oneCell'=true)
 (GA:(n+ys.length) * bytes<=140737488355328) (mD:0<bytes):
 ∃v w',(Builtin.append_ #[T,T'] ty #[vx,vy]).run P w= .ok v w'/\
  ∃ρ',aw X ρ' (ah σ d (.ba sl ((bx sl).ep+1) esz 0 (n+ys.length))) (ah (ah bx t {bx t with k:=0}) sl ⟨(bx sl).ep+1,1,esz,el,((bx t).es.drop o).take n++ys⟩) (a.put (some d) v) w'\/
   aw X ρ' (ah σ d (.ba sl ((bx sl).ep+1) esz o (n+ys.length))) (ah (ah bx t {bx t with k:=0}) sl ⟨(bx sl).ep+1,1,esz,el,(bx t).es.take (o+n)++ys⟩) (a.put (some d) v) w':=by
 obtain⟨hu,he,Gz,_⟩:=cW hk;obtain⟨i,z,hi,zy,V5⟩:=wK (P:=P) (t:=el) oM;have bz:i.size=esz:=awn
 have J8:i.bytes=bytes:=awN
 have zx:z.cells.size=esz:=awN
 have GL:(n+ys.length)<=maxLen:=by
  have:=afr (n+ys.length) mD
  exact avL
 have hm0:0<ys.length:=aev.2 bh;obtain⟨p,off,cap,hp,tA,h0,ek,hn,VT,gQ,rfl⟩:=hx.Zi;obtain⟨p',bu,ID,CA,jH,hh⟩:=h.box t (by rw[nx];decide);rw[VD,hp]at bu;injection bu with bu;subst bu;obtain⟨⟨cur,jO,gz,us,ke⟩,uV,eK,anx⟩:=hh;have hcell1:∀i j,i<(bx t).es.length->j<esz->cur[i * esz+j]? =some (us i j):=by
  intro i j hi hj;have hd:=aaS hi
  exact awN
 have gN:∀s,ah bx t {bx t with k:=0} s=bx s\/((ah bx t {bx t with k:=0} s).k=0/\(ah bx t {bx t with k:=0} s).ep=(bx s).ep/\X.lo<=s):=fun s=>awg
 have hO:∀b',b'=p.b->∃t0 p0,(bx t0).k=1/\ρ t0 (bx t0).ep=some p0/\p0.b=b'/\(t0=sl\/(ah bx t {bx t with k:=0} t0).k=0):=fun b' hb=>⟨t,p,nx,awN,hb.symm,.inr awx⟩
 by_cases lC:n+ys.length<=cap
 ·
  have ais:=ek oM;have lV:off+n * i.size+(rowOf gO ys.length esz).length<=cur.size:=by
   rw[jA,gz,tA,bz,ais,<-agr,<-agr];exact aen _ oM
  have hr:=BR (P:=P) (w:=w) T T' ty el i hu hi p.b off n cap cur (by rw[jO,CA,QY]) vy ys.length (rowOf gO ys.length esz) awN lC lV;rw[bz]at hr lV;have eoff:off+n * esz=(o+n) * esz:=awN
  rw[eoff]at hr lV;have hA:(o+n) * esz<=cur.size:=oM;have am_:∀k,k<(o+n) * esz->(cur.toList.take ((o+n) * esz)++rowOf gO ys.length esz++cur.toList.drop ((o+n) * esz+(rowOf gO ys.length esz).length)).toArray[k]? =cur[k]?:=fun k hk=>by rw[afl,aaU,aeU awe,afn hk,aba]
  have aeO:∀(k:Nat) u,(rowOf gO ys.length esz)[k]? =some u->(cur.toList.take ((o+n) * esz)++rowOf gO ys.length esz++cur.toList.drop ((o+n) * esz+(rowOf gO ys.length esz).length)).toArray[(o+n) * esz+k]? =some u:=fun k u hk=>by
   have Nu:=(aaL.1 hk).1;have qw:(cur.toList.take ((o+n) * esz)).length=(o+n) * esz:=awe
   rw[afl,aaU,abn oM,qw,ajF,aeU Nu,hk]
  have qL:(cur.toList.take ((o+n) * esz)++rowOf gO ys.length esz++cur.toList.drop ((o+n) * esz+(rowOf gO ys.length esz).length)).toArray.size=p.cap * p.sz:=awN
  generalize(cur.toList.take ((o+n) * esz)++rowOf gO ys.length esz++cur.toList.drop ((o+n) * esz+(rowOf gO ys.length esz).length)).toArray=tJ at hr am_ aeO qL;have eL:(w.setRow p.b tJ).heap[p.b]? =some (.cells tJ p.ty (0,0)):=alN w p.b cur _ _ _ jO;have kW:Fr (fun b'=>b'=p.b) w (w.setRow p.b tJ):=⟨rfl,rfl,rfl,awP,fun k _ hk=>akb w p.b k _ hk⟩
  have hw:∀b',ay X ρ bx w b'->(w.setRow p.b tJ).heap[b']? =w.heap[b']?:=fun b' hb=>kW.block b' hb.1 fun ee=>by
   obtain⟨t0,p0,mQ,sL,Kh,_⟩:=hO b' ee;exact hb.2.2 t0 mQ p0 sL Kh
  have Ew:((bx t).es.take (o+n)).length=o+n:=awe
  refine⟨_,_,hr,_,.inr ((aw.own (t:=sl) (p:=⟨p.b,p.cap,esz,el⟩) (es:=(bx t).es.take (o+n)++ys) (bx1:=ah bx t {bx t with k:=0}) h bC gN (Old:=fun b'=>b'=p.b) kW hO (.inr rfl) fun S' ρ' hS hρ=>?_).put (dst:=some d) (fun t ht=>awN) ?_)⟩
  ·have uC:∀c u,aG w (ay X ρ bx w) ρ c u->aG (w.setRow p.b tJ) S' ρ' c u:=fun c u hr=>hr.mono hw hS hρ;refine⟨⟨tJ,by rw[eL,CA,QY],by rw[qL,tA],fun i j=>if i<o+n then us i j else gO (i - (o+n)) j,fun i y j c hi hj=>?_⟩,awe,gQ,fun i y hi=>?_⟩
   ·dsimp only;by_cases nw:i<o+n
    ·rw[aeU oM,afn nw]at hi;obtain⟨u1,u2,u3⟩:=ke i y j c hi hj;have GI:j<esz:=awN
     have sH:i * esz+j<(o+n) * esz:=by
      have:=aen esz (show i+1<=o+n from nw)
      exact awN
     exact awN
    ·rw[abn oM,Ew]at hi;obtain⟨u2,u3⟩:=mf (i - (o+n)) y j c hi hj;have GI:j<esz:=awN
     have qv:=(aaL.1 hi).1;simp only[nw,aa_];have e1:i * esz+j=(o+n) * esz+((i - (o+n)) * esz+j):=by
      have:i=(o+n)+(i - (o+n)):=oM
      exact awN
     rw[e1];exact⟨aeO _ _ (vg qv GI),uC _ _ u2,u3⟩
   grind [List.getElem?_append_right]
  ·exact .ba (p:=⟨p.b,p.cap,esz,el⟩) sI rfl h0 ek lC ⟨VT,gQ⟩
 ·
  have holds:∀j v,(rowOf (fun i j=>us (o+i) j) n esz)[j]? =some v->w.cell? ((⟨p.b,off,none⟩:Addr).add j)=some v:=fun j v hj=>by
   obtain⟨k,l,hk,hl,rfl,rfl⟩:=lJ hj;rw[Addr.ei,ek oM]
   exact avc
  have Ew:(((bx t).es.drop o).take n).length=n:=awe
  have eC:∀(k:Nat) y,(((bx t).es.drop o).take n)[k]? =some y->k<n/\(bx t).es[o+k]? =some y:=fun k y hk=>awN
  obtain⟨v,w',hr,ρ',hS⟩:=xP (ty:=ty) (n:=n) (cap:=cap) (base:=some ⟨p.b,off,none⟩) h hd bC hk vN hz Ew oM (fun i d hi=>(anx _ d (eC i d hi).2).trans tA) (fun i d j c hi hj=>(ke (o+i) d j c (eC i d hi).2 hj).2)
   (akr w.drew esz n _ n cap (rowOf (fun i j=>us (o+i) j) n esz) (jA _ _ _) (by simpa using holds)) bh xi tE mf GA mD gN
  exact awN
def ac9(s:List UInt8):rowOf (fun i _=> .int .u8 ((s.getD i 0).toNat:Int)) (cM s).length 1=byteCells ⟨s.toArray⟩:=by
 apply agO;unfold rowOf byteCells cM
 exact awN
def Bw(h:aw X ρ σ bx a w){T T':TypeId}{x y:Operand}{dst:Option Tmp}(bV:∀t,dst=some t->t<X.N){lo base:Nat}(bC:X.lo<=lo)(xQ:X.lo<=base){r:(D×ab)×(D×ab)}(hv:xK lo (aj P) (aj P T) T T' (lL base dst) bx (ev σ x) (ev σ y)=some r):
 ∃v w',(execOp a.eval ⟨dst,.call {callee:=.builtin .append,args:= #[x,y],argTypes:= #[T,T']},ty,pos,af,g⟩).run P w= .ok (.value v) w'/\∃ρ',aw X ρ' (put σ dst r.1.1) r.1.2 (a.put dst v) w'\/aw X ρ' (put σ dst r.2.1) r.2.2 (a.put dst v) w':=by
 have hx:=h.ev x;have hy:=h.ev y;suffices hs:∃v w',(Builtin.append_ #[T,T'] ty #[a.eval x,a.eval y]).run P w= .ok v w'/\∃ρ',aw X ρ' (put σ dst r.1.1) r.1.2 (a.put dst v) w'\/aw X ρ' (put σ dst r.2.1) r.2.2 (a.put dst v) w' by
  obtain⟨v,w',hr,hS⟩:=hs;refine⟨v,w',?_,hS⟩
  exact aqM
 generalize ev σ x=dx at hv hx;generalize ev σ y=dy at hv hy;generalize a.eval x=vx at hx⊢;generalize a.eval y=vy at hy⊢;unfold xK at hv;split at hv
 ·rename_i el esz bytes ag d0 hk tz;cases dst with
  |none=>simp[lL]at tz
  |some d=>
   simp only[lL,aaM]at tz;subst tz;have uW:X.lo<=base+d:=adz xQ (af9 _ _);split at hv
   ·rename_i qx;obtain⟨qx,vN⟩:=qx;obtain⟨hu,he,Gz,_⟩:=cW hk;obtain⟨i,hi,bz⟩:∃i,P.info? el=some i/\i.size=esz:=awn
    rw[aeP]at hv;obtain⟨ys,fO,hv⟩:=hv;have hY:∃gO:Nat->Nat->Value,Src P esz T' vy ys.length (rowOf gO ys.length esz) w/\(∀(i:Nat) d,ys[i]? =some d->d.cells.length=esz)/\
     ∀(i:Nat) d (j:Nat) c,ys[i]? =some d->d.cells[j]? =some c->aG w (ay X ρ bx w) ρ c (gO i j)/\(gO i j).oneCell'=true:=by
     unfold sk at fO;split at fO
     ·rename_i hTT;subst hTT;obtain⟨A,c,b,off,us,CF,hA,tE,mf⟩:=qm h hy fO;refine⟨us,?_,tE,fun i d j c hi hj=>(mf i d j c hi hj).2⟩;have aeT:∀i j,i<ys.length->j<esz->w.cell? ⟨b,off+i * esz+j,none⟩=some (us i j)/\(us i j).oneCell'=true:=by
       intro i j hi hj;have hd:=aaS hi
       exact awN
      by_cases bh:ys=[]
      ·subst bh;subst CF;cases A with
       |none=>exact⟨.inl ⟨_,hu⟩,fun _=>rfl,aup,aup,by simp[rowOf],by simp[rowOf]⟩
       |some a0=>grind [Src.ofSlice,rowOf]
      ·obtain rfl:=hA bh;subst CF;exact Src.ofSlice w hu ⟨b,off,none⟩ ys.length c (rowOf us ys.length esz) (jA _ _ _) (fun j u hj=>by
        obtain⟨k,l,hk,hl,rfl,rfl⟩:=lJ hj
        grind [Addr.ei]) (fun u hu=>by
        obtain⟨j,hj⟩:=afj.1 hu;obtain⟨k,l,hk,hl,rfl,rfl⟩:=lJ hj
        grind)
     ·split at fO
      ·rename_i s eQ;split at fO
       ·rename_i hc;obtain⟨_,rfl⟩:=hc;injection fO with fO;subst fO;cases hy with
        |pure hy=>
         cases hy;refine⟨fun i _=> .int .u8 ((s.getD i 0).toNat:Int),?_,fun i d hi=>?_,fun i d j c hi hj=>?_⟩
         ·rw[ac9];have:=Src.ofString (P:=P) w (tx:=T') (ta eQ) ⟨s.toArray⟩
          grind [cM,ByteArray.size]
         ·simp only[cM,aaZ,aav]at hi;obtain⟨u,_,rfl⟩:=hi;rfl
         ·simp only[cM,aaZ,aav]at hi;obtain⟨u,hu,rfl⟩:=hi;rcases j with _|j
          ·simp only[D.cells,aet,aaM]at hj;subst hj;have:s.getD i 0=u:=by simp[hu]
           dsimp only;rw[this];exact⟨.pure (.int _ _),rfl⟩
          ·simp[D.cells]at hj
       exact awN
      exact awN
    obtain⟨gO,xi,tE,mf⟩:=hY;split at hv
    ·rename_i bh;subst bh;have Y6:∃B n cap,vx= .slice B n cap/\n<=cap/\∃x',r=((x',bx),(x',bx))/\aG w (ay X ρ bx w) ρ x' vx:=by
      unfold Xd at hv;split at hv
      ·injection hv with hv;have jc:=(hx.fw rfl)
       obtain⟨A,hA⟩:=jc.yZ;exact⟨_,_,_,hA,aaN _,_,hv.symm,.pure jc.u_⟩
      ·exact arb
      ·injection hv with hv;obtain⟨p,off,cap,_,_,_,_,hn,_,_,pS⟩:=hx.rI
       exact awN
      ·injection hv with hv;have eA:=hx;cases eA with
       |pure eA=>cases eA<;>grind
      ·cases hv
     obtain⟨B,n,cap,rfl,GO,x',rfl,jc⟩:=Y6;refine⟨.slice B n cap,w,?_,ρ,.inl (h.put (dst:=some d) (fun t ht=>awN) jc)⟩;have hlen:=xi.len w;have bS:=xi.cells;simp only[aeW,rowOf,akF,aft,aex]at hlen bS;rcases xi.kind with⟨e',eQ⟩|eQ<;>cases B<;>simp[Builtin.append_,aaD hu,aaD eQ,sizeOf,typeInfo,hi,bz,hlen,bS,GO,storeCells]
    ·rename_i bh;unfold R7 at hv;split at hv
     ·rename_i t e sz o n;split at hv
      ·rename_i hc;obtain⟨c0,c1,c3,c4,c5,c6,c7,c8,c9,Ca⟩:=hc;injection hv with hv;subst hv;subst c1;exact Mf (ty:=ty) h (bV d rfl) uW hk oM qx hx (adz bC c0) c3 c4 c5 c6 c7 bh xi tE mf c8 Ca
      ·cases hv
     ·rename_i sz es;split at hv
      ·rename_i hc;obtain⟨c1,c8,c9,Ca⟩:=hc;injection hv with hv;subst hv;subst c1;have jc:=hx.fw rfl;obtain⟨A,hA⟩:=jc.yZ;have eA:=jc.u_;rw[hA]at eA⊢;cases eA with
       |@sl _ _ _ n cap b off us hn cU gQ hA2 Y8 qt fa GS=>
        have hold:(Builtin.firstCells sz es.length (.slice A es.length es.length)).run P w.drew= .ok (rowOf us es.length sz).toArray w.drew:=by
         by_cases jG:es=[]
         ·subst jG;cases A<;>grind [rowOf,run_firstCells_none,run_firstCells_some]
         ·obtain⟨hA3,_⟩:=hA2 jG;subst hA3;refine akr w.drew sz es.length _ _ _ (rowOf us es.length sz) (jA _ _ _) fun j u hj=>?_;obtain⟨k,l,hk,hl,rfl,rfl⟩:=lJ hj;rw[Addr.ei];have hd:=aaS hk;have hc:=aaS (show l<es[k].cells.length by grind);have:=qt k _ l _ hd hc;simp_all[ae8]
        obtain⟨v,w',hrr,ρ',hS⟩:=xP (ty:=ty) (bx1:=bx) h (bV d rfl) uW hk oM qx rfl awN Y8 (fun i d j c hi hj=>⟨.pure (GS i d j c hi hj),fa i d j c hi hj⟩) hold bh xi tE mf c8 Ca (fun _=> .inl rfl);exact⟨v,w',hrr,ρ',.inl hS⟩
      ·cases hv
     ·split at hv
      ·rename_i hc;obtain⟨c8,c9,Ca⟩:=hc;injection hv with hv;subst hv;rw[hx.gv];obtain⟨v,w',hrr,ρ',hS⟩:=xP (ty:=ty) (bx1:=bx) (n:=0) (cap:=0) (base:=none) (xs0:=[]) (us:=fun _ _=>undef) h (bV d rfl) uW hk oM qx rfl awN sI sI aup bh xi tE mf awN Ca (fun _=> .inl rfl);simp only[aeC,adC]at hS;exact⟨v,w',hrr,ρ',.inl hS⟩
      ·cases hv
     ·cases hv
   ·cases hv
 ·cases hv
end Go.V
namespace Go.V
open Go.RowKit
variable {P:Program} {X:Ctx} {ρ:bX} {σ:Env} {bx:ab} {a:Act} {w:World} {ty:TypeId} {pos:String} {af:Array Edge} {g:Option (Nat×Bool)}
theorem ag2{z:Array Value}{m i j:Nat}(hi:i<m)(hj:j<z.size):(Builtin.zeroCells z m)[i * z.size+j]? =some (z.getD j undef):=by
 have au:i * z.size+j<m * z.size:=by
  have:(i+1) * z.size<=m * z.size:=aen _ hi
  exact awN
 simp_all[Builtin.zeroCells,Nat.mod_eq_of_lt]
def Ja(t tn ty e:TypeId)(i:TypeInfo)(z:Value)(kq kn:IntKind)(ht:P.underlying t=some (.slice e))(Kl:P.underlying tn=some (.int kn))(hi:P.info? e=some i)(hz:i.zero=some z)
 (gb rf Fz m:Nat) (cur:Array Value) (hg:w.heap[gb]? =some (.cells cur e (0,0))) (h0:0<m) (hs:0<i.size) (zx:z.cells.size=i.size) (lC:rf+m<=Fz) (lV:rf * i.size+m * i.size<=cur.size)
 (h63:(m:Int)<=9223372036854775807) (ry:m * i.bytes<=281474976710656) (h1:∀u∈(Builtin.zeroCells z.cells m).toList,u.oneCell'=true):
 (Builtin.append_ #[t,tn] ty #[.slice (some ⟨gb,0,none⟩) rf Fz,.int kq m]).run P w=
  .ok (.slice (some ⟨gb,0,none⟩) (rf+m) Fz) (w.setRow gb (cur.toList.take (rf * i.size)++(Builtin.zeroCells z.cells m).toList++cur.toList.drop (rf * i.size+(Builtin.zeroCells z.cells m).toList.length)).toArray):=by
 have bI:=ak1 P gb (rf * i.size) e (Builtin.zeroCells z.cells m).toList 0 cur w hg (by grind [size_zeroCells]) h1;simp only[agA]at bI;have hw:IntKind.i64.wrap (m:Int)=m:=by rw[IntKind.wrap_i64];omega
 have anm:¬((m:Int)<0):=oM;have am7:¬(281474976710656<(m:Int) * (i.bytes:Int)):=awN
 have VR:¬(m * i.size=0):=Nat.mul_ne_zero oM oM;simp[Builtin.append_,aaD ht,aaD Kl,sizeOf,typeInfo,zeroValue,hi,hz,asInt,asIntOf,hw,anm,am7,VR,lC,Addr.add_lit];exact awy
def OI(base:Nat)(t tn ty e:TypeId)(i:TypeInfo)(z:Value)(kq kn:IntKind)(size bytes:Nat)(ht:P.underlying t=some (.slice e))(Kl:P.underlying tn=some (.int kn))(hi:P.info? e=some i)(hz:i.zero=some z)
 (qL:i.size=size) (GA:i.bytes=bytes) (zx:z.cells.size=size) (bz:0<size)
 (v:Value) (n:Nat) (xs:List Value) (xh:w.ownsRow base e size v n xs) (m:Nat) (hm:0<m) (h1:∀u∈(Builtin.zeroCells z.cells m).toList,u.oneCell'=true)
 (h63:n+m<=maxLen) (Vy:(n+m) * bytes<=140737488355328) (xQ:base<=w.heap.size):
 ∃v' w',(Builtin.append_ #[t,tn] ty #[v,.int kq m]).run P w= .ok v' w'/\w'.ownsRow base e size v' (n+m) (xs++(Builtin.zeroCells z.cells m).toList)/\w.grownBy w' v.ownBlock/\
  (v'.ownBlock=v.ownBlock\/v'.ownBlock=some w.heap.size):=by
 subst qL;subst GA;have hsmall:n+m<=9223372036854775807:=avL
 have hmb:m * i.bytes<=(n+m) * i.bytes:=aen _ oM;generalize hnw:(Builtin.zeroCells z.cells m).toList=news at *;have hl:news.length=m * i.size:=by grind [size_zeroCells]
 have hna:news.toArray=Builtin.zeroCells z.cells m:=awN
 have hlen:(xs++news).length=(n+m) * i.size:=by rw[aaY,xh.1,hl,agr]
 have grown:∀(x_:Nat),x_<n+m->∀(row:Option Nat),
  (w.drew.alloc (.cells (xs.toArray++news.toArray++Builtin.zeroCells z.cells (grownCap w (n+m) x_ e - (n+m))) e)).ownsRow base e i.size
   (.slice (some ⟨w.heap.size,0,none⟩) (n+m) (grownCap w (n+m) x_ e)) (n+m) (xs++news)/\
  w.grownBy (w.drew.alloc (.cells (xs.toArray++news.toArray++Builtin.zeroCells z.cells (grownCap w (n+m) x_ e - (n+m))) e)) row:=by
  intro x_ ho row;have VF:=grownCap_ge w (n+m) x_ e;have tw:grownCap w (n+m) x_ e<=maxLen:=grownCap_le_maxLen w (n+m) x_ e h63;refine⟨⟨hlen,.inr ⟨w.heap.size,_,_,rfl,xQ,aka w.drew _,VF,tw,?_,?_⟩⟩,⟨rfl,rfl,rfl,awP,fun k hk _=>heap_alloc_old w.drew _ (show k<w.drew.heap.size from hk)⟩⟩
  ·simp only[Array.size_append,ak2,size_zeroCells,zx,xh.1,hl,<-agr]
   exact awN
  exact awN
 rcases xh.2 with⟨rfl,rfl⟩|⟨gb,cap,cur,rfl,hbg,hg,GO,tw,gz,aa7⟩
 ·have hx:xs=[]:=ae4 awN;subst hx;have hr:=Lib.run_append_grow_zeros (P:=P) w t tn ty e i z kq kn ht Kl hi hz none 0 0 [] (run_firstCells_none w.drew i.size 0 0 0) m hm bz oM oM oM (al9 oM Vy);have mF:=grown 0 oM (Value.ownBlock (.slice none 0 0));exact arU
 ·by_cases lC:n+m<=cap
  ·have lV:n * i.size+m * i.size<=cur.size:=by rw[gz,<-agr];exact aen _ lC
   have hr:=Ja (P:=P) (w:=w) t tn ty e i z kq kn ht Kl hi hz gb n cap m cur hg hm bz zx lC lV oM oM awN;rw[hnw]at hr;refine⟨_,_,hr,⟨hlen,.inr ⟨gb,cap,_,rfl,hbg,alN w gb cur _ e _ hg,lC,tw,?_,?_⟩⟩,⟨rfl,rfl,rfl,awP,fun k _ hk=>akb w gb k _ (fun e=>hk (by simp[Value.ownBlock,e]))⟩,.inl rfl⟩
   ·exact awN
   exact awN
  ·have holds:∀j u,xs[j]? =some u->w.cell? ((⟨gb,0,none⟩:Addr).add j)=some u:=xh.cells (g:=gb) rfl;have hr:=Lib.run_append_grow_zeros (P:=P) w t tn ty e i z kq kn ht Kl hi hz (some ⟨gb,0,none⟩) n cap xs (akr w.drew i.size n ⟨gb,0,none⟩ n cap xs xh.1 awy) m hm bz oM oM oM (al9 oM Vy);have mF:=grown cap oM (Value.ownBlock (.slice (some ⟨gb,0,none⟩) n cap));exact arU
def H2(h:aw X ρ σ bx a w){T T' d sl el esz bytes n m:Nat}{ag:Bool}{kn kq:IntKind}(hd:d<X.N)(bC:X.lo<=sl)(hk:(aj P T).k= .slice el esz bytes ag)(dZ:(aj P T').k= .int kn)(vN:esz≠0)(hz:(aj P el).zero.length=esz)
 {zd:D} (GY:kT (aj P el)=some zd) {vx:Value} {xs:List Value} {xs0:List D} {us0:Nat->Nat->Value} (xh:w.ownsRow 0 el esz vx n xs) (rF:xs0.length=n)
 (hxz:∀(i:Nat) d,xs0[i]? =some d->d.cells.length=esz)
 (iS:∀(i:Nat) d (j:Nat) c,xs0[i]? =some d->d.cells[j]? =some c->xs[i * esz+j]? =some (us0 i j)/\aG w (ay X ρ bx w) ρ c (us0 i j)/\(us0 i j).oneCell'=true)
 (hm:0<m) (GA:(n+m) * bytes<=140737488355328) (mD:0<bytes) {bx1:ab} (h1:∀s,bx1 s=bx s\/((bx1 s).k=0/\(bx1 s).ep=(bx s).ep/\X.lo<=s))
 (hO:∀b,some b=vx.ownBlock->∃t0 p0,(bx t0).k=1/\ρ t0 (bx t0).ep=some p0/\p0.b=b/\(t0=sl\/(bx1 t0).k=0)):
 ∃v w',(Builtin.append_ #[T,T'] ty #[vx,.int kq m]).run P w= .ok v w'/\
  ∃ρ',aw X ρ' (ah σ d (.ba sl ((bx sl).ep+1) esz 0 (n+m))) (ah bx1 sl ⟨(bx sl).ep+1,1,esz,el,xs0++List.replicate m zd⟩) (a.put (some d) v) w':=by
 obtain⟨hu,he,Gz,_⟩:=cW hk;obtain⟨i,z,hi,zy,V5⟩:=wK (P:=P) (t:=el) oM;have bz:i.size=esz:=awn
 have J8:i.bytes=bytes:=awN
 have zx:z.cells.size=esz:=awN
 have GL:(n+m)<=maxLen:=by
  have:=afr (n+m) mD
  exact avL
 unfold kT at GY;split at GY
 rotate_left
 ·cases GY
 rename_i hcz;obtain⟨fR,qx,eW,fQ⟩:=hcz;injection GY with GY;have Cs:zd.cells=(aj P el).zero:=by
  subst GY;unfold EB;cases hA:(aj P el).agg with
  |true=>rfl
  |false=>
   rcases eW with eW|eW
   ·exact awN
   ·rw[eW]at qx
    match zy:(aj P el).zero,qx with
    |[c],_=>
     exact ary
 have iO:∀(j:Nat) c,zd.cells[j]? =some c->j<esz/\aG w (ay X ρ bx w) ρ c (z.cells.getD j undef)/\(z.cells.getD j undef).oneCell'=true:=fun j c hj=>by
  rw[Cs]at hj;have GH:=(aaL.1 hj).1;have h1:=aaI.1 fQ c (aat hj);rw[V5,aaZ,aav]at hj;obtain⟨u,hu,rfl⟩:=hj;rw[aba]at hu;have rz:z.cells.getD j undef=u:=by rw[aeE,hu];rfl
  exact⟨awO,by rw[rz];exact .pure (nO u),aq6⟩
 have oO:∀u∈(Builtin.zeroCells z.cells m).toList,u.oneCell'=true:=fun u hu=>by
  simp only[Builtin.zeroCells,Array.toList_map,aa1]at hu;obtain⟨q,_,rfl⟩:=hu;have hq:q % z.cells.size<z.cells.size:=ak4 _ oM;have hj:zd.cells[q % z.cells.size]? =some (ED (z.cells[q % z.cells.size])):=awN
  have:=(iO _ _ hj).2.2;rw[aeE,abd hq]at this
  exact awN
 obtain⟨v',w',hr,vA,mF,ana⟩:=OI (P:=P) (w:=w) (ty:=ty) 0 T T' el i z kq kn esz bytes hu (xD dZ) hi zy bz J8 zx oM vx n xs xh m hm oO GL GA (aes _);obtain⟨hlen,vA⟩:=vA;rcases vA with⟨_,vA⟩|⟨gg,cap,cur,rfl,_,hgg,GO,tw,gz,aa7⟩
 ·exact awO
 have hold:w.heap.size<=gg\/some gg=vx.ownBlock:=by grind [Value.ownBlock]
 have hw:∀b,ay X ρ bx w b->w'.heap[b]? =w.heap[b]?:=fun b hb=>mF.block b hb.1 (fun e=>by
  obtain⟨t0,p0,mQ,sL,Kh,_⟩:=hO b e;exact hb.2.2 t0 mQ p0 sL Kh)
 have iu:∀(k:Nat) (u:Value),(xs++(Builtin.zeroCells z.cells m).toList)[k]? =some u->cur[k]? =some u:=awN
 have h2:=h.own (w':=w') (t:=sl) (p:=⟨gg,cap,esz,el⟩) (es:=xs0++List.replicate m zd) (bx1:=bx1) bC h1 (Old:=fun b=>some b=vx.ownBlock) (.N9 mF) hO hold (fun S' ρ' hS hρ=>by
  have uC:∀c u,aG w (ay X ρ bx w) ρ c u->aG w' S' ρ' c u:=fun c u hr=>hr.mono hw hS hρ;refine⟨⟨cur,hgg,gz,fun i j=>if i<n then us0 i j else z.cells.getD j undef,fun i y j c hi hj=>?_⟩,awN,tw,fun i y hi=>?_⟩
  ·dsimp only;by_cases nw:i<n
   ·exact awN
   ·rw[abn oM,rF]at hi;have qv:=(aaL.1 hi).1;simp only[aff]at qv;obtain rfl:y=zd:=alb (aat hi);obtain⟨u1,u2,u3⟩:=iO j c hj;simp only[nw,aa_];refine⟨iu _ _ ?_,uC _ _ u2,u3⟩;have Ze:xs.length=n * esz:=xh.1;have e1:i * esz+j=n * esz+((i - n) * esz+j):=by
     have:i=n+(i - n):=oM
     exact awN
    rw[abn awN,Ze,e1,ajF,aba,<-zx]
    grind [ag2]
  grind)
 refine⟨_,_,hr,_,h2.put (dst:=some d) (fun t ht=>awN) (.ba (p:=⟨gg,cap,esz,el⟩) ?_ rfl (fun _=>⟨rfl,rfl⟩) (fun _=>awP) GO ⟨awP,tw⟩)⟩;simp
def Mg(h:aw X ρ σ bx a w){T T':TypeId}{x y:Operand}{dst:Option Tmp}(bV:∀t,dst=some t->t<X.N){lo base:Nat}(bC:X.lo<=lo)(xQ:X.lo<=base){r:D×ab}(hv:BZ lo (aj P) T T' (lL base dst) bx (ev σ x) (ev σ y)=some r):
 ∃v w',(execOp a.eval ⟨dst,.call {callee:=.builtin .append,args:= #[x,y],argTypes:= #[T,T']},ty,pos,af,g⟩).run P w= .ok (.value v) w'/\∃ρ',aw X ρ' (put σ dst r.1) r.2 (a.put dst v) w':=by
 by_cases hq:xK lo (aj P) (aj P T) T T' (lL base dst) bx (ev σ x) (ev σ y)=some (r,r)
 ·obtain⟨v,w',hr,ρ',hS|hS⟩:=Bw (ty:=ty) (pos:=pos) (af:=af) (g:=g) h bV bC xQ hq
  ·exact awN
  exact awN
 have hx:=h.ev x;have hy:=h.ev y;suffices hs:∃v w',(Builtin.append_ #[T,T'] ty #[a.eval x,a.eval y]).run P w= .ok v w'/\∃ρ',aw X ρ' (put σ dst r.1) r.2 (a.put dst v) w' by
  obtain⟨v,w',hr,hS⟩:=hs;refine⟨v,w',?_,hS⟩
  exact aqM
 generalize ev σ x=dx at hv hx hq;generalize ev σ y=dy at hv hy hq;generalize a.eval x=vx at hx⊢;generalize a.eval y=vy at hy⊢;unfold BZ at hv;split at hv
 ·rename_i hTT;subst hTT;unfold R6 at hv;split at hv
  ·rename_i el esz bytes ag hk;split at hv
   ·cases hv
   ·rename_i vN;rw[aeP]at hv;obtain⟨ys,fO,hv⟩:=hv;obtain⟨A,c,b,off,us,CF,hA,tE,mf⟩:=qm h hy fO;unfold jC at hv;rw[hk]at hv;cases dst with
    |none=>simp[lL]at hv
    |some d=>
     have hd:=bV d rfl;dsimp only[lL]at hv;obtain⟨hu,he,_,_⟩:=cW hk;have uW:X.lo<=base+d:=adz xQ (af9 _ _);split at hv
     ·rename_i hy0;subst hy0;have Y6:∃B n cap,vx= .slice B n cap/\n<=cap/\∃x',r=(x',bx)/\aG w (ay X ρ bx w) ρ x' vx:=by
       unfold slO at hv;split at hv
       ·injection hv with hv;have jc:=(hx.fw rfl)
        obtain⟨A',QF⟩:=jc.yZ;exact⟨_,_,_,QF,aaN _,_,hv.symm,.pure jc.u_⟩
       ·exact arb
       ·injection hv with hv;obtain⟨p,off,cap,_,_,_,_,hn,_,_,pS⟩:=hx.rI
        exact awN
       ·injection hv with hv;have eA:=hx;cases eA with
        |pure eA=>cases eA<;>grind
       ·cases hv
      obtain⟨B,n,cap,pS,GO,x',rfl,jc⟩:=Y6;subst pS CF;refine⟨.slice B n cap,w,?_,ρ,h.put (dst:=some d) (fun t ht=>awN) jc⟩;have bz:=cI (P:=P) (t:=el) oM w;cases A<;>cases B<;>simp[Builtin.append_,aaD hu,bz,Builtin.lenOf,Builtin.firstCells,loadCells,loadCellsFrom,GO,storeCells]
     ·rename_i bh;split at hv
      ·rename_i qx;obtain rfl:=hA bh;unfold Ac at hv;split at hv
       ·split at hv
        ·rename_i hc;injection hv with hv;subst hv;have:=Ee (ty:=ty) h hd uW hk vN qx (vx:=vx) (xs:=[]) (xs0:=[]) (n:=0) (us0:=fun _ _=>undef) atT rfl sI sI bh CF tE mf awN hc.2.2 (bx1:=bx) (fun _=> .inl rfl)
          auB
         simp only[adC,aeC]at this;exact this
        ·cases hv
       ·rename_i t e sz o n;unfold Md at hv;split at hv
        ·rename_i hc;obtain⟨c0,c1,c2,c3,c4,c5,c6,c7,c8,c9,Ca⟩:=hc;injection hv with hv;subst hv;subst c1;subst c2;obtain⟨p,yF,cap,hp,tA,h0,_,hn,_,gQ,pS⟩:=hx.rI;obtain⟨rfl,rfl⟩:=h0 rfl;obtain⟨p',bu,ID,CA,jH,hh⟩:=h.box t (by rw[c4];decide);rw[c3,hp]at bu;injection bu with bu;subst bu;obtain⟨⟨cur,jO,gz,us0,ke⟩,uV,eK,bz⟩:=hh;have hlen:((bx t).es.take n).length=n:=awe
         have eC:∀(i:Nat) d,((bx t).es.take n)[i]? =some d->i<n/\(bx t).es[i]? =some d:=awN
         have lV:n * sz<=cur.size:=by simp_all[aen]
         have:=Ee (ty:=ty) h hd uW hk vN qx (vx:=vx) (xs:=cur.toList.take (n * sz)) (xs0:=(bx t).es.take n) (n:=n) (us0:=us0)
          (by rw[pS];refine⟨awe,.inr ⟨p.b,p.cap,cur,rfl,aes _,?_,hn,gQ,by rw[gz,tA],rfl⟩⟩;grind) hlen (fun i d hi=>(bz i d (eC i d hi).2).trans tA)
          (fun i d j c hi hj=>by
           obtain⟨g1,g2⟩:=eC i d hi;obtain⟨u1,u2,u3⟩:=ke i d j c g2 hj;refine⟨?_,u2,u3⟩;have GI:j<sz:=awN
           have au:i * sz+j<n * sz:=by
            have:=aen sz (show i+1<=n from g1)
            exact awN
           grind) bh CF tE mf c8 Ca (bx1:=ah bx t {bx t with k:=0})
          (fun s=>awg)
          (by
           grind [Value.ownBlock,ah])
         exact this
        ·cases hv
       ·rename_i sz es;split at hv
        ·rename_i hc;obtain⟨c1,c8,c9,Ca⟩:=hc;injection hv with hv;subst hv;subst c1;subst CF;have aeT:∀i j,i<ys.length->j<sz->w.cell? ⟨b,off+i * sz+j,none⟩=some (us i j)/\(us i j).oneCell'=true:=by
          intro i j hi hj;have hd:=aaS hi
          exact awN
         have xi:Src P sz T (.slice (some ⟨b,off,none⟩) ys.length c) ys.length (rowOf us ys.length sz) w:=
          Src.ofSlice w hu ⟨b,off,none⟩ ys.length c (rowOf us ys.length sz) (jA _ _ _) (fun j u hj=>by
           obtain⟨k,l,hk,hl,rfl,rfl⟩:=lJ hj
           grind [Addr.ei]) (fun u hu=>by
           obtain⟨j,hj⟩:=afj.1 hu;obtain⟨k,l,hk,hl,rfl,rfl⟩:=lJ hj
           grind)
         have jc:=hx.fw rfl;obtain⟨A',QF⟩:=jc.yZ;have eA:=jc.u_;rw[QF]at eA⊢;cases eA with
         |@sl _ _ _ n cap b2 off2 gO hn cU gQ hA2 Y8 qt fa GS=>
          have hold:(Builtin.firstCells sz es.length (.slice A' es.length es.length)).run P w.drew= .ok (rowOf gO es.length sz).toArray w.drew:=by
           by_cases jG:es=[]
           ·subst jG;cases A'<;>grind [rowOf,run_firstCells_none,run_firstCells_some]
           ·obtain⟨hA3,_⟩:=hA2 jG;subst hA3;refine akr w.drew sz es.length _ _ _ (rowOf gO es.length sz) (jA _ _ _) fun j u hj=>?_;obtain⟨k,l,hk,hl,rfl,rfl⟩:=lJ hj;rw[Addr.ei];have hd:=aaS hk;have hc:=aaS (show l<es[k].cells.length by grind);have:=qt k _ l _ hd hc;simp_all[ae8]
          exact xP (ty:=ty) (bx1:=bx) h hd uW hk oM qx rfl awN Y8 (fun i d j c hi hj=>⟨.pure (GS i d j c hi hj),fa i d j c hi hj⟩) hold bh xi tE (fun i d j c hi hj=>(mf i d j c hi hj).2) c8 Ca (fun _=> .inl rfl)
        ·cases hv
       ·cases hv
      ·cases hv
  ·cases hv
 ·unfold Me at hv;split at hv
  ·rename_i yy el esz bytes ag kn d0 kq n hk dZ tz;cases dst with
   |none=>simp[lL]at tz
   |some d=>
    simp only[lL,aaM]at tz;subst tz;have uW:X.lo<=base+d:=adz xQ (af9 _ _);split at hv
    ·rename_i hc;obtain⟨c0,c1,c2,c3,c4⟩:=hc;rw[aeP]at hv;obtain⟨zd,GY,hv⟩:=hv;obtain⟨hu,he,Gz,_⟩:=cW hk;obtain⟨m,rfl⟩:∃m:Nat,n=m:=⟨n.toNat,awO⟩
     simp only[ae3]at hv;have hyv:=hy.cV;rw[hyv];obtain⟨i,z,hi,zy,V5⟩:=wK (P:=P) (t:=el) oM;have bz:i.size=esz:=awn
     have J8:i.bytes=bytes:=awN
     have abh:∀B q cap,q<=cap->vx= .slice B q cap->(Builtin.append_ #[T,T'] ty #[vx,.int kq ((0:Nat):Int)]).run P w= .ok (.slice B q cap) w:=fun B q cap hq pS=>by
      subst pS;cases B<;>simp[Builtin.append_,aaD hu,aaD (xD dZ),sizeOf,typeInfo,hi,asInt,asIntOf,IntKind.wrap,IntKind.signed,IntKind.bits,hq,storeCells]
     unfold aay at hv;split at hv
     ·split at hv
      ·rename_i h0;rw[ak5]at h0;subst h0;injection hv with hv;subst hv;exact⟨_,w,abh none 0 0 (aaN _) hx.gv,ρ,by have:=h.put (dst:=some d) (v:=vx) (fun t ht=>awN) hx;rw[hx.gv]at this;exact this⟩
      ·rename_i hm;have hm:0<m:=Nat.pos_of_ne_zero fun h=>hm aww;unfold Ac at hv;simp only at hv;split at hv
       ·rename_i hc;injection hv with hv;subst hv;have:=H2 (ty:=ty) (kq:=kq) h (bV d rfl) uW hk dZ oM c2 GY (vx:=vx) (xs:=[]) (xs0:=[]) (n:=0) (us0:=fun _ _=>undef) atT rfl sI sI hm awN c4 (bx1:=bx) (fun _=> .inl rfl)
         auB
        rw[aff];simp only[aeC,adC]at this;exact this
       ·cases hv
     ·rename_i t e sz o n;split at hv
      ·rename_i h0;rw[ak5]at h0;subst h0;injection hv with hv;subst hv;obtain⟨p,off,cap,_,_,_,_,hn,_,_,pS⟩:=hx.rI;exact⟨_,w,abh _ _ _ hn pS,ρ,by have:=h.put (dst:=some d) (v:=vx) (fun t ht=>awN) hx;grind⟩
      ·rename_i hm;have hm:0<m:=Nat.pos_of_ne_zero fun h=>hm aww;unfold Ac at hv;simp only at hv;unfold Md at hv;split at hv
       ·rename_i hc;obtain⟨q0,q1,q2,q3,q4,q5,q6,q7,q8,q9,ve⟩:=hc;injection hv with hv;subst hv;subst q1;subst q2;obtain⟨p,yF,cap,hp,tA,h0,_,hn,_,gQ,pS⟩:=hx.rI;obtain⟨rfl,rfl⟩:=h0 rfl;obtain⟨p',bu,ID,CA,jH,hh⟩:=h.box t (by rw[q4];decide);rw[q3,hp]at bu;injection bu with bu;subst bu;obtain⟨⟨cur,jO,gz,us0,ke⟩,uV,eK,anv⟩:=hh;have hlen:((bx t).es.take n).length=n:=awe
        have eC:∀(i:Nat) d,((bx t).es.take n)[i]? =some d->i<n/\(bx t).es[i]? =some d:=awN
        have lV:n * sz<=cur.size:=by rw[gz,tA];exact aen _ oM
        have:=H2 (ty:=ty) (kq:=kq) h (bV d rfl) uW hk dZ oM c2 GY (vx:=vx) (xs:=cur.toList.take (n * sz)) (xs0:=(bx t).es.take n) (n:=n) (us0:=us0)
         (by rw[pS];refine⟨awe,.inr ⟨p.b,p.cap,cur,rfl,aes _,?_,hn,gQ,by rw[gz,tA],rfl⟩⟩;grind) hlen (fun i d hi=>(anv i d (eC i d hi).2).trans tA)
         (fun i d j c hi hj=>by
          obtain⟨g1,g2⟩:=eC i d hi;obtain⟨u1,u2,u3⟩:=ke i d j c g2 hj;refine⟨?_,u2,u3⟩;have GI:j<sz:=awN
          have au:i * sz+j<n * sz:=by
           have:=aen sz (show i+1<=n from g1)
           exact awN
          grind) hm awN c4 (bx1:=ah bx t {bx t with k:=0})
         (fun s=>awg)
         (by
          grind [Value.ownBlock,ah])
        rw[aff];exact this
       ·cases hv
     ·cases hv
    ·cases hv
  ·rename_i yy el esz bytes ag d0 s hk dZ tz;split at hv
   ·rename_i hc;obtain⟨c1,rfl,c3⟩:=hc;refine absurd ?_ hq;have he:sk (aj P) T T' 1 el bx (.str s)=some (cM s):=by simp_all[sk]
    simp only[xK,hk,tz,he,c1,Nat.one_pos,ajD,abo,akz];simp only[jC,hk,tz,c1,abo]at hv;by_cases mf:cM s=[]
    ·rw[aaO mf]at hv⊢;unfold slO at hv;split at hv<;>first|(injection hv with hv;subst hv;rfl)|cases hv
    ·rw[aaw mf]at hv⊢;unfold Ac at hv;split at hv<;>grind [R7,Md]
   ·cases hv
  ·cases hv
end Go.V
namespace Go.V
open Go.RowKit
variable {P:Program} {X:Ctx} {ρ:bX} {σ:Env} {bx:ab} {a:Act} {w:World}
variable {ty:TypeId} {pos:String} {af:Array Edge} {g:Option (Nat×Bool)}
def VU{S:Nat->Prop}{p:Place}{es ys:List D}{o:Nat}{gO:Nat->Value}{cur:Array Value}
 (hh:Holds w S ρ p es) (jO:w.heap[p.b]? =some (.cells cur p.ty)) (hS:∀b,S b->b≠p.b) (hz:p.sz=1) (lV:o+ys.length<=es.length)
 (hy:∀(i:Nat) d,ys[i]? =some d->d.one=true/\aG w S ρ d (gO i)/\(gO i).oneCell'=true):
 Holds (w.setRow p.b (cur.toList.take o++(List.range ys.length).map gO++cur.toList.drop (o+ys.length)).toArray) S ρ p (es.take o++ys++es.drop (o+ys.length)):=by
 obtain⟨⟨cur0,DM,gz,us,ke⟩,uV,eK,bz⟩:=hh;rw[jO]at DM;injection DM with DM;injection DM with DM;subst DM;rw[hz,agU]at gz;have tP:∀k,(cur.toList.take o++(List.range ys.length).map gO++cur.toList.drop (o+ys.length)).toArray[k]? =if o<=k/\k<o+ys.length then some (gO (k - o))else cur[k]?:=by
  intro k;have qw:(cur.toList.take o).length=o:=awe
  rw[afl,aaU];by_cases h1:k<o
  ·rw[aeU oM,afn h1,aaw oM,aba]
  ·rw[abn oM,qw];by_cases h2:k<o+ys.length
   ·exact awN
   ·rw[abn awe,aaw oM,akU,aba]
    exact awN
 have qL:(cur.toList.take o++(List.range ys.length).map gO++cur.toList.drop (o+ys.length)).toArray.size=p.cap:=awN
 generalize(cur.toList.take o++(List.range ys.length).map gO++cur.toList.drop (o+ys.length)).toArray=new at tP qL⊢;have uC:∀c u,aG w S ρ c u->aG (w.setRow p.b new) S ρ c u:=fun c u hr=>hr.mono (fun b dQ=>akb w p.b b new (hS b dQ)) (fun _ h=>h) (fun _ _ _ h=>h);have qw:(es.take o).length=o:=awe
 have eC:∀(i:Nat) d,(es.take o++ys++es.drop (o+ys.length))[i]? =some d->(o<=i/\i<o+ys.length/\ys[i - o]? =some d)\/(¬(o<=i/\i<o+ys.length)/\es[i]? =some d):=by
  intro i d hi;rw[aaU]at hi;by_cases h1:i<o
  ·exact awN
  ·rw[abn oM,qw]at hi
   exact awN
 refine⟨⟨new,alN w p.b cur new p.ty (0,0) jO,by rw[qL,hz,agU],fun i k=>if o<=i/\i<o+ys.length then gO (i - o)else us i k,fun i d k c hi hk=>?_⟩,awe,eK,fun i d hi=>?_⟩
 ·rcases eC i d hi with⟨h1,h2,h3⟩|⟨h1,h3⟩
  ·obtain⟨q1,q2,q3⟩:=hy _ _ h3;rw[fD q1]at hk;obtain rfl:k=0:=awN
   exact awy
  ·obtain⟨u1,u2,u3⟩:=ke i d k c h3 hk;dsimp only;rw[aaw h1];refine⟨?_,uC _ _ u2,u3⟩;have mQ:k<1:=awN
   obtain rfl:k=0:=oM
   exact awN
 grind [fD]
def Sq(h:aw X ρ σ bx a w){T T':TypeId}{x y:Operand}{dst:Option Tmp}(bV:∀t,dst=some t->t<X.N){lo:Nat}(bC:X.lo<=lo){r:Nat×ab}(hv:Sp lo (aj P T) (aj P T') bx (ev σ x) (ev σ y)=some r):
 ∃v w',(execOp a.eval ⟨dst,.call {callee:=.builtin .copy,args:= #[x,y],argTypes:= #[T,T']},ty,pos,af,g⟩).run P w= .ok (.value v) w'/\aw X ρ (put σ dst (.int .i64 (r.1:Int))) r.2 (a.put dst v) w':=by
 have hx:=h.ev x;have hy:=h.ev y;suffices hs:∃w',(Builtin.copy_ #[T,T'] ty #[a.eval x,a.eval y]).run P w= .ok (goInt r.1) w'/\aw X ρ σ r.2 a w' by
  obtain⟨w',hr,hS⟩:=hs;refine⟨goInt r.1,w',?_,hS.put bV (.pure (.int .i64 _))⟩
  exact aqM
 generalize ev σ x=dx at hv hx;generalize ev σ y=dy at hv hy;generalize a.eval x=vx at hx⊢;generalize a.eval y=vy at hy⊢;unfold Sp at hv;split at hv
 ·rename_i el esz bytes ag _ _ _ _ hk _;split at hv
  ·rename_i VB;subst VB;rw[aeP]at hv;obtain⟨ys,fO,hv⟩:=hv;split at hv
   ·rename_i fQ;obtain⟨A,c,b,off,us,CF,hA,tE,mf⟩:=qm h hy fO;obtain⟨hu,he,_,_⟩:=cW hk;obtain⟨i,hi,bz⟩:∃i,P.info? el=some i/\i.size=1:=awn
    have anw:(P.info? el).map (·.size)=some 1:=awN
    have none_:∀(d:Option Addr) (n cap:Nat),vx= .slice d n cap->min ys.length n=0->r=(0,bx)->∃w',(Builtin.copy_ #[T,T'] ty #[vx,vy]).run P w= .ok (goInt r.1) w'/\aw X ρ σ r.2 a w':=by simp_all[run_copy_none]
    have rows:∀(p:Place) (o n cap:Nat) (m:Nat) (cur:Array Value),m=min ys.length n->0<m->vx= .slice (some ⟨p.b,o,none⟩) n cap->w.heap[p.b]? =some (.cells cur p.ty)->o+m<=cur.size->
     (Builtin.copy_ #[T,T'] ty #[vx,vy]).run P w= .ok (goInt m) (w.setRow p.b (cur.toList.take o++(List.range m).map (fun i=>us i 0)++cur.toList.drop (o+m)).toArray):=by
     rintro p o n cap m cur hm hm0 rfl jO lV;have bh:ys≠[]:=awN
     obtain rfl:=hA bh;subst CF;have bS:∀k,k<ys.length->∃d,ys[k]? =some d/\d.cells=[d]:=fun k hk=>⟨_,aaS hk,fD (aaI.1 fQ _ (ala hk))⟩
     have:=run_copy_row (P:=P) w T T' ty el p.b o n cap ⟨b,off,none⟩ ys.length c cur p.ty ((List.range m).map fun i=>us i 0) hu anw jO (by simp[hm]) (fun j v hj=>by
      have vP:=(aaL.1 hj).1;simp only[aa0,List.length_range]at vP;rw[aaZ,aqg vP]at hj;simp only[aec,aaM]at hj;obtain⟨d,hd,hdc⟩:=bS j oM
      grind [Addr.ei]) awN (fun v hv=>by
      obtain⟨j,hj,rfl⟩:=aa1.1 hv;obtain⟨d,hd,hdc⟩:=bS j awN
      grind)
     exact awN
    have NH:∀(m i:Nat) d,(ys.take m)[i]? =some d->d.one=true/\aG w (ay X ρ bx w) ρ d (us i 0)/\(us i 0).oneCell'=true:=fun m i d hi=>by grind [fD]
    unfold aaB at hv;split at hv
    ·injection hv with hv;exact none_ none 0 0 hx.gv sI hv.symm
    ·rename_i t e sz o n;split at hv
     ·rename_i hc;obtain⟨c0,c1,c2,c3,c4,c5⟩:=hc;injection hv with hv;subst c1;obtain⟨p,yF,cap,hp,tA,h0,ek,hn,VT,gQ,pS⟩:=hx.rI;obtain⟨p',bu,ID,CA,jH,hh⟩:=h.box t (by rw[c3];decide);rw[c2,hp]at bu;injection bu with bu;subst bu;have zw:ρ t (bx t).ep=some p:=awN
      by_cases hm:min ys.length n=0
      ·refine none_ _ n cap pS hm ?_;rw[<-hv,hm];have:ys.take n=[]:=awN
       rw[this]
       congr 1
       funext s;simp only[ah,aez,agA,aeZ];split
       ·rename_i hs;rw[hs]
       ·rfl
      ·obtain⟨cur,jO,gz,_⟩:=hh.ex;have uV:=hh.len;have ho:=ek oM;rw[agU]at ho;have lV:yF+min ys.length n<=cur.size:=awN
       have hr:=rows p yF n cap (min ys.length n) cur rfl oM pS jO lV;have hl:(ys.take n).length=min ys.length n:=awN
       have hH:=VU (o:=o) hh jO (fun b hb e=>hb.2.2 t c3 p zw e.symm) tA awN (NH n);rw[hl,<-ho]at hH;refine⟨_,by rw[<-hv];exact hr,?_⟩;rw[<-hv];rw[ho]at hH⊢;exact h.stored (adz bC c0) c3 zw ⟨rfl,rfl,rfl,awy,fun k _ hk=>akb w p.b k _ hk⟩ hH
     ·cases hv
    ·rename_i t e i0 j n;split at hv
     ·rename_i hc;obtain⟨c0,c2,c3⟩:=hc;split at hv
      ·rename_i d0 tz;rw[aav]at hv;obtain⟨d',fk,hv⟩:=hv;obtain⟨p,yF,cap,hp,ek,hn,cU,pS⟩:=hx.IH;obtain⟨p',bu,ID,CA,jH,hh⟩:=h.box t (by rw[c3];decide);rw[c2,hp]at bu;injection bu with bu;subst bu;have zw:ρ t (bx t).ep=some p:=awN
       have hl:(ys.take n).length=min ys.length n:=awN
       by_cases hm:min ys.length n=0
       ·refine none_ _ n cap pS hm ?_;rw[<-hv,hm];have:ys.take n=[]:=ae4 oM;rw[this]at fk
        congr 1
        have hd:d'=d0:=by
         unfold ed at fk;split at fk
         ·split at fk
          ·exact awy
          exact awN
         exact awN
        subst hd;funext s;simp only[ah];split
        ·rename_i hs;rw[hs];have:(bx t).es.set i0 d'=(bx t).es:=by
          obtain⟨h1,h2⟩:=aaL.1 tz;rw[<-h2];exact awP
         rw[this]
        ·rfl
       ·have hdy:aG w (ay X ρ bx w) ρ (.agg (ys.take n)) (.agg ((List.range (min ys.length n)).map fun i=>us i 0).toArray):=by
         refine .agg awN fun i d v hi cq=>?_
         exact awN
        obtain⟨cur,jO,lC,eB,QP⟩:=Kg (dy:=.agg (ys.take n)) hh (fun b hb e=>hb.2.2 t c3 p zw e.symm) tz fk (aaI.2 fun d hd=>aaI.1 fQ d (akp hd)) hdy;have ho:=ek oM;have bS:(Value.agg ((List.range (min ys.length n)).map fun i=>us i 0).toArray).cells=((List.range (min ys.length n)).map fun i=>us i 0).toArray:=rfl;rw[bS]at lC QP;have hr:=rows p yF n cap (min ys.length n) cur rfl oM pS jO awN;refine⟨_,by rw[<-hv];exact hr,?_⟩;rw[<-hv,ho];have he:(cur.toList.take (i0 * p.sz+j)++(List.range (min ys.length n)).map (fun i=>us i 0)++cur.toList.drop (i0 * p.sz+j+min ys.length n)).toArray=putRow cur (i0 * p.sz+j) ((List.range (min ys.length n)).map fun i=>us i 0).toArray:=by unfold putRow;simp
        rw[he];exact h.stored (adz bC c0) c3 zw ⟨rfl,rfl,rfl,awy,fun k _ hk=>akb w p.b k _ hk⟩ QP
      ·cases hv
     ·cases hv
    ·cases hv
   ·cases hv
  ·cases hv
 ·cases hv
end Go.V
namespace Go.V
open Go.RowKit
def bP(w:World)(S:Nat->Prop)(d:D)(v:Value)(w':World):Prop:=
 bc w' (fun b=>S b\/(w.heap.size<=b/\b<w'.heap.size)) d v/\Below w.heap.size w w'
def av(P:Program)(f:FuncId)(ds:List D)(d:D):Prop:=
 ∀(w:World) (S:Nat->Prop) (vs:Array Value),(∀b,S b->b<w.heap.size)->bc w S .fN undef->vs.size=ds.length->(∀(i:Nat) x v,ds[i]? =some x->vs[i]? =some v->bc w S x v)->
  ((callFunc f vs).run P w= .ok (.enter f vs) w/\Calls P f vs w (fun e w'=>∃v,e= .returned v/\bP w S d v w'))\/
  (∃v w',(callFunc f vs).run P w= .ok (.value v) w'/\bP w S d v w')
variable {P:Program} {C:Calc} {X:Ctx} {ρ:bX} {σ:Env} {bx:ab} {a:Act} {w:World}
theorem uN:∀(ds:List D),D.Ly ds=true->∀(i:Nat) d,ds[i]? =some d->d.bare=true
 |[],_,i,d,hd=>aws
 |x::xs,hp,i,d,hd=>by
  simp[D.Ly,aas]at hp;cases i with
  |zero=>grind
  |succ i=>exact uN xs hp.2 i d awN
def ye(ds:List D)(hp:D.aH ds=true)(i:Nat)(d:D)(hd:ds[i]? =some d):d.pure=true:=A5 ds hp d (aat hd)
theorem bc.bare{w w':World}{S S':Nat->Prop}{d:D}{v:Value}(h:bc w S d v)(hb:d.bare=true):bc w' S' d v:=by
 induction h with
 |undef v=>simp[D.bare]at hb
 |any ds v=>exact .any ds v
 |fN=>simp[D.bare]at hb
 |int k n=>exact .int k n
 |bool b=>exact .bool b
 |jd b=>exact .jd b
 |str l=>exact .str l
 |raw x=>exact .raw x
 |ak=>exact .ak
 |agg hl _ ih=>exact .agg hl fun i d v hd hv=>ih i d v hd hv (uN _ avQ i d hd)
 |aL hl _ ih=>exact .aL hl fun i d v hd hv=>ih i d v hd hv (uN _ avQ i d hd)
 |sl=>simp[D.bare]at hb
 |bR=>simp[D.bare]at hb
 |nu=>simp[D.bare]at hb
 |fn hl _ ih=>exact .fn hl fun i d v hd hv=>ih i d v hd hv (uN _ avQ i d hd)
 |fW hl _ ih=>exact .fW hl fun i d v hd hv=>ih i d v hd hv (uN _ avQ i d hd)
 |bK _ ih=>exact .bK (ih avQ)
mutual
def names:D->List Nat
 | .loc t _ _ _| .ba t _ _ _ _| .ic t _ _ _ _=>[t]
 | .agg ds| .aL ds| .fn _ ds| .fW _ ds=>bY ds
 | .bK _ d=>names d
 |_=>[]
def bY:List D->List Nat
 |[]=>[]
 |d::ds=>names d++bY ds
end
def BC(b:Bx):Bx:={b with k:=if b.k=1 then 2 else b.k}
theorem abZ(b:Bx):BC (BC b)=BC b:=by grind [BC]
mutual
theorem QA(bx:ab)(t:Nat):∀d:D,cK bx d t=if t∈names d then BC (bx t)else bx t
 | .loc s _ _ _=>auN
 | .ba s _ _ _ _=>auN
 | .ic s _ _ _ _=>auN
 | .nu _ _=>avO
 | .agg ds=>ash
 | .aL ds=>ash
 | .fn f ds=>ash
 | .fW f ds=>ash
 | .bK _ d=>by simp only[cK,names];exact QA bx t d
 | .undef=>avO
 | .any _=>avO
 | .fN=>avO
 | .jd=>avO
 | .int _ _=>avO
 | .bool _=>avO
 | .str _=>avO
 | .raw _=>avO
 | .ak=>avO
 | .sl _ _=>avO
 | .bR _ _=>avO
 | .omap _ _=>avO
theorem fP(bx:ab)(t:Nat):∀ds:List D,aS bx ds t=if t∈bY ds then BC (bx t)else bx t
 |[]=>by simp[aS,bY]
 |d::ds=>by
  simp[aS,bY,abr];rw[fP _ t ds,QA bx t d]
  grind [abZ]
end
theorem bc.nf{S S':Nat->Prop}{d:D}{v:Value}(h:bc w S d v)(hS:∀b,S b->S' b):bc w S' d v:=h.mono (fun _ _=>rfl) hS
theorem aG.II{S:Nat->Prop}{t:TypeId}{d:D}{v:Value}(h:aG w S ρ (.bK t d) v):∃u,v= .iface t u/\aG w S ρ d u:=by
 cases h with
 |pure h=>cases h with|bK h=>exact⟨_,rfl,.pure h⟩
 |bK h=>grind
def rm{x:Option D}{xs:Option (List D)}{r:List D}(h:jZ x xs=some r):∃y ys,x=some y/\xs=some ys/\r=y::ys:=by
 cases x<;>cases xs<;>simp[jZ]at h
 exact awN
def DB(X:Ctx)(ρ:bX)(bx:ab)(w:World)(S':Nat->Prop)(ns:List Nat):Prop:=
 (∀b,ay X ρ bx w b->S' b)/\∀t∈ns,lv (bx t).k->∀p,ρ t (bx t).ep=some p->S' p.b
theorem TY(d:D):d.FO.cells=d.cells.map D.tf:=by
 have key:∀c,c.cells=[c]->(D.tf c).cells=[D.tf c]:=by
  intro c h;unfold D.tf;split
  ·exact h
  ·rfl
 cases d with
 |agg ds=>rfl
 |_=>exact key _ rfl
mutual
theorem pA(h:aw X ρ σ bx a w){S':Nat->Prop}:∀(d d':D) (v:Value),DB X ρ bx w S' (names d)->aG w (ay X ρ bx w) ρ d v->aU bx d=some d'->bc w S' d' v
 | .loc t e i j,d',v,hS,hr,ho=>by
   simp only[aU]at ho;split at ho
   ·rename_i hc;obtain⟨he,hk⟩:=hc;split at ho
    ·rename_i d hd;split at ho
     ·rename_i hp;injection ho with ho;subst ho;obtain⟨p,VW,rfl⟩:=hr.mH;obtain⟨p',bu,tA,CA,jH,hh⟩:=h.box t hk;rw[he,VW]at bu;injection bu with bu;subst bu;obtain⟨⟨cur,jO,gz,us,ke⟩,uV,eK,bz⟩:=hh;refine .bR (off:=i * p.sz) (us:=us i) (hS.2 t (by simp[names]) hk p awN) rfl (fun m c hm=>?_) (fun m c hm=>(ke i d m c hd hm).2.2) (fun m c hm=>?_)
      ·exact avc
      ·exact((ke i d m c hd hm).2.1.fw (wu hp c (aat hm))).nf hS.1
     ·injection ho with ho;subst ho;obtain⟨p,VW,rfl⟩:=hr.mH;obtain⟨p',bu,tA,CA,jH,hh⟩:=h.box t hk;rw[he,VW]at bu;injection bu with bu;subst bu;obtain⟨⟨cur,jO,gz,us,ke⟩,uV,eK,bz⟩:=hh;have iO:∀(m:Nat) c',d.FO.cells[m]? =some c'->∃c,d.cells[m]? =some c/\c'=D.tf c:=fun m c' hm=>by grind [TY]
      refine .bR (off:=i * p.sz) (us:=us i) (hS.2 t (by simp[names]) hk p awN) rfl (fun m c' hm=>?_) (fun m c' hm=>?_) (fun m c' hm=>?_)
      ·exact avc
      ·exact awN
      ·obtain⟨c,hc,rfl⟩:=iO m c' hm;unfold D.tf;split
       ·rename_i hpc;exact((ke i d m c hd hc).2.1.fw hpc).nf hS.1
       ·exact .undef _
    ·cases ho
   ·cases ho
 | .ba t e sz o n,d',v,hS,hr,ho=>by
   simp only[aU]at ho;split at ho
   ·rename_i hc;obtain⟨he,hk,hz,hle⟩:=hc;split at ho
    ·rename_i hp;injection ho with ho;subst ho;have fO:mz bx sz (.ba t e sz o n)=some (((bx t).es.drop o).take n):=by simp_all[mz]
     obtain⟨p,off,cap,VW,tA,h0,ek,hn,cU,gQ,rfl⟩:=hr.rI;obtain⟨A,c,b,yF,us,hv,hA,tE,mf⟩:=qm h hr fO;injection hv with iH fX vT;have jH:((bx t).es.drop o).take n≠[]->b=p.b:=fun bh=>awN
     refine .sl (b:=b) (off:=yF) (us:=us) fX oM oM (fun bh=>⟨iH.trans (hA bh),?_⟩) tE (fun i d j c hi hj=>(mf i d j c hi hj).1) (fun i d j c hi hj=>(mf i d j c hi hj).2.2) (fun i d j c hi hj=>?_)
     ·exact arn
     ·exact((mf i d j c hi hj).2.1.fw (wu (A5 _ hp d (aat hi)) c (aat hj))).nf hS.1
    ·cases ho
   ·cases ho
 | .ic t e i j n,d',v,hS,hr,ho=>by
   simp only[aU]at ho;split at ho
   ·rename_i hc;obtain⟨he,hk⟩:=hc;split at ho
    ·rename_i d0 tz;split at ho
     ·rename_i qt;obtain⟨hle,hp,gW⟩:=qt;injection ho with ho;subst ho;have fO:mz bx 1 (.ic t e i j n)=some ((d0.cells.drop j).take n):=by simp_all[mz]
      obtain⟨p,off,cap,VW,ek,hn,cU,rfl⟩:=hr.IH;obtain⟨A,c,b,yF,us,hv,hA,tE,mf⟩:=qm h hr fO;injection hv with iH fX vT;have hm:(65536:Nat)<=maxLen:=awL
      have jH:(d0.cells.drop j).take n≠[]->b=p.b:=fun bh=>awN
      refine .sl (b:=b) (off:=yF) (us:=us) fX oM oM (fun bh=>⟨iH.trans (hA bh),?_⟩) tE (fun i d j c hi hj=>(mf i d j c hi hj).1) (fun i d j c hi hj=>(mf i d j c hi hj).2.2) (fun i d j c hi hj=>?_)
      ·exact arn
      ·exact((mf i d j c hi hj).2.1.fw (wu (A5 _ hp d (aat hi)) c (aat hj))).nf hS.1
     ·cases ho
    ·cases ho
   ·cases ho
 | .nu sz es,d',v,hS,hr,ho=>arj
 | .agg ds,d',v,hS,hr,ho=>by
   simp only[aU,aav]at ho;obtain⟨ds',ho,rfl⟩:=ho;obtain⟨vs,rfl,hl,hv⟩:=hr.rH;obtain⟨h1,h2⟩:=lH h ds ds' vs.toList au2 awN (fun i d v hd cq=>hv i d v hd awN) ho;exact .agg (hl.trans h1.symm) (fun i d v hd cq=>h2 i d v hd awN)
 | .aL ds,d',v,hS,hr,ho=>by
   simp only[aU,aav]at ho;obtain⟨ds',ho,rfl⟩:=ho;obtain⟨vs,rfl,hl,hv⟩:=hr.Q4;obtain⟨h1,h2⟩:=lH h ds ds' vs.toList au2 awN (fun i d v hd cq=>hv i d v hd awN) ho;exact .aL (hl.trans h1.symm) (fun i d v hd cq=>h2 i d v hd awN)
 | .fn f ds,d',v,hS,hr,ho=>by
   simp only[aU,aav]at ho;obtain⟨ds',ho,rfl⟩:=ho;obtain⟨vs,rfl,hl,hv⟩:=hr.zA;obtain⟨h1,h2⟩:=lH h ds ds' vs.toList au2 awN (fun i d v hd cq=>hv i d v hd awN) ho;exact .fn (hl.trans h1.symm) (fun i d v hd cq=>h2 i d v hd awN)
 | .fW f ds,d',v,hS,hr,ho=>by
   simp only[aU,aav]at ho;obtain⟨ds',ho,rfl⟩:=ho;obtain⟨vs,rfl,hl,hv⟩:=hr.Q3;obtain⟨h1,h2⟩:=lH h ds ds' vs.toList au2 awN (fun i d v hd cq=>hv i d v hd awN) ho;exact .fW (hl.trans h1.symm) (fun i d v hd cq=>h2 i d v hd awN)
 | .bK t d,d',v,hS,hr,ho=>by
   simp only[aU,aav]at ho;obtain⟨d'',ho,rfl⟩:=ho;obtain⟨u,rfl,hu⟩:=hr.II;exact .bK (pA h d d'' u au2 hu ho)
 | .undef,d',v,hS,hr,ho=>by simp only[aU,aaM]at ho;subst ho;exact .undef v
 | .any l,d',v,hS,hr,ho=>by simp only[aU,aaM]at ho;subst ho;exact .any l v
 | .int k n,d',v,hS,hr,ho=>arj
 | .bool b,d',v,hS,hr,ho=>arj
 | .jd,d',v,hS,hr,ho=>arj
 | .str s,d',v,hS,hr,ho=>arj
 | .raw x,d',v,hS,hr,ho=>arj
 | .fN,d',v,hS,hr,ho=>arj
 | .ak,d',v,hS,hr,ho=>arj
 | .sl sz es,d',v,hS,hr,ho=>arj
 | .bR d j,d',v,hS,hr,ho=>arj
theorem lH(h:aw X ρ σ bx a w){S':Nat->Prop}:∀(ds ds':List D) (vs:List Value),DB X ρ bx w S' (bY ds)->vs.length=ds.length->(∀(i:Nat) d v,ds[i]? =some d->vs[i]? =some v->aG w (ay X ρ bx w) ρ d v)->cE bx ds=some ds'->
 ds'.length=ds.length/\∀(i:Nat) d v,ds'[i]? =some d->vs[i]? =some v->bc w S' d v
 |[],ds',vs,hS,hl,hv,ho=>by simp_all[cE]
 |d::ds,ds',vs,hS,hl,hv,ho=>by
  simp only[cE]at ho;obtain⟨y,ys,h1,h2,rfl⟩:=rm ho;cases vs with
  |nil=>simp at hl
  |cons v vs=>
   simp only[bY]at hS;have hSd:DB X ρ bx w S' (names d):=⟨hS.1,fun t ht=>hS.2 t (agc _ ht)⟩
   have hSl:DB X ρ bx w S' (bY ds):=⟨hS.1,fun t ht=>hS.2 t (akc _ ht)⟩
   obtain⟨g1,g2⟩:=lH h ds ys vs hSl (by simpa using hl) (fun i d' v' hd cq=>hv (i+1) d' v' (by simpa using hd) awN) h2;refine⟨by simp[g1],fun i d' v' hd cq=>?_⟩;cases i with
   |zero=>
    simp only[aet,aaM]at hd cq;subst hd;subst cq;exact pA h d y v hSd (hv 0 d v sI sI) h1
   |succ i=>grind
end
theorem aw.got{w':World}(h:aw X ρ σ bx a w){d:D}{v:Value}(hp:bP w (ay X ρ bx w) d v w'):aw X ρ σ bx a w'/\aG w' (ay X ρ bx w') ρ d v:=by
 refine⟨h.ext hp.2,.pure (hp.1.nf fun b hb=>?_)⟩;rcases hb with hb|⟨h1,h2⟩
 ·exact⟨aeD hb.1 hp.2.size,hb.2⟩
 ·refine⟨h2,.inr (adz (adz h.nb h.fr.size) h1),fun t hk p bu=>?_⟩;obtain⟨p',afi,_,_,_,hh⟩:=h.box t avV;rw[bu]at afi;cases afi;have:=hh.lt;omega
def wb(h:aw X ρ σ bx a w)(ds:List D):DB X ρ bx w (ay X ρ (aS bx ds) w) (bY ds):=by
 have QN:∀t,(aS bx ds t).k=1->(bx t).k=1/\t∉bY ds/\(aS bx ds t).ep=(bx t).ep:=by
  intro t ht;rw[fP]at ht⊢;by_cases hn:t∈bY ds
  ·simp[hn,abo,BC]at ht⊢
   exact awN
  exact awN
 refine⟨fun b hb=>⟨hb.1,hb.2.1,fun t ht p hp=>?_⟩,fun t ht hk p hp=>?_⟩
 ·obtain⟨h1,_,h3⟩:=QN t ht;rw[h3]at hp;exact hb.2.2 t h1 p hp
 ·obtain⟨p',bu,_,_,jH,hh⟩:=h.box t hk;rw[hp]at bu;cases bu;refine⟨hh.lt,.inr jH.1,fun s hs q hq=>?_⟩;obtain⟨h1,h2,h3⟩:=QN s hs;rw[h3]at hq;exact h.inj s t q p h1 hk (fun e=>h2 (e▸ht)) hq hp
theorem aw.Qz(h:aw X ρ σ bx a w)(ds:List D)(bC:∀s∈bY ds,X.lo<=s):aw X ρ σ (aS bx ds) a w:=by
 refine h.less fun s=>?_;rw[fP];by_cases hn:s∈bY ds
 ·right;simp only[hn,abo,BC];refine⟨bC s hn,?_,?_⟩
  ·exact awN
  ·refine⟨trivial,fun hk=>⟨?_,trivial,trivial,trivial⟩,fun hk=>⟨?_,trivial⟩⟩
   ·grind [lv1]
   exact awN
 exact awN
theorem aw.frozen(h:aw X ρ σ bx a w)(bC:X.lo=0)(ds:List D):aw X ρ σ (aS bx ds) a w:=h.Qz ds fun s _=>awO
theorem A6{d:D}(h:d.pure=true):names d=[]:=by
 have hL:∀ds,(∀d∈ds,d.pure=true->names d=[])->D.aH ds=true->bY ds=[]:=by
  intro ds;induction ds<;>simp_all[D.aH,bY]
 match d with
 | .agg ds| .aL ds| .fn _ ds| .fW _ ds=>exact hL ds (fun d hd hp=>A6 hp) avP
 | .bK _ d=>simp[names];exact A6 avP
 | .loc ..| .ba ..| .ic ..| .omap ..=>simp[D.pure]at h
 | .int ..| .bool _| .str _| .raw _| .ak| .sl ..| .nu ..| .bR ..| .undef| .fN| .any _| .jd=>simp[names]
theorem AW:∀(ds ds':List D),cE bx ds=some ds'->ds'.length=ds.length/\∀(i:Nat) d',ds'[i]? =some d'->∃d,ds[i]? =some d/\aU bx d=some d'
 |[],ds',h=>by grind [cE]
 |d::ds,ds',h=>by
  obtain⟨y,ys,h1,h2,rfl⟩:=rm h;obtain⟨g1,g2⟩:=AW ds ys h2
  exact awN
theorem Hh{d d':D}(h:aU bx d=some d'):d'.cells.length=d.cells.length/\∀(j:Nat) c',d'.cells[j]? =some c'->∃c,d.cells[j]? =some c/\aU bx c=some c':=by
 have single:d.cells=[d]->d'.cells=[d']->d'.cells.length=d.cells.length/\∀(j:Nat) c',d'.cells[j]? =some c'->∃c,d.cells[j]? =some c/\aU bx c=some c':=awN
 cases d with
 |agg ds=>
  simp only[aU,aav]at h;obtain⟨es,he,rfl⟩:=h;exact AW ds es he
 |loc t e i j=>
  refine single rfl ?_;simp only[aU]at h;split at h
  ·split at h
   ·split at h<;>(injection h with h;subst h;rfl)
   ·exact awI
  ·exact awI
 |ba t e sz o n=>
  refine single rfl ?_;simp only[aU]at h;split at h
  ·split at h
   ·injection h with h;subst h;rfl
   ·exact awI
  ·exact awI
 |ic t e i j n=>
  refine single rfl ?_;simp only[aU]at h;split at h
  ·split at h
   ·split at h
    ·injection h with h;subst h;rfl
    ·exact awI
   ·exact awI
  ·exact awI
 |aL ds=>simp only[aU,aav]at h;obtain⟨es,he,rfl⟩:=h;exact single rfl rfl
 |fn f ds=>simp only[aU,aav]at h;obtain⟨es,he,rfl⟩:=h;exact single rfl rfl
 |fW f ds=>simp only[aU,aav]at h;obtain⟨es,he,rfl⟩:=h;exact single rfl rfl
 |bK t d=>simp only[aU,aav]at h;obtain⟨es,he,rfl⟩:=h;exact single rfl rfl
 |omap=>cases h
 |_=>injection h with h;subst h;exact single rfl rfl
def PB(d:D):∀(j:Nat) c,d.cells[j]? =some c->∀t∈names c,t∈names d:=by
 have mem:∀(ds:List D) (j:Nat) c,ds[j]? =some c->∀t∈names c,t∈bY ds:=by
  intro ds;induction ds<;>grind [bY]
 intro j c hj t ht;cases d with
 |agg ds=>exact mem ds j c hj t ht
 |_=>
  cases j with
  |zero=>simp[D.cells]at hj;simp[*]
  |succ j=>simp[D.cells]at hj
def Wo:∀(ds:List D) (j:Nat) c,ds[j]? =some c->∀t∈names c,t∈bY ds
 :=by intro a;induction a<;>grind [bY]
theorem aw.Wk(h:aw X ρ σ bx a w)(bC:X.lo=0){s:Nat}{es:List D}(hk:(bx s).k=1)(ho:cE bx (bx s).es=some es):aw X ρ σ (dO bx s es) a w:=by
 have h1:=h.frozen bC (bx s).es;have hL:=wb h (bx s).es;have bh:∀t,t≠s->dO bx s es t=aS bx (bx s).es t:=fun t ht=>by simp[dO,ah,ht]
 have iu:∀t,(dO bx s es t).k=(aS bx (bx s).es t).k/\(dO bx s es t).ep=(aS bx (bx s).es t).ep/\(dO bx s es t).sz=(aS bx (bx s).es t).sz/\(dO bx s es t).ty=(aS bx (bx s).es t).ty:=fun t=>by by_cases ht:t=s<;>simp_all[dO,ah]
 have hS:ay X ρ (dO bx s es) w=ay X ρ (aS bx (bx s).es) w:=by grind [ay]
 have Es:(aS bx (bx s).es s).ep=(bx s).ep/\(aS bx (bx s).es s).k≠3/\(aS bx (bx s).es s).es=(bx s).es:=by grind [fP,BC]
 obtain⟨gl,gg⟩:=AW _ _ ho;refine⟨h1.fr,h1.s0,h1.nb,h1.mb,h1.ec,h1.size,by rw[hS];exact h1.marks,h1.qA,h1.sP,fun t=>by rw[hS];exact h1.tmps t,by rw[hS];exact h1.fN,fun t ht=>?_,fun t t' p p' ht rC hn hp bu=>?_,fun t e p hp=>by rw[(iu t).2.1];exact h1.oD t e p hp,h1.r0,h1.hold,h1.gB,h1.yc,h1.y0 bC _ _,h1.y0,h1.lU,h1.maps.of (fun t ht=>?_) (fun _ _ _ h=>h) (fun _ _ _ _ _ h=>h) (fun _ h=>h)⟩
 ·rw[(iu t).1]at ht;obtain⟨p,hp,h2,h3,h4,h5⟩:=h1.box t ht;refine⟨p,awN,awN,awN,awN,?_⟩;rw[hS];by_cases pR:t=s
  ·subst pR;have e:(dO bx t es t).es=es:=by simp[dO,ah]
   rw[e];obtain⟨q,hq,_,_,_,hh⟩:=h.box t avV;rw[Es.1]at hp;rw[hp]at hq;injection hq with hq;subst hq;obtain⟨⟨cur,jO,gz,us,ke⟩,uV,eK,bz⟩:=hh;refine⟨⟨cur,jO,gz,us,fun i d' j c' hi hj=>?_⟩,awN,eK,fun i d' hi=>?_⟩
   ·obtain⟨d,hd,hod⟩:=gg i d' hi;obtain⟨c,hc,VT⟩:=(Hh hod).2 j c' hj;obtain⟨u1,u2,u3⟩:=ke i d j c hd hc;refine⟨u1,.pure (pA h c c' _ ⟨hL.1,fun t' rC=>hL.2 t' (Wo _ _ _ hd t' (PB d j c hc t' rC))⟩ u2 VT),u3⟩
   grind [Hh]
  exact awN
 ·rw[(iu t).1]at ht;rw[(iu t').1]at rC;rw[(iu t).2.1]at hp;rw[(iu t').2.1]at bu;exact h1.inj t t' p p' ht rC hn hp bu
 exact awN
def SF(h:aw X ρ σ bx a w){lo t:Nat}(bC:X.lo<=lo){s:Env×ab}(hf:Ck lo t σ bx=some s):aw X ρ s.1 s.2 a w:=by
 unfold Ck at hf;split at hf
 ·rename_i hc;rw[aav]at hf;obtain⟨v,ho,rfl⟩:=hf;have hn:∀s∈bY [σ t],X.lo<=s:=fun s hs=>by
   simp only[bY,aez]at hs;rcases hc.2 with h0|h0
   ·exact awO
   ·unfold afM at h0;split at h0
    ·exact arq
    ·exact arq
    ·exact arq
    grind [A6]
  have h1:=h.Qz [σ t] hn;have hL:=wb h [σ t];have e1:aS bx [σ t]=cK bx (σ t):=by simp[aS]
  rw[e1]at h1 hL;simp only[bY,aez]at hL;have hd:eI≠t:=awN
  refine {h1 with marks:= ?_,tmps:=fun x=>?_}
  ·have:=h1.marks;simp_all[ah]
  ·simp only[ah];split
   ·rename_i hx;subst hx;exact .pure (pA h (σ x) v _ hL (h.tmps x) ho)
   ·exact h1.tmps x
 ·split at hf
  ·rename_i hc;split at hf
   ·rename_i hk;rw[aav]at hf;obtain⟨es,ho,rfl⟩:=hf;exact h.Wk oM hk ho
   exact awN
  ·exact awE
theorem yt{lo:Nat}(bC:X.lo<=lo):∀(ts:List Nat) {σ:Env} {bx:ab} {s:Env×ab},aw X ρ σ bx a w->pt lo ts σ bx=some s->aw X ρ s.1 s.2 a w
 |[],σ,bx,s,h,hf=>by grind [pt]
 |t::ts,σ,bx,s,h,hf=>by
  simp only[pt,aeP]at hf;obtain⟨s1,h1,h2⟩:=hf;exact yt bC ts (SF h bC h1) h2
theorem Calls.mono{f:FuncId}{args:Array Value}{R R':Ending->World->Prop}(h:Calls P f args w R)(hr:∀e w',R e w'->R' e w'):Calls P f args w R':=
 fun cs=>let ⟨e,w',fr,r,rest⟩:=h cs;⟨e,w',fr,hr _ _ r,rest⟩
def H4(P:Program)(f:FuncId)(vs:Array Value)(w:World)(G:Value->World->Prop):Prop:=
 ((callFunc f vs).run P w= .ok (.enter f vs) w/\Calls P f vs w (fun e w'=>∃v,e= .returned v/\G v w'))\/
 (∃v w',(callFunc f vs).run P w= .ok (.value v) w'/\G v w')
def pe(v:Value):PanicEntry:={v,recovered:=false}
def qR(P:Program)(f:FuncId)(vs:Array Value)(w:World)(G Gp:Value->World->Prop):Prop:=
 ((callFunc f vs).run P w= .ok (.enter f vs) w/\Calls P f vs w (fun e w'=>(∃v,e= .returned v/\G v w')\/∃v,e= .panicked [pe v]/\Gp v w'))\/
 (∃v w',(callFunc f vs).run P w= .ok (.value v) w'/\G v w')
theorem H4.fw{f:FuncId}{vs:Array Value}{G Gp:Value->World->Prop}(h:H4 P f vs w G):qR P f vs w G Gp:=by
 rcases h with⟨h1,h2⟩|h
 ·exact .inl ⟨h1,Calls.mono h2 fun e w' h=> .inl h⟩
 ·exact .inr h
theorem qR.mono{f:FuncId}{vs:Array Value}{G Gp G' Gp':Value->World->Prop}(h:qR P f vs w G Gp)(h1:∀v w',G v w'->G' v w')(h2:∀v w',Gp v w'->Gp' v w'):qR P f vs w G' Gp':=by
 rcases h with⟨k1,k2⟩|⟨v,w',k1,k2⟩
 ·refine .inl ⟨k1,Calls.mono k2 fun e w' h=>?_⟩
  exact awN
 ·exact .inr ⟨v,w',k1,h1 _ _ k2⟩
theorem av.carried{f:FuncId}{ds:List D}{d:D}(h:av P f ds d){S:Nat->Prop}{vs:Array Value}{G:Value->World->Prop}(hS:∀b,S b->b<w.heap.size)(hg:bc w S .fN undef)(hl:vs.size=ds.length)
 (hv:∀(i:Nat) x v,ds[i]? =some x->vs[i]? =some v->bc w S x v) (hG:∀v w',bP w S d v w'->G v w'):H4 P f vs w G:=by
 rcases h w S vs hS hg hl hv with⟨h1,h2⟩|⟨v,w',h1,h2⟩
 ·exact .inl ⟨h1,Calls.mono h2 fun e w' ⟨v,he,hp⟩=>⟨v,he,hG v w' hp⟩⟩
 ·exact .inr ⟨v,w',h1,hG v w' h2⟩
def az(P:Program)(f:FuncId)(base:Nat)(ds:List D)(bx:ab)(Q Qp:D->ab->Prop):Prop:=
 ∀(X:Ctx) (ρ:bX) (σ:Env) (a:Act) (w:World) (vs:Array Value),aw X ρ σ bx a w->X.lo=0->vs.size=ds.length->(∀(i:Nat) x v,ds[i]? =some x->vs[i]? =some v->aG w (ay X ρ bx w) ρ x v)->
  qR P f vs w (fun v w'=>∃d bx' ρ',Q d bx'/\aw X ρ' σ bx' a w'/\aG w' (ay X ρ' bx' w') ρ' d v) (fun v w'=>∃d bx' ρ',Qp d bx'/\aw X ρ' σ bx' a w'/\aG w' (ay X ρ' bx' w') ρ' d v)
def Bv(E:Nat->Prop)(J:ab->(Nat->Option Obj)->Prop):Prop:=∀c h h',J c h->(∀k,E k->h' k=h k)->J c h'
def DE(P:Program)(X:Ctx)(l:Nat)(E:Nat->Prop)(rc:Loop)(base ext:Nat)(items:List (List D))(J:Nat->ab->(Nat->Option Obj)->Prop)(Jx:Code->ab->(Nat->Option Obj)->Prop)(σ:Env)(a:Act):Prop:=
 ∀(n:Nat) (it:List D) (ρ:bX) (bx:ab) (w:World) (us:Array Value),items[n]? =some it->aw X ρ σ bx a w->ρ.hold l=some (.loop rc)->J n (bg base bx) ρ.hold->us.size=it.length->
  (∀(i:Nat) x v,it[i]? =some x->us[i]? =some v->bc w (ay X ρ bx w) x v)->
  ∃f tm as bd,(Instr.yield l us).run P w= .ok (.round l f tm as bd) w/\∀m,RoundIn Fence.wide m P l f tm as bd w fun e w2=>∃ρ2 aT b,e= .returned (.bool b)/\(∀s,base<=s->s<base+ext->aT s=bx s)/\
   (∀(X1:Ctx) (σ1:Env) (a1:Act),X1.S0=X.S0->X1.n0=X.n0->(∀k,E k->X1.E k)->aw X1 ρ σ1 bx a1 w->X1.Y (bg X1.lo aT) ρ2.hold->aw X1 ρ2 σ1 aT a1 w2)/\
   (∀k,E k->∃q,ρ2.hold k=some (.loop q))/\
   ((b=true/\ρ2.hold l=some (.loop rc)/\J (n+1) (bg base aT) ρ2.hold)\/(b=false/\∃jump,ρ2.hold l=some (.loop {rc with state:=.done,pending:=some jump})/\Jx jump (bg base aT) ρ2.hold))
structure aau(X:Ctx)(ρ:bX)(l:Nat)(E:Nat->Prop)(J:Nat->ab->(Nat->Option Obj)->Prop)(Jx:Code->ab->(Nat->Option Obj)->Prop):Prop where
 own:E l
 le:X.w0.heap.size<=l
 new:X.r0.hold l=none
 x_:∀k,E k->k=l\/X.E k
 lp:∀k,E k->∃q,ρ.hold k=some (.loop q)
 j:∀n,Bv E (J n)
 jx:∀j,Bv E (Jx j)
def T_(P:Program)(f:FuncId)(caps:List D)(items:List (List D))(ext:Nat):Prop:=
 ∀(X:Ctx) (ρ:bX) (σ:Env) (bx:ab) (a:Act) (w:World) (l:Nat) (E:Nat->Prop) (base:Nat) (rc:Loop) (vs:Array Value) (J:Nat->ab->(Nat->Option Obj)->Prop) (Jx:Code->ab->(Nat->Option Obj)->Prop),aw X ρ σ bx a w->X.lo=0->ρ.hold l=some (.loop rc)->aau X ρ l E J Jx->
  vs.size=caps.length->(∀(i:Nat) x v,caps[i]? =some x->vs[i]? =some v->bc w (ay X ρ bx w) x v)->J 0 (bg base bx) ρ.hold->DE P X l E rc base ext items J Jx σ a->
  (callFunc f (#[.func (.yield l) #[] #[]]++vs)).run P w= .ok (.enter f (#[.func (.yield l) #[] #[]]++vs)) w/\
  Calls P f (#[.func (.yield l) #[] #[]]++vs) w fun e w'=>∃v ρ' bx',e= .returned v/\aw X ρ' σ bx' a w'/\
   ((ρ'.hold l=some (.loop rc)/\J items.length (bg base bx') ρ'.hold)\/∃jump,ρ'.hold l=some (.loop {rc with state:=.done,pending:=some jump})/\Jx jump (bg base bx') ρ'.hold)
def xH(P:Program)(f:FuncId)(b:Bx)(items:List (List D))(pd:Option D)(ext:Nat):Prop:=
 ∀(X:Ctx) (ρ:bX) (σ:Env) (bx:ab) (a:Act) (w:World) (l:Nat) (E:Nat->Prop) (base e:Nat) (rc:Loop) (u:Value) (J:Nat->ab->(Nat->Option Obj)->Prop) (Jx:Code->ab->(Nat->Option Obj)->Prop),aw X ρ σ bx a w->X.lo=0->ρ.hold l=some (.loop rc)->aau X ρ l E J Jx->
  bx (base+1)=⟨e,1,b.sz,b.ty,b.es⟩->aG w (ay X ρ bx w) ρ (.loc (base+1) e 0 0) u->J 0 (bg base bx) ρ.hold->DE P X l E rc base ext items J Jx σ a->
  (callFunc f #[.func (.yield l) #[] #[],u]).run P w= .ok (.enter f #[.func (.yield l) #[] #[],u]) w/\
  Calls P f #[.func (.yield l) #[] #[],u] w fun e w'=>(∃v ρ' bx',e= .returned v/\aw X ρ' σ bx' a w'/\
   ((pd=none/\ρ'.hold l=some (.loop rc)/\J items.length (bg base bx') ρ'.hold)\/∃jump,ρ'.hold l=some (.loop {rc with state:=.done,pending:=some jump})/\Jx jump (bg base bx') ρ'.hold))\/
   ∃d v ρ' bx',pd=some d/\e= .panicked [pe v]/\aw X ρ' σ bx' a w'/\aG w' (ay X ρ' bx' w') ρ' d v/\J items.length (bg base bx') ρ'.hold
structure Ok(P:Program)(O:ik):Prop where
 to:∀f ds d,O.to f ds d->av P f ds d
 pT:∀f base ds bx Q Qp,O.pT f base ds bx Q Qp->az P f base ds bx Q Qp
 it:∀f caps items ext,O.it f caps items ext->T_ P f caps items ext
 CJ:∀f b items pd ext,O.CJ f b items pd ext->xH P f b items pd ext
def Ctx.jL(X:Ctx)(lo:Nat)(Y:ab->(Nat->Option Obj)->Prop):Ctx:={X with lo:=lo,Y:=Y}
theorem aw.jL(h:aw X ρ σ bx a w){lo:Nat}{Y:ab->(Nat->Option Obj)->Prop}(yc:∀c h h',Y c h->(∀b o,h b=some o->o≠ .deferred (some [])->h' b=some o)->Y c h')(inv:Y (bg lo bx) ρ.hold)(y0:lo=0->∀c h,Y c h):aw (X.jL lo Y) ρ σ bx a w:=
 ⟨h.fr,h.s0,h.nb,h.mb,h.ec,h.size,h.marks,h.qA,h.sP,h.tmps,h.fN,h.box,h.inj,h.oD,h.r0,h.hold,h.gB,yc,inv,y0,h.lU,h.maps.of (fun _ h=>⟨h,rfl,rfl⟩) (fun _ _ _ h=>h) (fun _ _ _ _ _ h=>h) (fun _ h=>h)⟩
theorem aw.Wu{lo:Nat}{Y:ab->(Nat->Option Obj)->Prop}(h:aw (X.jL lo Y) ρ σ bx a w)(vt:X.lo=0)(xY:∀c h,X.Y c h):aw X ρ σ bx a w:=
 ⟨h.fr,h.s0,h.nb,h.mb,h.ec,h.size,h.marks,h.qA,h.sP,h.tmps,h.fN,h.box,h.inj,h.oD,h.r0,h.hold,h.gB,fun _ _ _ _ _=>xY _ _,xY _ _,fun _ c h=>xY c h,h.lU,h.maps.of (fun _ h=>⟨h,rfl,rfl⟩) (fun _ _ _ h=>h) (fun _ _ _ _ _ h=>h) (fun _ h=>h)⟩
def Ctx.free(X:Ctx):Ctx:=X.jL 0 fun _ _=>True
theorem aw.free(h:aw X ρ σ bx a w):aw X.free ρ σ bx a w:=h.jL (fun _ _ _ _ _=>trivial) trivial fun _ _ _=>trivial
theorem aw.Dw{ρ':bX}{σ':Env}{bx':ab}{a':Act}{w':World}(h:aw X ρ σ bx a w)(h':aw X.free ρ' σ' bx' a' w')(inv:X.Y (bg X.lo bx') ρ'.hold):aw X ρ' σ' bx' a' w':=
 (show aw _ _ _ _ a' w' from h'.jL h.yc inv h.y0)
theorem fE{m n:Nat}(h:m<=n)(bx:ab):bg m (bg n bx)=bg m bx:=by grind [bg]
def P6(P:Program)(C:Calc)(X:Ctx):Prop:=∃E:Nat->Prop,(∀k,E k->X.E k)/\(∀k,E k->∃q,X.r0.hold k=some (.loop q))/\(∀c h,X.Y c h->∀k,E k->∃q,h k=some (.loop q))/\Bv E X.Y/\
 ∀items gs l sO,C.yl=some (items,gs,l,sO)->C.aN<=sO/\∀(Z:Ctx),Z.S0=X.S0->Z.n0=X.n0->Z.lo=X.lo->Z.Y=X.Y->(∀k,E k->Z.E k)->(∀ρ σ bx a w,aw Z ρ σ bx a w->∃σ0 a0,aw X ρ σ0 bx a0 w)->
 ∀(hi:Nat) (ρ:bX) (σ:Env) (bx:ab) (a:Act) (w:World) (us:Array Value) (ds:List D),hi<=sO->aw Z ρ σ bx a w->items[(bx gs).sz]? =some ds->us.size=ds.length->
 (∀(i:Nat) x v,ds[i]? =some x->us[i]? =some v->bc w (ay Z ρ bx w) x v)->
  ∃f tm as bd,(Instr.yield l us).run P w= .ok (.round l f tm as bd) w/\∀m,RoundIn Fence.wide m P l f tm as bd w fun e w2=>∃ρ2 bx1 b,e= .returned (.bool b)/\
   aw Z ρ2 σ (yB C.lo hi gs bx bx1 (if b then(bx gs).sz+1 else items.length+1)) a w2
def Bt{C:Calc}(hy:C.yl=none)(hY:∀c h,X.Y c h):P6 P C X:=
 ⟨fun _=>False,fun _ h=>h.elim,fun _ h=>h.elim,fun _ _ _ _ h=>h.elim,fun _ _ _ _ _=>hY _ _,fun _ _ _ _ h=>awN⟩
structure Good(P:Program)(C:Calc)(X:Ctx):Prop where
 ok:Ok P C.o
 lo:X.lo<=C.lo
 base:X.lo<=C.base
 RW:P6 P C X
 df:C.df=true->X.md=2
 it:X.md=3->∀f c i e,¬C.o.it f c i e
 CJ:X.md=3->∀f b i d e,¬C.o.CJ f b i d e
def yo(h:aw X ρ σ bx a w)(hG:Good P C X){f:FuncId}{ds:List D}{vs:Array Value}(hl:vs.size=ds.length)
 (hv:∀(i:Nat) x v,ds[i]? =some x->vs[i]? =some v->aG w (ay X ρ bx w) ρ x v) {K:Cl->D->ab->Prop} (hc:c_ C f ds bx K):
 qR P f vs w (fun v w'=>∃c d bx' ρ',(∀x,c≠ .cd x)/\K c d bx'/\aw X ρ' σ bx' a w'/\aG w' (ay X ρ' bx' w') ρ' d v) (fun v w'=>∃d bx' ρ',K (.cd d) .undef bx'/\aw X ρ' σ bx' a w'/\aG w' (ay X ρ' bx' w') ρ' d v):=by
 have hC:=hG.ok.to;rcases hc with⟨d,hp,me,hK⟩|⟨ds',d,ho,me,hb,hK⟩|⟨ds',d,bC,ho,me,hK⟩|⟨Q,Qp,bC,me,hK,hKp⟩
 ·exact((hC f ds d me).carried (S:=ay X ρ bx w) (fun b hb=>hb.1) (h.fN.fw rfl) hl (fun i x v hx cq=>(hv i x v hx cq).fw (ye _ hp i x hx)) fun v w' hp=>⟨.n,d,bx,ρ,awN,hK,h.got hp⟩).fw
 ·have hL:DB X ρ bx w (fun b=>b<w.heap.size) (bY ds):=⟨fun b hb=>hb.1,fun t _ hk p hp=>by
   obtain⟨p',bu,_,_,_,hh⟩:=h.box t hk;rw[hp]at bu;injection bu with bu;subst bu;exact hh.lt⟩
  obtain⟨g1,g2⟩:=lH h ds ds' vs.toList hL awN (fun i x v hx cq=>hv i x v hx awN) ho;exact((hC f ds' d me).carried (S:=fun b=>b<w.heap.size) (fun b hb=>hb) ((h.fN.fw rfl).mono (fun _ _=>rfl) (fun b hb=>hb.1)) (hl.trans g1.symm) (fun i x v hx cq=>g2 i x v hx awN) fun v w' hp=>⟨.ra,d,bx,ρ,awN,hK,h.ext hp.2,.pure (hp.1.bare hb)⟩).fw
 ·have hL:=wb h ds;obtain⟨g1,g2⟩:=lH h ds ds' vs.toList hL awN (fun i x v hx cq=>hv i x v hx awN) ho;exact((hC f ds' d me).carried (S:=ay X ρ (aS bx ds) w) (fun b hb=>hb.1) ((h.frozen avn ds).fN.fw rfl) (hl.trans g1.symm) (fun i x v hx cq=>g2 i x v hx awN) fun v w' hp=>⟨.wa,d,aS bx ds,ρ,awN,hK,(h.frozen avn ds).got hp⟩).fw
 ·obtain⟨E,hE,sL,hlp,Nw,_⟩:=hG.RW;have hs:=h.sub (E:=fun _=>False) (N:=X.N) (ml:=X.ml) (md:=X.md) h.qA (fun _ h=>h.elim) h.size h.marks (adz h.sP h.fr.size) h.tmps;have back:∀ρ' bx' w',X.Y (bg X.lo bx') ρ'.hold->aw (X.sub ρ bx w (fun _=>False) X.N X.ml X.md) ρ' σ bx' a w'->aw X ρ' σ bx' a w':=fun ρ' bx' w' hy h'=>h.back rfl rfl h' (fun _ h=>h.elim) (fun _ h=>h.elim) (fun _ h=>h.elim) hy;have hinv:∀ρ' bx' w',bg C.lo bx'=bg C.lo bx->aw (X.sub ρ bx w (fun _=>False) X.N X.ml X.md) ρ' σ bx' a w'->X.Y (bg X.lo bx') ρ'.hold:=fun ρ' bx' w' hc h'=>by
   rw[<-fE hG.lo,hc,fE hG.lo];refine Nw _ _ _ h.inv fun k hk=>?_;obtain⟨q,hq⟩:=hlp _ _ h.inv k hk;rw[hq];exact h'.gB k _ hq fun he=>he.elim id (h.Wv hq rfl)
  have hX:(∀d bx',Q d bx'->∀ρ' w',aw (X.sub ρ bx w (fun _=>False) X.N X.ml X.md) ρ' σ bx' a w'->aw X ρ' σ bx' a w')/\∀d bx',Qp d bx'->∀ρ' w',aw (X.sub ρ bx w (fun _=>False) X.N X.ml X.md) ρ' σ bx' a w'->aw X ρ' σ bx' a w':=by
   rcases bC with h0|⟨h1,h2⟩
   ·have x0:X.lo=0:=avn
    exact⟨fun _ _ _ _ _ h'=>back _ _ _ (h.y0 x0 _ _) h',fun _ _ _ _ _ h'=>back _ _ _ (h.y0 x0 _ _) h'⟩
   exact awN
  refine(hG.ok.pT _ _ _ _ _ _ me (X.sub ρ bx w (fun _=>False) X.N X.ml X.md) ρ σ a w vs hs rfl hl hv).mono ?_ ?_
  ·rintro v w' ⟨d,bx',ρ',g1,g2,g3⟩;have g2:=hX.1 d bx' g1 _ _ g2;rcases hK d bx' g1 with hk|⟨h0,r,r',e1,e2,hk⟩
   ·exact⟨.wa,d,bx',ρ',awN,hk,g2,g3⟩
   ·have ho:cE bx' [d]=some [r]:=by simp[cE,e1,jZ]
    obtain⟨_,g5⟩:=lH g2 [d] [r] [v] (wb g2 [d]) rfl (fun i x u hx hu=>by
     rcases i with _|i
     ·simp at hx hu;subst hx;subst hu;exact g3
     grind) ho
    exact⟨.wa,r',aS bx' [d],ρ',awN,hk,g2.frozen avn [d],.pure (aG.yM e2 (g5 0 r v rfl rfl))⟩
  ·rintro v w' ⟨d,bx',ρ',g1,g2,g3⟩;exact⟨d,bx',ρ',hKp d bx' g1,hX.2 d bx' g1 _ _ g2,g3⟩
end Go.V
