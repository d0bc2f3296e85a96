/- The reference of journals: what is written next; appended to. -/
import Derived.Test.YtkgloohlmogakaaGreatDoorB30
import Derived.Test.YtkgloohlmogakaaGreatDoorB29
import Derived.Test.YtkgloohlmogakaaGreatDoorB16
set_option linter.unusedSimpArgs false
set_option linter.unusedVariables false
set_option maxRecDepth 100000
namespace Go.V.Jn
open Go.Proofs Go.RowKit Go.V.Lx Go.V.Gr Go.V.Ty Go.V.St
theorem o4{bx:ae}{ts:List Nat}{el esz:Nat}{x:D}{xs:List D}(h:aW bx ts el esz x xs)(hp:D.aF xs=true):∃r,bk r (.sl esz xs)/\∀bx':ae,(∀t,t∈ts->bx' t=bx t)->bf bx' x=some r:=by
 rcases h with⟨rfl,rfl⟩|⟨t,e,ht,rfl,hb⟩
 ·exact⟨.nilsl,.nil _,fun _ _=>qG⟩
 ·refine⟨.sl esz xs,.refl _,fun bx' hb'=>?_⟩;rw[jv,hb' t ht,hb];exact cU _ _ _ _ _ _ (by decide) rfl hp
theorem HS{bx:ae}{ts:List Nat}{el esz:Nat}{x:D}{xs:List D}(h:aW bx ts el esz x xs)(hn:xs≠[])(hp:D.aF xs=true):∀bx':ae,(∀t,t∈ts->bx' t=bx t)->bf bx' x=some (.sl esz xs):=by
 rcases h with⟨rfl,rfl⟩|⟨t,e,ht,rfl,hb⟩
 ·exact absurd rfl hn
 ·intro bx' hb';rw[jv,hb' t ht,hb];exact cU _ _ _ _ _ _ (by decide) rfl hp
def Pz(s t el:Nat)(x:D)(m:List D)(bx:ae):Prop:=
 (x= .nilsl/\m=[])\/∃e es,x= .osl s e 1 0 es.length/\bx s=⟨e,1,1,el,es⟩/\cg bx es=some m/\D.aF m=true/\∀q∈bq es,q=t
theorem Pz.dF{s t el:Nat}{x:D}{m:List D}{bx:ae}(h:Pz s t el x m bx)(hst:s≠t):
 ∃bx0,(bx0=bx\/∃l,(bx s).k=1/\cg bx (bx s).es=some l/\bx0=Go.V.dF bx s l)/\(∀q,q≠s->q≠t->bx0 q=bx q)/\aW bx0 [s] el 1 x m:=by
 rcases h with⟨rfl,rfl⟩|⟨e,es,rfl,h1,h2,h4,h5⟩
 ·exact⟨bx,.inl rfl,fun _ _ _=>rfl,.nil _ _ _ _⟩
 ·have hes:(bx s).es=es:=by rw[h1]
  have hf:cv bx es s=bx s:=by rw[dI,if_neg (fun hm=>hst (h5 _ hm))]
  refine⟨_,.inr ⟨m,by rw[h1],by rw[hes];exact h2,rfl⟩,fun q hq hq2=>?_,.inr ⟨s,e,by simp,?_,?_⟩⟩
  ·unfold Go.V.dF;rw[hes,aA hq,dI,if_neg (fun hm=>hq2 (h5 _ hm))]
  ·rw[(ot _ _ h2).1]
  ·unfold Go.V.dF;rw[hes,cO,hf,h1]
theorem oZ{x:D}{q:Nat}:∀ {l:List D} {i:Nat},q∈bq (l.set i x)->q∈bq l\/q∈Go.V.names x
 |[],i,h=>by simp[bq]at h
 |d::ds,0,h=>by
  rw[List.set_cons_zero]at h;simp only[bq,List.mem_append]at h⊢;rcases h with h|h
  ·exact .inr h
  ·exact .inl (.inr h)
 |d::ds,i+1,h=>by
  rw[List.set_cons_succ]at h;simp only[bq,List.mem_append]at h⊢;rcases h with h|h
  ·exact .inl (.inl h)
  ·rcases oZ h with h|h
   ·exact .inl (.inr h)
   ·exact .inr h
end Go.V.Jn
