/- Lemmas on plain data and programs: part B15. -/
import Derived.Test.YtkgloohlmogakaaGreatDoorB14
set_option linter.all false
set_option maxHeartbeats 8000000
set_option maxRecDepth 100000
namespace Go.V.Ty
open Go.Proofs Go.Proofs.Tryz Go.RowKit Go.V.Lx Go.V.Gr
def LZ(CJ:zM)(g:aS)(hg:mK g)(oD:∀x∈g.rules,x.parts.length<=65536):ao prog 204 [g.d] (o7 (c_ g)):=by
 rw[<-I9];exact(aI mixed (L1 CJ (fun g s h=>Nat.le_trans (Oq _ _) h) g hg oD) rfl aj rfl).to (fun _ _ h=>h) (fun d' bx' ⟨r,h1,h2⟩=>⟨r,h1,h2⟩)
def O8(CJ:zM)(g:aS)(hg:mK g)(oD:∀x∈g.rules,x.parts.length<=65536):ao prog 144 [g.d] (.int .i64 (jK g)):=by
 refine aw mixed (fn:=f144) (tab:=[]) ?_ rfl aj rfl;refine ax _ [.tmp 2] _ rfl rfl rfl aj ?_;simp(disch:=omega) only[go_sem,aS.d,strs];refine av (LZ CJ g hg oD) (pg g) ?_;by_cases h0:(c_ g).2=0
 ·have hr:=xd h0;obtain⟨k1,k2⟩:=MP h0;simp(disch:=omega) only[go_sem,o7,h0,hr,decide_true,nT,aS.d,strs];refine av (Ko (fj g) g (TW hg).sz hg.sz) (pg2 _ _) ?_;by_cases hs:fj g=g
  ·rw[decide_eq_true hs];simp(disch:=omega) only[go_sem,nT];exact ab (by rw[k1.2 hs])
  ·rw[decide_eq_false hs];simp(disch:=omega) only[go_sem,nF];exact ab (by
    rcases k2 with k2|k2
    ·exact(hs (k1.1 k2)).elim
    ·rw[k2])
 ·simp(disch:=omega) only[go_sem,o7,h0,decide_false,nF,aS.d,strs];exact ab (by rw[O9 h0])
end Go.V.Ty
