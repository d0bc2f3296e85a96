/- Plain laws: B14. -/
import Derived.Test.YtkgloohlmogakaaGreatDoorB13
set_option linter.all false
set_option maxHeartbeats 8000000
set_option maxRecDepth 100000
namespace Go.V.Ty
open Go.Proofs Go.Proofs.Tryz Go.RowKit Go.V.Lx Go.V.Gr
def Mp(CX:z_)(g:aW)(hg:mP g)(mT:∀x∈g.rules,x.parts.length<=65536):ao prog 204 [g.d] (pv (dq g)):=by
 rw[<-Ju];exact(aK mixed (Mq CX (fun g s h=>Nat.le_trans (OS _ _) h) g hg mT) rfl ak rfl).to (fun _ _ h=>h) (fun d' bx' ⟨r,h1,h2⟩=>⟨r,h1,h2⟩)
def Pz(CX:z_)(g:aW)(hg:mP g)(mT:∀x∈g.rules,x.parts.length<=65536):ao prog 144 [g.d] (.int .i64 (jL g)):=by
 refine aw mixed (fn:=f144) (tab:=[]) ?_ rfl ak rfl;refine ax _ [.tmp 2] _ rfl rfl rfl ak ?_;simp(disch:=omega) only[go_sem,aW.d,strs];refine av (Mp CX g hg mT) (pg g) ?_;by_cases h0:(dq g).2=0
 ·have hr:=xz h0;obtain⟨k1,k2⟩:=Ng h0;simp(disch:=omega) only[go_sem,pv,h0,hr,decide_true,nT,aW.d,strs];refine av (KO (fp g) g (Uo hg).sz hg.sz) (pg2 _ _) ?_;by_cases hs:fp g=g
  ·rw[decide_eq_true hs];simp(disch:=omega) only[go_sem,nT];exact ab (by rw[k1.2 hs])
  ·rw[decide_eq_false hs];simp(disch:=omega) only[go_sem,nF];exact ab (by
    rcases k2 with k2|k2
    ·exact(hs (k1.1 k2)).elim
    ·rw[k2])
 ·simp(disch:=omega) only[go_sem,pv,h0,decide_false,nF,aW.d,strs];exact ab (by rw[PA h0])
end Go.V.Ty
