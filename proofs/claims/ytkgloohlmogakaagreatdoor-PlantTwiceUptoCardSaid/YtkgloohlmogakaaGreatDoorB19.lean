/- Types: TypesSpec. -/
import Derived.Test.YtkgloohlmogakaaGreatDoorB18
import Derived.Test.YtkgloohlmogakaaGreatDoorB16
set_option linter.unusedSimpArgs false
set_option linter.unusedVariables false
set_option maxRecDepth 100000
namespace Go.V.Ty
open Go.Proofs Go.RowKit Go.V.Lx Go.V.Gr
set_option maxHeartbeats 1000000
theorem D_(hre:sW)(g:aO)(hg:iZ g)(hpl:∀x∈g.rules,x.parts.length<=65536):aq Tryz.prog 204 [g.d] (kB (bX g)):=by
 rw[<-BL];exact(aG mixed (Ea hre (fun g s h=>Nat.le_trans (F3 _ _) h) g hg hpl) rfl aj rfl).to (fun _ _ h=>h) (fun d' bx' ⟨r,h1,h2⟩=>⟨r,h1,h2⟩)
theorem GK(hre:sW)(g:aO)(hg:iZ g)(hpl:∀x∈g.rules,x.parts.length<=65536):aq Tryz.prog 144 [g.d] (.int .i64 (fT g)):=by
 refine av mixed (fn:=Tryz.f144) (tab:=[]) ?_ rfl aj rfl;refine aw _ [.tmp 2] _ rfl rfl rfl aj ?_;simp(disch:=omega) only[go_sem,aO.d,strs];refine au (D_ hre g hg hpl) (pg g) ?_;by_cases h0:(bX g).2=0
 ·have hr:=qT h0;obtain⟨k1,k2⟩:=ET h0;simp(disch:=omega) only[go_sem,kB,h0,hr,decide_true,Bool.not_true,aO.d,strs];refine au (CQ (dA g) g (Kl hg).sz hg.sz) (Vq _ _) ?_;by_cases hs:dA g=g
  ·rw[decide_eq_true hs];simp(disch:=omega) only[go_sem,Bool.not_true];exact ab (by rw[k1.2 hs])
  ·rw[decide_eq_false hs];simp(disch:=omega) only[go_sem,Bool.not_false];exact ab (by
    rcases k2 with k2|k2
    ·exact(hs (k1.1 k2)).elim
    ·rw[k2])
 ·simp(disch:=omega) only[go_sem,kB,h0,decide_false,Bool.not_false,aO.d,strs];exact ab (by rw[GL h0])
end Go.V.Ty
