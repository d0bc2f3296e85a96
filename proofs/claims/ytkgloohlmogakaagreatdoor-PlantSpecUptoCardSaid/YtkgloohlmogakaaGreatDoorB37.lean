/- Lemmas on plain data and programs: part B37. -/
import Derived.Test.YtkgloohlmogakaaGreatDoorB35
set_option linter.all false
set_option maxHeartbeats 8000000
namespace Go.V.Jn
open Go.Proofs Go.Proofs.Tryz Go.RowKit Go.V.Lx Go.V.Gr Go.V.Ty Go.V.St
def Q0(xs:List D)(h:qo [Ae,ez,Ad,qJ] xs)(hb:D.dz xs<=1048576):ao prog 3 xs (.bool true):=by
 obtain⟨a,_,rfl,h1,h⟩:=uq h;obtain⟨b,_,rfl,h2,h⟩:=uq h;obtain⟨c,_,rfl,h3,h⟩:=uq h;obtain⟨d,_,rfl,h4,h⟩:=uq h;obtain rfl:=O2 h;obtain⟨s,rfl,os⟩:=Th h1;obtain⟨n,rfl⟩:=PZ h2;obtain⟨p,rfl,op⟩:=Nv h3;obtain⟨x,rfl,oh⟩:=K7 h4;simp only[D.dz]at hb;exact XP s n p x os op oh oM oM
end Go.V.Jn
