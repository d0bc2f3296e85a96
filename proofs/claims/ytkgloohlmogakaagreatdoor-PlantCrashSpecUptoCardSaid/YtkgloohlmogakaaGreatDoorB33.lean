/- Plain laws: B33. -/
import Derived.Test.YtkgloohlmogakaaGreatDoorB31
set_option linter.all false
set_option maxHeartbeats 8000000
namespace Go.V.Jn
open Go.Proofs Go.Proofs.Tryz Go.RowKit Go.V.Lx Go.V.Gr Go.V.Ty Go.V.St
def Nn(xs:List D)(h:qH [Au,eB] xs)(hb:D.dG xs<=1048576):ao prog 4 xs (.bool true):=by
 obtain⟨a,_,rfl,h1,h⟩:=EC h;obtain⟨b,_,rfl,h2,h⟩:=EC h;obtain rfl:=Ps h;obtain⟨p,rfl,op⟩:=NZ h1;obtain⟨n,rfl⟩:=Qt h2;simp only[D.dG]at hb;exact Jd p n op oM
end Go.V.Jn
