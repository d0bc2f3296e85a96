/- Lemmas on plain data and programs: part B28. -/
import Derived.Test.YtkgloohlmogakaaGreatDoorB26
import Derived.Test.YtkgloohlmogakaaGreatDoorB27
set_option linter.all false
set_option maxHeartbeats 8000000
set_option maxRecDepth 100000
namespace Go.V.Jn
open Go.Proofs Go.RowKit Go.V.Lx Go.V.Gr Go.V.Ty Go.V.St
section
variable (S:List ah) (W:List bX) (L:Int) (st:Bool)
instance (priority:=low)(rs:List ah)(M y:Int):Ct 53 [.agg [.sl 1 (rs.map aU),I M,I y]] (oK rs) (I (if kh ⟨rs,M,y⟩then 0 else 1)):=afM ⟨rs,M,y⟩
instance (priority:=low)(a l:List ah)(n:Nat):Ct 55 [.sl 1 (a.map aU),.sl 1 (List.take n (l.map aU))] (Lm a/\Lm (l.take n)) (.bool (decide (a=l.take n))):=by rw[<-List.map_take];infer_instance
end
end Go.V.Jn
