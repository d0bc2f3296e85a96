/- Lemmas on plain data and programs: part B17. -/
import Derived.Test.YtkknfajchefgaaaGreatDoorB16
import Derived.Test.YtkknfajchefgaaaGreatDoorB14
set_option linter.all false
set_option maxHeartbeats 8000000
set_option maxRecDepth 100000
namespace Go.V.St
open Go.Proofs Go.Proofs.Tryz Go.RowKit Go.V.Lx Go.V.Gr Go.V.Ty
attribute [simp] aX
instance(n:Int):Ct 344 [I n] True (.bool (aX n 0 63)):=by
 refine dp f344 [] [.tmp 2] fun pre=>?_;exact zF
instance(n:Int):Ct 345 [I n,.bR (.fn (.func 344) []) 0] True (.bool (!aX n 0 63)):=by
 refine dp f345 [] [.tmp 3] fun pre=>?_;exact zF
end Go.V.St
