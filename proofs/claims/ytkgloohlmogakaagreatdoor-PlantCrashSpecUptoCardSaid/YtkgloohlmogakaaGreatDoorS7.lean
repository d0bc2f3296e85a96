/- Plain laws: S7. -/
import Derived.Ground.NamesProg
import Derived.Shelf.Strings.Prefix
import Derived.Shelf.Strings.Fields
import Derived.Shelf.Small.Strs
import Derived.Shelf.Slices.Turned
import Derived.Shelf.Strconv.Itoa3
import Derived.Shelf.Strconv.AtoiAll
import Derived.Shelf.Strings.OnBuilder
import Derived.Shelf.Unicode.DecodeAny
import Derived.Test.YtkgloohlmogakaaGreatDoorChecked
set_option linter.all false
set_option maxHeartbeats 8000000
namespace Go.Proofs
open Go.Shelf
def Tryz.lays197_ren:Go.Shelf.Ren:=⟨fun|197=>350|260=>360|n=>n,fun|9=>9|21=>21|3=>3|4=>4|5=>5|105=>416|119=>392|0=>0|46=>173|139=>437|138=>436|n=>n,fun|3=>3|4=>4|n=>n⟩
theorem Tryz.T6:Go.Proofs.Lays.n197 Tryz.prog Tryz.lays197_ren:={
 mixed:=by kernel_rfl
 f197:=Tryz.func350.trans (congrArg some (by kernel_rfl))
 f260:=Tryz.func360.trans (congrArg some (by kernel_rfl))
 t0:=Tryz.underlying0
 a0:=Tryz.isAgg0
 z0:=Tryz.sizeOf0
 v0:=Tryz.zeroValue0
 t3:=Tryz.underlying3
 a3:=Tryz.isAgg3
 z3:=Tryz.sizeOf3
 v3:=Tryz.zeroValue3
 t4:=Tryz.underlying4
 a4:=Tryz.isAgg4
 z4:=Tryz.sizeOf4
 v4:=Tryz.zeroValue4
 t5:=Tryz.underlying5
 a5:=Tryz.isAgg5
 z5:=Tryz.sizeOf5
 v5:=Tryz.zeroValue5
 t9:=Tryz.underlying9
 a9:=Tryz.isAgg9
 z9:=Tryz.sizeOf9
 v9:=Tryz.zeroValue9
 t21:=Tryz.underlying21
 a21:=Tryz.isAgg21
 z21:=Tryz.sizeOf21
 v21:=Tryz.zeroValue21
 t46:=Tryz.underlying173
 a46:=Tryz.isAgg173
 z46:=Tryz.sizeOf173
 v46:=Tryz.zeroValue173
 t105:=Tryz.underlying416
 a105:=Tryz.isAgg416
 z105:=Tryz.sizeOf416
 v105:=Tryz.zeroValue416
 t119:=Tryz.underlying392
 a119:=Tryz.isAgg392
 z119:=Tryz.sizeOf392
 t138:=Tryz.underlying436
 a138:=Tryz.isAgg436
 z138:=Tryz.sizeOf436
 v138:=Tryz.zeroValue436
 t139:=Tryz.underlying437
 a139:=Tryz.isAgg437
 z139:=Tryz.sizeOf437
 v139:=Tryz.zeroValue437
 g3:=by kernel_rfl
 g4:=by kernel_rfl}
end Go.Proofs
