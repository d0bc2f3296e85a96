/- Plain laws: Sh. -/
import Derived.Ground.NamesProg
import Derived.Shelf.Strings.Prefix
import Derived.Shelf.Strings.Fields
import Derived.Shelf.Small.Strs
import Derived.Shelf.Slices.Turned
import Derived.Shelf.Strconv.Itoa3
import Derived.Shelf.Strconv.AtoiAll
import Derived.Shelf.Strings.OnBuilder
import Derived.Test.YtkgloohlmogakaaGreatDoorChecked
set_option linter.all false
set_option maxHeartbeats 8000000
namespace Go.Proofs
open Go.Shelf
def Tryz.lays137_ren:Go.Shelf.Ren:=⟨fun|137=>322|217=>344|266=>354|n=>n,fun|9=>9|5=>5|3=>3|n=>n,fun|n=>n⟩
theorem Tryz.T4:Go.Proofs.Lays.n137 Tryz.prog Tryz.lays137_ren:={
 mixed:=by kernel_rfl
 f137:=Tryz.func322.trans (congrArg some (by kernel_rfl))
 f217:=Tryz.func344.trans (congrArg some (by kernel_rfl))
 f266:=Tryz.func354.trans (congrArg some (by kernel_rfl))
 t3:=Tryz.underlying3
 a3:=Tryz.isAgg3
 z3:=Tryz.sizeOf3
 v3:=Tryz.zeroValue3
 t5:=Tryz.underlying5
 a5:=Tryz.isAgg5
 z5:=Tryz.sizeOf5
 v5:=Tryz.zeroValue5
 t9:=Tryz.underlying9
 a9:=Tryz.isAgg9
 z9:=Tryz.sizeOf9
 v9:=Tryz.zeroValue9}
def Tryz.lays157_ren:Go.Shelf.Ren:=⟨fun|157=>309|229=>334|199=>335|261=>347|311=>358|312=>359|n=>n,fun|9=>9|31=>77|3=>3|5=>5|4=>4|119=>392|0=>0|40=>394|152=>410|21=>21|154=>412|51=>238|141=>414|196=>425|193=>422|198=>427|49=>63|194=>423|201=>430|226=>433|46=>173|227=>434|n=>n,fun|0=>0|6=>1|n=>n⟩
theorem Tryz.T5:Go.Proofs.Lays.n157 Tryz.prog Tryz.lays157_ren:={
 mixed:=by kernel_rfl
 f157:=Tryz.func309.trans (congrArg some (by kernel_rfl))
 f199:=Tryz.func335.trans (congrArg some (by kernel_rfl))
 f229:=Tryz.func334.trans (congrArg some (by kernel_rfl))
 f261:=Tryz.func347.trans (congrArg some (by kernel_rfl))
 f311:=Tryz.func358.trans (congrArg some (by kernel_rfl))
 f312:=Tryz.func359.trans (congrArg some (by kernel_rfl))
 t0:=Tryz.underlying0
 a0:=Tryz.isAgg0
 z0:=Tryz.sizeOf0
 v0:=Tryz.zeroValue0
 t3:=Tryz.underlying3
 a3:=Tryz.isAgg3
 z3:=Tryz.sizeOf3
 v3:=Tryz.zeroValue3
 t4:=Tryz.underlying4
 a4:=Tryz.isAgg4
 z4:=Tryz.sizeOf4
 v4:=Tryz.zeroValue4
 t5:=Tryz.underlying5
 a5:=Tryz.isAgg5
 z5:=Tryz.sizeOf5
 v5:=Tryz.zeroValue5
 t9:=Tryz.underlying9
 a9:=Tryz.isAgg9
 z9:=Tryz.sizeOf9
 v9:=Tryz.zeroValue9
 t21:=Tryz.underlying21
 a21:=Tryz.isAgg21
 z21:=Tryz.sizeOf21
 v21:=Tryz.zeroValue21
 t31:=Tryz.underlying77
 a31:=Tryz.isAgg77
 z31:=Tryz.sizeOf77
 v31:=Tryz.zeroValue77
 t40:=Tryz.underlying394
 a40:=Tryz.isAgg394
 z40:=Tryz.sizeOf394
 v40:=Tryz.zeroValue394
 t46:=Tryz.underlying173
 a46:=Tryz.isAgg173
 z46:=Tryz.sizeOf173
 v46:=Tryz.zeroValue173
 t49:=Tryz.underlying63
 a49:=Tryz.isAgg63
 z49:=Tryz.sizeOf63
 v49:=Tryz.zeroValue63
 t51:=Tryz.underlying238
 a51:=Tryz.isAgg238
 z51:=Tryz.sizeOf238
 v51:=Tryz.zeroValue238
 t119:=Tryz.underlying392
 a119:=Tryz.isAgg392
 z119:=Tryz.sizeOf392
 t141:=Tryz.underlying414
 a141:=Tryz.isAgg414
 z141:=Tryz.sizeOf414
 v141:=Tryz.zeroValue414
 t152:=Tryz.underlying410
 a152:=Tryz.isAgg410
 z152:=Tryz.sizeOf410
 v152:=Tryz.zeroValue410
 t154:=Tryz.underlying412
 a154:=Tryz.isAgg412
 z154:=Tryz.sizeOf412
 v154:=Tryz.zeroValue412
 t193:=Tryz.underlying422
 a193:=Tryz.isAgg422
 z193:=Tryz.sizeOf422
 v193:=Tryz.zeroValue422
 t194:=Tryz.underlying423
 a194:=Tryz.isAgg423
 z194:=Tryz.sizeOf423
 v194:=Tryz.zeroValue423
 t196:=Tryz.underlying425
 a196:=Tryz.isAgg425
 z196:=Tryz.sizeOf425
 v196:=Tryz.zeroValue425
 t198:=Tryz.underlying427
 a198:=Tryz.isAgg427
 z198:=Tryz.sizeOf427
 v198:=Tryz.zeroValue427
 t201:=Tryz.underlying430
 a201:=Tryz.isAgg430
 z201:=Tryz.sizeOf430
 v201:=Tryz.zeroValue430
 t226:=Tryz.underlying433
 a226:=Tryz.isAgg433
 z226:=Tryz.sizeOf433
 v226:=Tryz.zeroValue433
 t227:=Tryz.underlying434
 a227:=Tryz.isAgg434
 z227:=Tryz.sizeOf434
 v227:=Tryz.zeroValue434
 g0:=by kernel_rfl
 g6:=by kernel_rfl}
end Go.Proofs
