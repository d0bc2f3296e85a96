/- Plain laws: Vt. -/
import Derived.Test.YtkgloohlmogakaaGreatDoorVA
import Derived.Test.YtkgloohlmogakaaGreatDoorRows
set_option linter.all false
set_option maxHeartbeats 8000000
namespace Go.V
open Go.Proofs Go.Proofs.Tryz
@[go_sem] theorem Tryz.ti3:an prog 3=⟨.int .i64,1,false,[.int .i64 0]⟩:=ak
@[go_sem] theorem Tryz.ti4:an prog 4=⟨.bool,1,false,[.bool false]⟩:=ak
@[go_sem] theorem Tryz.ti5:an prog 5=⟨.int .u8,1,false,[.int .u8 0]⟩:=ak
@[go_sem] theorem Tryz.ti9:an prog 9=⟨.str,1,false,[.str []]⟩:=ak
@[go_sem] theorem Tryz.al3:an prog 20=⟨.dI,1,false,[.raw .nilIface]⟩:=ak
@[go_sem] theorem Tryz.al4:an prog 21=⟨.int .i32,1,false,[.int .i32 0]⟩:=ak
@[go_sem] theorem Tryz.al5:an prog 23=⟨.struct [(0,1,false),(1,1,false),(2,1,false),(3,1,false),(4,1,false),(5,1,false),(6,1,false)] [2,2,2,2,2,2,2],7,true,[.int .i64 0,.int .i64 0,.int .i64 0,.int .i64 0,.int .i64 0,.int .i64 0,.int .i64 0]⟩:=ak
@[go_sem] theorem Tryz.al6:an prog 24=⟨.slice 81 6 112 true,1,false,[.aq]⟩:=ak
@[go_sem] theorem Tryz.al7:an prog 25=⟨.slice 194 8 104 true,1,false,[.aq]⟩:=ak
@[go_sem] theorem Tryz.al8:an prog 26=⟨.slice 196 10 80 true,1,false,[.aq]⟩:=ak
@[go_sem] theorem Tryz.al9:an prog 27=⟨.slice 119 5 40 true,1,false,[.aq]⟩:=ak
@[go_sem] theorem Tryz.al_:an prog 28=⟨.slice 121 7 56 true,1,false,[.aq]⟩:=ak
@[go_sem] theorem Tryz.ama:an prog 29=⟨.slice 133 14 176 true,1,false,[.aq]⟩:=ak
@[go_sem] theorem Tryz.amb:an prog 30=⟨.slice 204 4 32 true,1,false,[.aq]⟩:=ak
@[go_sem] theorem Tryz.amc:an prog 31=⟨.slice 48 8 80 true,1,false,[.aq]⟩:=ak
@[go_sem] theorem Tryz.amd:an prog 33=⟨.struct [(0,7,true),(7,1,false),(8,1,false),(9,1,false),(10,1,false),(11,1,false),(12,1,false),(13,1,false),(14,1,false)] [],15,true,[.int .i64 0,.int .i64 0,.int .i64 0,.int .i64 0,.int .i64 0,.int .i64 0,.int .i64 0,.aq,.aq,.aq,.aq,.aq,.aq,.aq,.aq]⟩:=ak
@[go_sem] theorem Tryz.ame:an prog 34=⟨.slice 71 1 24 false,1,false,[.aq]⟩:=ak
@[go_sem] theorem Tryz.amf:an prog 36=⟨.struct [(0,1,false),(1,1,false),(2,1,false)] [],3,true,[.aq,.int .i64 0,.int .i64 0]⟩:=ak
@[go_sem] theorem Tryz.amg:an prog 37=⟨.slice 144 2 32 true,1,false,[.aq]⟩:=ak
@[go_sem] theorem Tryz.amh:an prog 39=⟨.struct [(0,1,false),(1,1,false),(2,1,false),(3,1,false)] [],4,true,[.aq,.aq,.int .i64 0,.bool false]⟩:=ak
@[go_sem] theorem Tryz.ami:an prog 41=⟨.struct [(0,15,true),(15,3,true),(18,4,true)] [],22,true,[.int .i64 0,.int .i64 0,.int .i64 0,.int .i64 0,.int .i64 0,.int .i64 0,.int .i64 0,.aq,.aq,.aq,.aq,.aq,.aq,.aq,.aq,.aq,.int .i64 0,.int .i64 0,.aq,.aq,.int .i64 0,.bool false]⟩:=ak
@[go_sem] theorem Tryz.amj:an prog 42=⟨.slice 123 5 64 true,1,false,[.aq]⟩:=ak
@[go_sem] theorem Tryz.amk:an prog 44=⟨.struct [(0,1,false),(1,1,false),(2,1,false),(3,1,false)] [],4,true,[.int .i64 0,.int .i64 0,.int .i64 0,.aq]⟩:=ak
@[go_sem] theorem Tryz.aml:an prog 46=⟨.struct [(0,1,false),(1,1,false),(2,4,true)] [],6,true,[.int .i64 0,.int .i64 0,.int .i64 0,.int .i64 0,.int .i64 0,.aq]⟩:=ak
@[go_sem] theorem Tryz.amm:an prog 48=⟨.struct [(0,1,false),(1,1,false),(2,6,true)] [],8,true,[.int .i64 0,.int .i64 0,.int .i64 0,.int .i64 0,.int .i64 0,.int .i64 0,.int .i64 0,.aq]⟩:=ak
@[go_sem] theorem Tryz.amn:an prog 53=⟨.int .i64,1,false,[.int .i64 0]⟩:=ak
@[go_sem] theorem Tryz.amo:an prog 71=⟨.slice 5 1 1 false,1,false,[.aq]⟩:=ak
@[go_sem] theorem Tryz.amp:an prog 77=⟨.slice 9 1 16 false,1,false,[.aq]⟩:=ak
@[go_sem] theorem Tryz.amq:an prog 78=⟨.slice 138 5 72 true,1,false,[.aq]⟩:=ak
@[go_sem] theorem Tryz.amr:an prog 79=⟨.slice 142 5 80 true,1,false,[.aq]⟩:=ak
@[go_sem] theorem Tryz.ams:an prog 81=⟨.struct [(0,1,false),(1,1,false),(2,1,false),(3,1,false),(4,1,false),(5,1,false)] [],6,true,[.str [],.aq,.str [],.int .i64 0,.aq,.aq]⟩:=ak
@[go_sem] theorem Tryz.akJ:an prog 117=⟨.arr 4 1 false,4,true,[.int .i64 0,.int .i64 0,.int .i64 0,.int .i64 0]⟩:=ak
@[go_sem] theorem Tryz.akK:an prog 119=⟨.struct [(0,1,false),(1,4,true)] [0,2,2,2,2,2],5,true,[.int .i64 0,.int .i64 0,.int .i64 0,.int .i64 0,.int .i64 0]⟩:=ak
@[go_sem] theorem Tryz.akL:an prog 121=⟨.struct [(0,1,false),(1,1,false),(2,1,false),(3,1,false),(4,1,false),(5,1,false),(6,1,false)] [2,2,2,2,2,2,2],7,true,[.int .i64 0,.int .i64 0,.int .i64 0,.int .i64 0,.int .i64 0,.int .i64 0,.int .i64 0]⟩:=ak
@[go_sem] theorem Tryz.akM:an prog 123=⟨.struct [(0,1,false),(1,1,false),(2,1,false),(3,1,false),(4,1,false)] [],5,true,[.str [],.int .i64 0,.int .i64 0,.int .i64 0,.aq]⟩:=ak
@[go_sem] theorem Tryz.akN:an prog 124=⟨.slice 251 3 24 true,1,false,[.aq]⟩:=ak
@[go_sem] theorem Tryz.akO:an prog 125=⟨.slice 253 3 24 true,1,false,[.aq]⟩:=ak
@[go_sem] theorem Tryz.akP:an prog 127=⟨.struct [(0,1,false),(1,1,false),(2,1,false)] [],3,true,[.aq,.int .i64 0,.aq]⟩:=ak
@[go_sem] theorem Tryz.akQ:an prog 128=⟨.slice 136 2 40 true,1,false,[.aq]⟩:=ak
@[go_sem] theorem Tryz.akR:an prog 129=⟨.slice 256 4 32 true,1,false,[.aq]⟩:=ak
@[go_sem] theorem Tryz.akS:an prog 131=⟨.struct [(0,1,false),(1,1,false),(2,1,false)] [],3,true,[.int .i64 0,.int .i64 0,.aq]⟩:=ak
@[go_sem] theorem Tryz.akT:an prog 133=⟨.struct [(0,1,false),(1,1,false),(2,1,false),(3,1,false),(4,1,false),(5,1,false),(6,1,false),(7,3,true),(10,1,false),(11,3,true)] [],14,true,[.int .i64 0,.int .i64 0,.int .i64 0,.int .i64 0,.int .i64 0,.int .i64 0,.bool false,.aq,.int .i64 0,.aq,.aq,.int .i64 0,.int .i64 0,.aq]⟩:=ak
@[go_sem] theorem Tryz.akU:an prog 134=⟨.slice 3 1 8 false,1,false,[.aq]⟩:=ak
@[go_sem] theorem Tryz.akV:an prog 136=⟨.struct [(0,1,false),(1,1,false)] [],2,true,[.str [],.aq]⟩:=ak
@[go_sem] theorem Tryz.akW:an prog 138=⟨.struct [(0,1,false),(1,1,false),(2,1,false),(3,1,false),(4,1,false)] [],5,true,[.str [],.str [],.int .i64 0,.aq,.int .i64 0]⟩:=ak
@[go_sem] theorem Tryz.akX:an prog 139=⟨.slice 247 3 40 true,1,false,[.aq]⟩:=ak
@[go_sem] theorem Tryz.akY:an prog 140=⟨.slice 249 2 24 true,1,false,[.aq]⟩:=ak
@[go_sem] theorem Tryz.akZ:an prog 142=⟨.struct [(0,1,false),(1,1,false),(2,1,false),(3,1,false),(4,1,false)] [],5,true,[.str [],.int .i64 0,.aq,.aq,.int .i64 0]⟩:=ak
@[go_sem] theorem Tryz.ak0:an prog 144=⟨.struct [(0,1,false),(1,1,false)] [],2,true,[.int .i64 0,.aq]⟩:=ak
@[go_sem] theorem Tryz.ak1:an prog 156=⟨.slice 158 4 56 true,1,false,[.aq]⟩:=ak
@[go_sem] theorem Tryz.ak2:an prog 158=⟨.struct [(0,1,false),(1,1,false),(2,1,false),(3,1,false)] [],4,true,[.int .i64 0,.int .i64 0,.str [],.aq]⟩:=ak
@[go_sem] theorem Tryz.ak3:an prog 169=⟨.int .u64,1,false,[.int .u64 0]⟩:=ak
@[go_sem] theorem Tryz.ak4:an prog 173=⟨.int .u64,1,false,[.int .u64 0]⟩:=ak
@[go_sem] theorem Tryz.ak5:an prog 185=⟨.other,1,false,[.raw (.pointer none)]⟩:=ak
@[go_sem] theorem Tryz.ak6:an prog 186=⟨.slice 185 1 8 false,1,false,[.aq]⟩:=ak
@[go_sem] theorem Tryz.ak7:an prog 187=⟨.other,1,false,[.raw .nilFunc]⟩:=ak
@[go_sem] theorem Tryz.ak8:an prog 194=⟨.struct [(0,1,false),(1,1,false),(2,1,false),(3,1,false),(4,1,false),(5,1,false),(6,1,false),(7,1,false)] [],8,true,[.int .i64 0,.int .i64 0,.int .i64 0,.int .i64 0,.aq,.aq,.str [],.bool false]⟩:=ak
@[go_sem] theorem Tryz.ak9:an prog 196=⟨.struct [(0,1,false),(1,1,false),(2,1,false),(3,1,false),(4,1,false),(5,1,false),(6,1,false),(7,1,false),(8,1,false),(9,1,false)] [2,2,2,2,2,2,2,2,2,2],10,true,[.int .i64 0,.int .i64 0,.int .i64 0,.int .i64 0,.int .i64 0,.int .i64 0,.int .i64 0,.int .i64 0,.int .i64 0,.int .i64 0]⟩:=ak
@[go_sem] theorem Tryz.ak_:an prog 204=⟨.struct [(0,1,false),(1,1,false),(2,1,false),(3,1,false)] [2,2,2,2],4,true,[.int .i64 0,.int .i64 0,.int .i64 0,.int .i64 0]⟩:=ak
@[go_sem] theorem Tryz.ala:an prog 223=⟨.other,1,false,[.raw .nilFunc]⟩:=ak
@[go_sem] theorem Tryz.alb:an prog 228=⟨.other,1,false,[.raw .nilFunc]⟩:=ak
@[go_sem] theorem Tryz.alc:an prog 230=⟨.struct [(0,1,false)] [],1,true,[.raw .nilFunc]⟩:=ak
@[go_sem] theorem Tryz.ald:an prog 231=⟨.other,1,false,[.raw (.pointer none)]⟩:=ak
@[go_sem] theorem Tryz.ale:an prog 236=⟨.arr 128 1 false,128,true,[.int .u8 0,.int .u8 0,.int .u8 0,.int .u8 0,.int .u8 0,.int .u8 0,.int .u8 0,.int .u8 0,.int .u8 0,.int .u8 0,.int .u8 0,.int .u8 0,.int .u8 0,.int .u8 0,.int .u8 0,.int .u8 0,.int .u8 0,.int .u8 0,.int .u8 0,.int .u8 0,.int .u8 0,.int .u8 0,.int .u8 0,.int .u8 0,.int .u8 0,.int .u8 0,.int .u8 0,.int .u8 0,.int .u8 0,.int .u8 0,.int .u8 0,.int .u8 0,.int .u8 0,.int .u8 0,.int .u8 0,.int .u8 0,.int .u8 0,.int .u8 0,.int .u8 0,.int .u8 0,.int .u8 0,.int .u8 0,.int .u8 0,.int .u8 0,.int .u8 0,.int .u8 0,.int .u8 0,.int .u8 0,.int .u8 0,.int .u8 0,.int .u8 0,.int .u8 0,.int .u8 0,.int .u8 0,.int .u8 0,.int .u8 0,.int .u8 0,.int .u8 0,.int .u8 0,.int .u8 0,.int .u8 0,.int .u8 0,.int .u8 0,.int .u8 0,.int .u8 0,.int .u8 0,.int .u8 0,.int .u8 0,.int .u8 0,.int .u8 0,.int .u8 0,.int .u8 0,.int .u8 0,.int .u8 0,.int .u8 0,.int .u8 0,.int .u8 0,.int .u8 0,.int .u8 0,.int .u8 0,.int .u8 0,.int .u8 0,.int .u8 0,.int .u8 0,.int .u8 0,.int .u8 0,.int .u8 0,.int .u8 0,.int .u8 0,.int .u8 0,.int .u8 0,.int .u8 0,.int .u8 0,.int .u8 0,.int .u8 0,.int .u8 0,.int .u8 0,.int .u8 0,.int .u8 0,.int .u8 0,.int .u8 0,.int .u8 0,.int .u8 0,.int .u8 0,.int .u8 0,.int .u8 0,.int .u8 0,.int .u8 0,.int .u8 0,.int .u8 0,.int .u8 0,.int .u8 0,.int .u8 0,.int .u8 0,.int .u8 0,.int .u8 0,.int .u8 0,.int .u8 0,.int .u8 0,.int .u8 0,.int .u8 0,.int .u8 0,.int .u8 0,.int .u8 0,.int .u8 0,.int .u8 0,.int .u8 0,.int .u8 0]⟩:=ak
@[go_sem] theorem Tryz.alf:an prog 238=⟨.int .u32,1,false,[.int .u32 0]⟩:=ak
@[go_sem] theorem Tryz.alg:an prog 244=⟨.struct [(0,1,false)] [],1,true,[.aq]⟩:=ak
@[go_sem] theorem Tryz.alh:an prog 247=⟨.struct [(0,1,false),(1,1,false),(2,1,false)] [3,2,3],3,true,[.str [],.int .i64 0,.str []]⟩:=ak
@[go_sem] theorem Tryz.ali:an prog 249=⟨.struct [(0,1,false),(1,1,false)] [2,3],2,true,[.int .i64 0,.str []]⟩:=ak
@[go_sem] theorem Tryz.alj:an prog 251=⟨.struct [(0,1,false),(1,1,false),(2,1,false)] [2,2,2],3,true,[.int .i64 0,.int .i64 0,.int .i64 0]⟩:=ak
@[go_sem] theorem Tryz.alk:an prog 253=⟨.struct [(0,1,false),(1,1,false),(2,1,false)] [2,2,2],3,true,[.int .i64 0,.int .i64 0,.int .i64 0]⟩:=ak
@[go_sem] theorem Tryz.alm:an prog 256=⟨.struct [(0,1,false),(1,1,false),(2,1,false),(3,1,false)] [2,2,2,2],4,true,[.int .i64 0,.int .i64 0,.int .i64 0,.int .i64 0]⟩:=ak
@[go_sem] theorem Tryz.aln:an prog 257=⟨.slice 53 1 8 false,1,false,[.aq]⟩:=ak
@[go_sem] theorem Tryz.alo:an prog 264=⟨.other,1,false,[.raw .nilFunc]⟩:=ak
@[go_sem] theorem Tryz.alp:an prog 266=⟨.map 3 117,1,false,[.raw (.map none)]⟩:=ak
@[go_sem] theorem Tryz.alq:an prog 277=⟨.map 3 331,1,false,[.raw (.map none)]⟩:=ak
@[go_sem] theorem Tryz.alr:an prog 292=⟨.slice 156 1 24 false,1,false,[.aq]⟩:=ak
@[go_sem] theorem Tryz.als:an prog 297=⟨.arr 4 1 true,4,true,[.raw .nilFunc,.raw .nilFunc,.raw .nilFunc,.raw .nilFunc]⟩:=ak
@[go_sem] theorem Tryz.alu:an prog 307=⟨.map 9 3,1,false,[.raw (.map none)]⟩:=ak
@[go_sem] theorem Tryz.alv:an prog 308=⟨.other,1,false,[.raw .nilFunc]⟩:=ak
@[go_sem] theorem Tryz.alw:an prog 315=⟨.other,1,false,[.raw .nilFunc]⟩:=ak
@[go_sem] theorem Tryz.alx:an prog 317=⟨.struct [(0,1,false)] [],1,true,[.raw .nilFunc]⟩:=ak
@[go_sem] theorem Tryz.aly:an prog 318=⟨.arr 5 1 true,5,true,[.raw .nilFunc,.raw .nilFunc,.raw .nilFunc,.raw .nilFunc,.raw .nilFunc]⟩:=ak
@[go_sem] theorem Tryz.alz:an prog 325=⟨.other,1,false,[.raw .nilFunc]⟩:=ak
@[go_sem] theorem Tryz.alA:an prog 327=⟨.struct [(0,1,false),(1,1,false),(2,1,false),(3,1,false),(4,1,false)] [],5,true,[.bool false,.bool false,.bool false,.bool false,.raw .nilFunc]⟩:=ak
@[go_sem] theorem Tryz.alB:an prog 328=⟨.arr 5 5 true,25,true,[.bool false,.bool false,.bool false,.bool false,.raw .nilFunc,.bool false,.bool false,.bool false,.bool false,.raw .nilFunc,.bool false,.bool false,.bool false,.bool false,.raw .nilFunc,.bool false,.bool false,.bool false,.bool false,.raw .nilFunc,.bool false,.bool false,.bool false,.bool false,.raw .nilFunc]⟩:=ak
@[go_sem] theorem Tryz.alC:an prog 331=⟨.struct [(0,1,false),(1,1,false)] [1,2],2,true,[.bool false,.int .i64 0]⟩:=ak
@[go_sem] theorem Tryz.alD:an prog 335=⟨.struct [(0,14,true)] [],14,true,[.int .i64 0,.int .i64 0,.int .i64 0,.int .i64 0,.int .i64 0,.int .i64 0,.bool false,.aq,.int .i64 0,.aq,.aq,.int .i64 0,.int .i64 0,.aq]⟩:=ak
@[go_sem] theorem Tryz.alE:an prog 336=⟨.struct [(0,14,true)] [],14,true,[.int .i64 0,.int .i64 0,.int .i64 0,.int .i64 0,.int .i64 0,.int .i64 0,.bool false,.aq,.int .i64 0,.aq,.aq,.int .i64 0,.int .i64 0,.aq]⟩:=ak
@[go_sem] theorem Tryz.alF:an prog 346=⟨.arr 4 1 false,4,true,[.bool false,.bool false,.bool false,.bool false]⟩:=ak
@[go_sem] theorem Tryz.alG:an prog 349=⟨.other,1,false,[.raw .nilFunc]⟩:=ak
@[go_sem] theorem Tryz.alH:an prog 350=⟨.other,1,false,[.raw .nilFunc]⟩:=ak
@[go_sem] theorem Tryz.alI:an prog 352=⟨.other,1,false,[.raw .nilFunc]⟩:=ak
@[go_sem] theorem Tryz.alJ:an prog 355=⟨.map 9 4,1,false,[.raw (.map none)]⟩:=ak
@[go_sem] theorem Tryz.alK:an prog 360=⟨.slice 4 1 1 false,1,false,[.aq]⟩:=ak
@[go_sem] theorem Tryz.alL:an prog 372=⟨.slice 77 1 24 false,1,false,[.aq]⟩:=ak
@[go_sem] theorem Tryz.alM:an prog 373=⟨.slice 139 1 24 false,1,false,[.aq]⟩:=ak
@[go_sem] theorem Tryz.alN:an prog 375=⟨.slice 78 1 24 false,1,false,[.aq]⟩:=ak
@[go_sem] theorem Tryz.alO:an prog 377=⟨.slice 79 1 24 false,1,false,[.aq]⟩:=ak
@[go_sem] theorem Tryz.alP:an prog 382=⟨.struct [(0,1,false),(1,1,false)] [],2,true,[.int .i64 0,.raw .nilFunc]⟩:=ak
@[go_sem] theorem Tryz.alQ:an prog 383=⟨.slice 382 2 16 true,1,false,[.aq]⟩:=ak
@[go_sem] theorem Tryz.alR:an prog 395=⟨.slice 134 1 24 false,1,false,[.aq]⟩:=ak
@[go_sem] theorem Tryz.alS:an prog 398=⟨.struct [] [],0,true,[]⟩:=ak
@[go_sem] theorem Tryz.alT:an prog 405=⟨.arr 2 1 false,2,true,[.int .i64 0,.int .i64 0]⟩:=ak
@[go_sem] theorem Tryz.alU:an prog 418=⟨.slice 405 2 16 true,1,false,[.aq]⟩:=ak
@[go_sem] theorem Tryz.zv3:zeroV prog 3=some (.int .i64 0):=ak
@[go_sem] theorem Tryz.zv4:zeroV prog 4=some (.bool false):=ak
@[go_sem] theorem Tryz.alV:zeroV prog 117=some (.agg [.int .i64 0,.int .i64 0,.int .i64 0,.int .i64 0]):=ak
@[go_sem] theorem Tryz.alW:zeroV prog 331=some (.agg [.bool false,.int .i64 0]):=ak
@[go_sem] theorem Tryz.alX:zeroV prog 398=some (.agg []):=ak
end Go.V
