/- Lemmas on plain data and programs: part Vt. -/
import Derived.Test.YtkknfajchefgaaaGreatDoorVA
import Derived.Test.YtkknfajchefgaaaGreatDoorRows
set_option linter.all false
set_option maxHeartbeats 8000000
namespace Go.V
open Go.Proofs Go.Proofs.Tryz
@[go_sem] theorem Tryz.ti1:aj prog 1=⟨.other,1,false,[.raw .nilFunc]⟩:=ar
@[go_sem] theorem Tryz.ti3:aj prog 3=⟨.int .i64,1,false,[.int .i64 0]⟩:=ar
@[go_sem] theorem Tryz.ti4:aj prog 4=⟨.bool,1,false,[.bool false]⟩:=ar
@[go_sem] theorem Tryz.ti5:aj prog 5=⟨.int .u8,1,false,[.int .u8 0]⟩:=ar
@[go_sem] theorem Tryz.ti9:aj prog 9=⟨.str,1,false,[.str []]⟩:=ar
@[go_sem] theorem Tryz.atD:aj prog 20=⟨.bK,1,false,[.raw .nilIface]⟩:=ar
@[go_sem] theorem Tryz.atE:aj prog 21=⟨.int .i32,1,false,[.int .i32 0]⟩:=ar
@[go_sem] theorem Tryz.atF:aj prog 23=⟨.struct [(0,1,false),(1,1,false),(2,1,false),(3,1,false),(4,1,false),(5,1,false),(6,1,false)] [2,2,2,2,2,2,2],7,true,[.int .i64 0,.int .i64 0,.int .i64 0,.int .i64 0,.int .i64 0,.int .i64 0,.int .i64 0]⟩:=ar
@[go_sem] theorem Tryz.atG:aj prog 24=⟨.slice 78 6 112 true,1,false,[.ak]⟩:=ar
@[go_sem] theorem Tryz.atH:aj prog 25=⟨.slice 92 8 104 true,1,false,[.ak]⟩:=ar
@[go_sem] theorem Tryz.atI:aj prog 26=⟨.slice 94 10 80 true,1,false,[.ak]⟩:=ar
@[go_sem] theorem Tryz.atJ:aj prog 27=⟨.slice 97 5 40 true,1,false,[.ak]⟩:=ar
@[go_sem] theorem Tryz.atK:aj prog 28=⟨.slice 100 7 56 true,1,false,[.ak]⟩:=ar
@[go_sem] theorem Tryz.atL:aj prog 29=⟨.slice 62 14 176 true,1,false,[.ak]⟩:=ar
@[go_sem] theorem Tryz.atM:aj prog 30=⟨.slice 103 4 32 true,1,false,[.ak]⟩:=ar
@[go_sem] theorem Tryz.atN:aj prog 31=⟨.slice 69 8 80 true,1,false,[.ak]⟩:=ar
@[go_sem] theorem Tryz.atO:aj prog 33=⟨.struct [(0,7,true),(7,1,false),(8,1,false),(9,1,false),(10,1,false),(11,1,false),(12,1,false),(13,1,false),(14,1,false)] [],15,true,[.int .i64 0,.int .i64 0,.int .i64 0,.int .i64 0,.int .i64 0,.int .i64 0,.int .i64 0,.ak,.ak,.ak,.ak,.ak,.ak,.ak,.ak]⟩:=ar
@[go_sem] theorem Tryz.atP:aj prog 34=⟨.slice 107 8 88 true,1,false,[.ak]⟩:=ar
@[go_sem] theorem Tryz.atQ:aj prog 36=⟨.struct [(0,15,true),(15,1,false)] [],16,true,[.int .i64 0,.int .i64 0,.int .i64 0,.int .i64 0,.int .i64 0,.int .i64 0,.int .i64 0,.ak,.ak,.ak,.ak,.ak,.ak,.ak,.ak,.ak]⟩:=ar
@[go_sem] theorem Tryz.atS:aj prog 39=⟨.int .i64,1,false,[.int .i64 0]⟩:=ar
@[go_sem] theorem Tryz.atU:aj prog 47=⟨.int .u16,1,false,[.int .u16 0]⟩:=ar
@[go_sem] theorem Tryz.atV:aj prog 48=⟨.slice 9 1 16 false,1,false,[.ak]⟩:=ar
@[go_sem] theorem Tryz.atW:aj prog 53=⟨.slice 127 3 24 true,1,false,[.ak]⟩:=ar
@[go_sem] theorem Tryz.atX:aj prog 54=⟨.slice 129 3 24 true,1,false,[.ak]⟩:=ar
@[go_sem] theorem Tryz.atY:aj prog 56=⟨.struct [(0,1,false),(1,1,false),(2,1,false)] [],3,true,[.ak,.int .i64 0,.ak]⟩:=ar
@[go_sem] theorem Tryz.atZ:aj prog 57=⟨.slice 163 2 40 true,1,false,[.ak]⟩:=ar
@[go_sem] theorem Tryz.at0:aj prog 58=⟨.slice 131 4 32 true,1,false,[.ak]⟩:=ar
@[go_sem] theorem Tryz.at1:aj prog 60=⟨.struct [(0,1,false),(1,1,false),(2,1,false)] [],3,true,[.int .i64 0,.int .i64 0,.ak]⟩:=ar
@[go_sem] theorem Tryz.at2:aj prog 62=⟨.struct [(0,1,false),(1,1,false),(2,1,false),(3,1,false),(4,1,false),(5,1,false),(6,1,false),(7,3,true),(10,1,false),(11,3,true)] [],14,true,[.int .i64 0,.int .i64 0,.int .i64 0,.int .i64 0,.int .i64 0,.int .i64 0,.bool false,.ak,.int .i64 0,.ak,.ak,.int .i64 0,.int .i64 0,.ak]⟩:=ar
@[go_sem] theorem Tryz.at3:aj prog 63=⟨.slice 105 5 64 true,1,false,[.ak]⟩:=ar
@[go_sem] theorem Tryz.at4:aj prog 65=⟨.struct [(0,1,false),(1,1,false),(2,1,false),(3,1,false)] [],4,true,[.int .i64 0,.int .i64 0,.int .i64 0,.ak]⟩:=ar
@[go_sem] theorem Tryz.at5:aj prog 67=⟨.struct [(0,1,false),(1,1,false),(2,4,true)] [],6,true,[.int .i64 0,.int .i64 0,.int .i64 0,.int .i64 0,.int .i64 0,.ak]⟩:=ar
@[go_sem] theorem Tryz.at6:aj prog 69=⟨.struct [(0,1,false),(1,1,false),(2,6,true)] [],8,true,[.int .i64 0,.int .i64 0,.int .i64 0,.int .i64 0,.int .i64 0,.int .i64 0,.int .i64 0,.ak]⟩:=ar
@[go_sem] theorem Tryz.at7:aj prog 75=⟨.slice 152 5 72 true,1,false,[.ak]⟩:=ar
@[go_sem] theorem Tryz.aua:aj prog 76=⟨.slice 157 5 80 true,1,false,[.ak]⟩:=ar
@[go_sem] theorem Tryz.aub:aj prog 78=⟨.struct [(0,1,false),(1,1,false),(2,1,false),(3,1,false),(4,1,false),(5,1,false)] [],6,true,[.str [],.ak,.str [],.int .i64 0,.ak,.ak]⟩:=ar
@[go_sem] theorem Tryz.auc:aj prog 83=⟨.slice 5 1 1 false,1,false,[.ak]⟩:=ar
@[go_sem] theorem Tryz.aud:aj prog 85=⟨.struct [(0,1,false),(1,1,false)] [],2,true,[.raw (.pointer none),.ak]⟩:=ar
@[go_sem] theorem Tryz.aue:aj prog 87=⟨.struct [(0,2,true)] [],2,true,[.raw (.pointer none),.ak]⟩:=ar
@[go_sem] theorem Tryz.auf:aj prog 92=⟨.struct [(0,1,false),(1,1,false),(2,1,false),(3,1,false),(4,1,false),(5,1,false),(6,1,false),(7,1,false)] [],8,true,[.int .i64 0,.int .i64 0,.int .i64 0,.int .i64 0,.ak,.ak,.str [],.bool false]⟩:=ar
@[go_sem] theorem Tryz.aug:aj prog 94=⟨.struct [(0,1,false),(1,1,false),(2,1,false),(3,1,false),(4,1,false),(5,1,false),(6,1,false),(7,1,false),(8,1,false),(9,1,false)] [2,2,2,2,2,2,2,2,2,2],10,true,[.int .i64 0,.int .i64 0,.int .i64 0,.int .i64 0,.int .i64 0,.int .i64 0,.int .i64 0,.int .i64 0,.int .i64 0,.int .i64 0]⟩:=ar
@[go_sem] theorem Tryz.auh:aj prog 95=⟨.arr 4 1 false,4,true,[.int .i64 0,.int .i64 0,.int .i64 0,.int .i64 0]⟩:=ar
@[go_sem] theorem Tryz.aui:aj prog 97=⟨.struct [(0,1,false),(1,4,true)] [0,2,2,2,2,2],5,true,[.int .i64 0,.int .i64 0,.int .i64 0,.int .i64 0,.int .i64 0]⟩:=ar
@[go_sem] theorem Tryz.auj:aj prog 98=⟨.slice 3 1 8 false,1,false,[.ak]⟩:=ar
@[go_sem] theorem Tryz.asr:aj prog 100=⟨.struct [(0,1,false),(1,1,false),(2,1,false),(3,1,false),(4,1,false),(5,1,false),(6,1,false)] [2,2,2,2,2,2,2],7,true,[.int .i64 0,.int .i64 0,.int .i64 0,.int .i64 0,.int .i64 0,.int .i64 0,.int .i64 0]⟩:=ar
@[go_sem] theorem Tryz.ass:aj prog 103=⟨.struct [(0,1,false),(1,1,false),(2,1,false),(3,1,false)] [2,2,2,2],4,true,[.int .i64 0,.int .i64 0,.int .i64 0,.int .i64 0]⟩:=ar
@[go_sem] theorem Tryz.ast:aj prog 105=⟨.struct [(0,1,false),(1,1,false),(2,1,false),(3,1,false),(4,1,false)] [],5,true,[.str [],.int .i64 0,.int .i64 0,.int .i64 0,.ak]⟩:=ar
@[go_sem] theorem Tryz.asu:aj prog 107=⟨.struct [(0,1,false),(1,1,false),(2,1,false),(3,1,false),(4,1,false),(5,1,false),(6,1,false),(7,1,false)] [],8,true,[.int .i64 0,.int .i64 0,.int .i64 0,.int .i64 0,.int .i64 0,.int .i64 0,.ak,.str []]⟩:=ar
@[go_sem] theorem Tryz.asv:aj prog 110=⟨.struct [(0,16,true),(16,1,false)] [],17,true,[.int .i64 0,.int .i64 0,.int .i64 0,.int .i64 0,.int .i64 0,.int .i64 0,.int .i64 0,.ak,.ak,.ak,.ak,.ak,.ak,.ak,.ak,.ak,.str []]⟩:=ar
@[go_sem] theorem Tryz.asw:aj prog 114=⟨.other,1,false,[.raw .nilFunc]⟩:=ar
@[go_sem] theorem Tryz.asx:aj prog 123=⟨.bK,1,false,[.raw .nilIface]⟩:=ar
@[go_sem] theorem Tryz.asy:aj prog 127=⟨.struct [(0,1,false),(1,1,false),(2,1,false)] [2,2,2],3,true,[.int .i64 0,.int .i64 0,.int .i64 0]⟩:=ar
@[go_sem] theorem Tryz.asz:aj prog 129=⟨.struct [(0,1,false),(1,1,false),(2,1,false)] [2,2,2],3,true,[.int .i64 0,.int .i64 0,.int .i64 0]⟩:=ar
@[go_sem] theorem Tryz.asA:aj prog 131=⟨.struct [(0,1,false),(1,1,false),(2,1,false),(3,1,false)] [2,2,2,2],4,true,[.int .i64 0,.int .i64 0,.int .i64 0,.int .i64 0]⟩:=ar
@[go_sem] theorem Tryz.asB:aj prog 136=⟨.other,1,false,[.raw .nilFunc]⟩:=ar
@[go_sem] theorem Tryz.asC:aj prog 139=⟨.slice 20 1 16 false,1,false,[.ak]⟩:=ar
@[go_sem] theorem Tryz.asD:aj prog 142=⟨.slice 212 4 40 true,1,false,[.ak]⟩:=ar
@[go_sem] theorem Tryz.asE:aj prog 144=⟨.struct [(0,1,false)] [],1,true,[.ak]⟩:=ar
@[go_sem] theorem Tryz.asF:aj prog 152=⟨.struct [(0,1,false),(1,1,false),(2,1,false),(3,1,false),(4,1,false)] [],5,true,[.str [],.str [],.int .i64 0,.ak,.int .i64 0]⟩:=ar
@[go_sem] theorem Tryz.asG:aj prog 154=⟨.slice 161 3 40 true,1,false,[.ak]⟩:=ar
@[go_sem] theorem Tryz.asH:aj prog 155=⟨.slice 210 2 24 true,1,false,[.ak]⟩:=ar
@[go_sem] theorem Tryz.asI:aj prog 157=⟨.struct [(0,1,false),(1,1,false),(2,1,false),(3,1,false),(4,1,false)] [],5,true,[.str [],.int .i64 0,.ak,.ak,.int .i64 0]⟩:=ar
@[go_sem] theorem Tryz.asJ:aj prog 161=⟨.struct [(0,1,false),(1,1,false),(2,1,false)] [3,2,3],3,true,[.str [],.int .i64 0,.str []]⟩:=ar
@[go_sem] theorem Tryz.asK:aj prog 163=⟨.struct [(0,1,false),(1,1,false)] [],2,true,[.str [],.ak]⟩:=ar
@[go_sem] theorem Tryz.asL:aj prog 167=⟨.other,1,false,[.raw .nilFunc]⟩:=ar
@[go_sem] theorem Tryz.asM:aj prog 178=⟨.map 9 184,1,false,[.raw (.map none)]⟩:=ar
@[go_sem] theorem Tryz.asN:aj prog 181=⟨.struct [(0,1,false),(1,1,false)] [2,2],2,true,[.int .i64 0,.int .i64 0]⟩:=ar
@[go_sem] theorem Tryz.asO:aj prog 182=⟨.other,1,false,[.raw .nilFunc]⟩:=ar
@[go_sem] theorem Tryz.asP:aj prog 184=⟨.struct [(0,2,true),(2,1,false)] [],3,true,[.int .i64 0,.int .i64 0,.raw .nilFunc]⟩:=ar
@[go_sem] theorem Tryz.asQ:aj prog 188=⟨.struct [(0,1,false)] [],1,true,[.ak]⟩:=ar
@[go_sem] theorem Tryz.asR:aj prog 203=⟨.struct [(0,1,false),(1,1,false)] [],2,true,[.int .i64 0,.raw .nilFunc]⟩:=ar
@[go_sem] theorem Tryz.asS:aj prog 204=⟨.slice 203 2 16 true,1,false,[.ak]⟩:=ar
@[go_sem] theorem Tryz.asT:aj prog 208=⟨.str,1,false,[.str []]⟩:=ar
@[go_sem] theorem Tryz.asU:aj prog 210=⟨.struct [(0,1,false),(1,1,false)] [2,3],2,true,[.int .i64 0,.str []]⟩:=ar
@[go_sem] theorem Tryz.asV:aj prog 212=⟨.struct [(0,1,false),(1,1,false),(2,1,false),(3,1,false)] [2,3,2,2],4,true,[.int .i64 0,.str [],.int .i64 0,.int .i64 0]⟩:=ar
@[go_sem] theorem Tryz.asW:aj prog 215=⟨.struct [(0,1,false)] [2],1,true,[.int .i64 0]⟩:=ar
@[go_sem] theorem Tryz.asX:aj prog 217=⟨.other,1,false,[.raw (.pointer none)]⟩:=ar
@[go_sem] theorem Tryz.asY:aj prog 219=⟨.struct [(0,1,false),(1,1,false),(2,6,true)] [],8,true,[.ak,.int .i64 0,.str [],.ak,.str [],.int .i64 0,.ak,.ak]⟩:=ar
@[go_sem] theorem Tryz.asZ:aj prog 220=⟨.slice 1 1 8 false,1,false,[.ak]⟩:=ar
@[go_sem] theorem Tryz.as0:aj prog 228=⟨.struct [] [],0,true,[]⟩:=ar
@[go_sem] theorem Tryz.as1:aj prog 235=⟨.struct [] [],0,true,[]⟩:=ar
@[go_sem] theorem Tryz.as2:aj prog 269=⟨.arr 2 1 false,2,true,[.int .i64 0,.int .i64 0]⟩:=ar
@[go_sem] theorem Tryz.as3:aj prog 285=⟨.map 9 3,1,false,[.raw (.map none)]⟩:=ar
@[go_sem] theorem Tryz.as4:aj prog 287=⟨.other,1,false,[.raw .nilFunc]⟩:=ar
@[go_sem] theorem Tryz.as5:aj prog 291=⟨.slice 39 1 8 false,1,false,[.ak]⟩:=ar
@[go_sem] theorem Tryz.as6:aj prog 293=⟨.other,1,false,[.raw .nilFunc]⟩:=ar
@[go_sem] theorem Tryz.as7:aj prog 295=⟨.map 3 95,1,false,[.raw (.map none)]⟩:=ar
@[go_sem] theorem Tryz.as8:aj prog 306=⟨.map 3 365,1,false,[.raw (.map none)]⟩:=ar
@[go_sem] theorem Tryz.as9:aj prog 315=⟨.slice 269 2 16 true,1,false,[.ak]⟩:=ar
@[go_sem] theorem Tryz.as_:aj prog 329=⟨.int .i64,1,false,[.int .i64 0]⟩:=ar
@[go_sem] theorem Tryz.ata:aj prog 330=⟨.other,1,false,[.raw .nilFunc]⟩:=ar
@[go_sem] theorem Tryz.atb:aj prog 331=⟨.arr 6 1 false,6,true,[.raw .nilFunc,.raw .nilFunc,.raw .nilFunc,.raw .nilFunc,.raw .nilFunc,.raw .nilFunc]⟩:=ar
@[go_sem] theorem Tryz.atc:aj prog 333=⟨.struct [(0,6,true)] [],6,true,[.raw .nilFunc,.raw .nilFunc,.raw .nilFunc,.raw .nilFunc,.raw .nilFunc,.raw .nilFunc]⟩:=ar
@[go_sem] theorem Tryz.atd:aj prog 336=⟨.struct [(0,1,false),(1,1,false),(2,1,false)] [],3,true,[.str [],.int .i64 0,.ak]⟩:=ar
@[go_sem] theorem Tryz.ate:aj prog 339=⟨.other,1,false,[.raw .nilFunc]⟩:=ar
@[go_sem] theorem Tryz.atf:aj prog 340=⟨.other,1,false,[.raw .nilFunc]⟩:=ar
@[go_sem] theorem Tryz.atg:aj prog 342=⟨.other,1,false,[.raw .nilFunc]⟩:=ar
@[go_sem] theorem Tryz.ath:aj prog 345=⟨.map 9 4,1,false,[.raw (.map none)]⟩:=ar
@[go_sem] theorem Tryz.ati:aj prog 352=⟨.struct [(0,1,false)] [],1,true,[.raw .nilFunc]⟩:=ar
@[go_sem] theorem Tryz.atj:aj prog 353=⟨.arr 5 1 true,5,true,[.raw .nilFunc,.raw .nilFunc,.raw .nilFunc,.raw .nilFunc,.raw .nilFunc]⟩:=ar
@[go_sem] theorem Tryz.atk:aj prog 359=⟨.other,1,false,[.raw .nilFunc]⟩:=ar
@[go_sem] theorem Tryz.atl:aj prog 361=⟨.struct [(0,1,false),(1,1,false),(2,1,false),(3,1,false),(4,1,false)] [],5,true,[.bool false,.bool false,.bool false,.bool false,.raw .nilFunc]⟩:=ar
@[go_sem] theorem Tryz.atm:aj prog 362=⟨.arr 5 5 true,25,true,[.bool false,.bool false,.bool false,.bool false,.raw .nilFunc,.bool false,.bool false,.bool false,.bool false,.raw .nilFunc,.bool false,.bool false,.bool false,.bool false,.raw .nilFunc,.bool false,.bool false,.bool false,.bool false,.raw .nilFunc,.bool false,.bool false,.bool false,.bool false,.raw .nilFunc]⟩:=ar
@[go_sem] theorem Tryz.atn:aj prog 365=⟨.struct [(0,1,false),(1,1,false)] [1,2],2,true,[.bool false,.int .i64 0]⟩:=ar
@[go_sem] theorem Tryz.ato:aj prog 369=⟨.struct [(0,14,true)] [],14,true,[.int .i64 0,.int .i64 0,.int .i64 0,.int .i64 0,.int .i64 0,.int .i64 0,.bool false,.ak,.int .i64 0,.ak,.ak,.int .i64 0,.int .i64 0,.ak]⟩:=ar
@[go_sem] theorem Tryz.atp:aj prog 370=⟨.struct [(0,14,true)] [],14,true,[.int .i64 0,.int .i64 0,.int .i64 0,.int .i64 0,.int .i64 0,.int .i64 0,.bool false,.ak,.int .i64 0,.ak,.ak,.int .i64 0,.int .i64 0,.ak]⟩:=ar
@[go_sem] theorem Tryz.atq:aj prog 377=⟨.int .u32,1,false,[.int .u32 0]⟩:=ar
@[go_sem] theorem Tryz.atr:aj prog 389=⟨.slice 48 1 24 false,1,false,[.ak]⟩:=ar
@[go_sem] theorem Tryz.att:aj prog 390=⟨.slice 154 1 24 false,1,false,[.ak]⟩:=ar
@[go_sem] theorem Tryz.atu:aj prog 392=⟨.slice 75 1 24 false,1,false,[.ak]⟩:=ar
@[go_sem] theorem Tryz.atv:aj prog 394=⟨.slice 76 1 24 false,1,false,[.ak]⟩:=ar
@[go_sem] theorem Tryz.atw:aj prog 402=⟨.slice 4 1 1 false,1,false,[.ak]⟩:=ar
@[go_sem] theorem Tryz.atx:aj prog 408=⟨.slice 98 1 24 false,1,false,[.ak]⟩:=ar
@[go_sem] theorem Tryz.zv3:zeroV prog 3=some (.int .i64 0):=ar
@[go_sem] theorem Tryz.zv4:zeroV prog 4=some (.bool false):=ar
@[go_sem] theorem Tryz.auk:zeroV prog 95=some (.agg [.int .i64 0,.int .i64 0,.int .i64 0,.int .i64 0]):=ar
@[go_sem] theorem Tryz.aty:zeroV prog 184=some (.agg [.int .i64 0,.int .i64 0,.raw .nilFunc]):=ar
@[go_sem] theorem Tryz.atB:zeroV prog 365=some (.agg [.bool false,.int .i64 0]):=ar
@[go_sem] theorem Tryz.atz:zeroV prog 228=some (.agg []):=ar
@[go_sem] theorem Tryz.atA:zeroV prog 235=some (.agg []):=ar
end Go.V
