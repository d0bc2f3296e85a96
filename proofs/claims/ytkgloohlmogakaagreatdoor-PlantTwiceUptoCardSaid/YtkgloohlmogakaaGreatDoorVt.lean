/- Made by gen_ti.py: of each type of this seat: what tiOf gives. -/
import Derived.Test.YtkgloohlmogakaaGreatDoorVA
import Derived.Test.YtkgloohlmogakaaGreatDoorRows
set_option linter.unusedSimpArgs false
set_option linter.unusedVariables false
namespace Go.V
open Go.Proofs
@[go_sem] theorem Tryz.Xr:ak Tryz.prog 3=⟨.int .i64,1,false,[.int .i64 0]⟩:=aj
@[go_sem] theorem Tryz.Xs:ak Tryz.prog 4=⟨.bool,1,false,[.bool false]⟩:=aj
@[go_sem] theorem Tryz.Xt:ak Tryz.prog 5=⟨.int .u8,1,false,[.int .u8 0]⟩:=aj
@[go_sem] theorem Tryz.Xu:ak Tryz.prog 9=⟨.str,1,false,[.str []]⟩:=aj
@[go_sem] theorem Tryz.WY:ak Tryz.prog 20=⟨.ifc,1,false,[.raw .nilIface]⟩:=aj
@[go_sem] theorem Tryz.WZ:ak Tryz.prog 21=⟨.int .i32,1,false,[.int .i32 0]⟩:=aj
@[go_sem] theorem Tryz.W0:ak Tryz.prog 23=⟨.struct [(0,1,false),(1,1,false),(2,1,false),(3,1,false),(4,1,false),(5,1,false),(6,1,false)] [2,2,2,2,2,2,2],7,true,[.int .i64 0,.int .i64 0,.int .i64 0,.int .i64 0,.int .i64 0,.int .i64 0,.int .i64 0]⟩:=aj
@[go_sem] theorem Tryz.W1:ak Tryz.prog 24=⟨.slice 81 6 112 true,1,false,[.nilsl]⟩:=aj
@[go_sem] theorem Tryz.W2:ak Tryz.prog 25=⟨.slice 194 8 104 true,1,false,[.nilsl]⟩:=aj
@[go_sem] theorem Tryz.W3:ak Tryz.prog 26=⟨.slice 196 10 80 true,1,false,[.nilsl]⟩:=aj
@[go_sem] theorem Tryz.W4:ak Tryz.prog 27=⟨.slice 119 5 40 true,1,false,[.nilsl]⟩:=aj
@[go_sem] theorem Tryz.W5:ak Tryz.prog 28=⟨.slice 121 7 56 true,1,false,[.nilsl]⟩:=aj
@[go_sem] theorem Tryz.W6:ak Tryz.prog 29=⟨.slice 133 14 176 true,1,false,[.nilsl]⟩:=aj
@[go_sem] theorem Tryz.W7:ak Tryz.prog 30=⟨.slice 204 4 32 true,1,false,[.nilsl]⟩:=aj
@[go_sem] theorem Tryz.W8:ak Tryz.prog 31=⟨.slice 48 8 80 true,1,false,[.nilsl]⟩:=aj
@[go_sem] theorem Tryz.W9:ak Tryz.prog 33=⟨.struct [(0,7,true),(7,1,false),(8,1,false),(9,1,false),(10,1,false),(11,1,false),(12,1,false),(13,1,false),(14,1,false)] [],15,true,[.int .i64 0,.int .i64 0,.int .i64 0,.int .i64 0,.int .i64 0,.int .i64 0,.int .i64 0,.nilsl,.nilsl,.nilsl,.nilsl,.nilsl,.nilsl,.nilsl,.nilsl]⟩:=aj
@[go_sem] theorem Tryz.W_:ak Tryz.prog 34=⟨.slice 71 1 24 false,1,false,[.nilsl]⟩:=aj
@[go_sem] theorem Tryz.Xa:ak Tryz.prog 36=⟨.struct [(0,1,false),(1,1,false),(2,1,false)] [],3,true,[.nilsl,.int .i64 0,.int .i64 0]⟩:=aj
@[go_sem] theorem Tryz.Xb:ak Tryz.prog 37=⟨.slice 144 2 32 true,1,false,[.nilsl]⟩:=aj
@[go_sem] theorem Tryz.Xc:ak Tryz.prog 39=⟨.struct [(0,1,false),(1,1,false),(2,1,false),(3,1,false)] [],4,true,[.nilsl,.nilsl,.int .i64 0,.bool false]⟩:=aj
@[go_sem] theorem Tryz.Xd:ak Tryz.prog 41=⟨.struct [(0,15,true),(15,3,true),(18,4,true)] [],22,true,[.int .i64 0,.int .i64 0,.int .i64 0,.int .i64 0,.int .i64 0,.int .i64 0,.int .i64 0,.nilsl,.nilsl,.nilsl,.nilsl,.nilsl,.nilsl,.nilsl,.nilsl,.nilsl,.int .i64 0,.int .i64 0,.nilsl,.nilsl,.int .i64 0,.bool false]⟩:=aj
@[go_sem] theorem Tryz.Xe:ak Tryz.prog 42=⟨.slice 123 5 64 true,1,false,[.nilsl]⟩:=aj
@[go_sem] theorem Tryz.Xf:ak Tryz.prog 44=⟨.struct [(0,1,false),(1,1,false),(2,1,false),(3,1,false)] [],4,true,[.int .i64 0,.int .i64 0,.int .i64 0,.nilsl]⟩:=aj
@[go_sem] theorem Tryz.Xg:ak Tryz.prog 46=⟨.struct [(0,1,false),(1,1,false),(2,4,true)] [],6,true,[.int .i64 0,.int .i64 0,.int .i64 0,.int .i64 0,.int .i64 0,.nilsl]⟩:=aj
@[go_sem] theorem Tryz.Xh:ak Tryz.prog 48=⟨.struct [(0,1,false),(1,1,false),(2,6,true)] [],8,true,[.int .i64 0,.int .i64 0,.int .i64 0,.int .i64 0,.int .i64 0,.int .i64 0,.int .i64 0,.nilsl]⟩:=aj
@[go_sem] theorem Tryz.Xi:ak Tryz.prog 53=⟨.int .i64,1,false,[.int .i64 0]⟩:=aj
@[go_sem] theorem Tryz.Xj:ak Tryz.prog 63=⟨.int .u16,1,false,[.int .u16 0]⟩:=aj
@[go_sem] theorem Tryz.Xk:ak Tryz.prog 71=⟨.slice 5 1 1 false,1,false,[.nilsl]⟩:=aj
@[go_sem] theorem Tryz.Xl:ak Tryz.prog 77=⟨.slice 9 1 16 false,1,false,[.nilsl]⟩:=aj
@[go_sem] theorem Tryz.Xm:ak Tryz.prog 78=⟨.slice 138 5 72 true,1,false,[.nilsl]⟩:=aj
@[go_sem] theorem Tryz.Xn:ak Tryz.prog 79=⟨.slice 142 5 80 true,1,false,[.nilsl]⟩:=aj
@[go_sem] theorem Tryz.Xo:ak Tryz.prog 81=⟨.struct [(0,1,false),(1,1,false),(2,1,false),(3,1,false),(4,1,false),(5,1,false)] [],6,true,[.str [],.nilsl,.str [],.int .i64 0,.nilsl,.nilsl]⟩:=aj
@[go_sem] theorem Tryz.VA:ak Tryz.prog 117=⟨.arr 4 1 false,4,true,[.int .i64 0,.int .i64 0,.int .i64 0,.int .i64 0]⟩:=aj
@[go_sem] theorem Tryz.VB:ak Tryz.prog 119=⟨.struct [(0,1,false),(1,4,true)] [0,2,2,2,2,2],5,true,[.int .i64 0,.int .i64 0,.int .i64 0,.int .i64 0,.int .i64 0]⟩:=aj
@[go_sem] theorem Tryz.VC:ak Tryz.prog 121=⟨.struct [(0,1,false),(1,1,false),(2,1,false),(3,1,false),(4,1,false),(5,1,false),(6,1,false)] [2,2,2,2,2,2,2],7,true,[.int .i64 0,.int .i64 0,.int .i64 0,.int .i64 0,.int .i64 0,.int .i64 0,.int .i64 0]⟩:=aj
@[go_sem] theorem Tryz.VD:ak Tryz.prog 123=⟨.struct [(0,1,false),(1,1,false),(2,1,false),(3,1,false),(4,1,false)] [],5,true,[.str [],.int .i64 0,.int .i64 0,.int .i64 0,.nilsl]⟩:=aj
@[go_sem] theorem Tryz.VE:ak Tryz.prog 124=⟨.slice 251 3 24 true,1,false,[.nilsl]⟩:=aj
@[go_sem] theorem Tryz.VF:ak Tryz.prog 125=⟨.slice 253 3 24 true,1,false,[.nilsl]⟩:=aj
@[go_sem] theorem Tryz.VG:ak Tryz.prog 127=⟨.struct [(0,1,false),(1,1,false),(2,1,false)] [],3,true,[.nilsl,.int .i64 0,.nilsl]⟩:=aj
@[go_sem] theorem Tryz.VH:ak Tryz.prog 128=⟨.slice 136 2 40 true,1,false,[.nilsl]⟩:=aj
@[go_sem] theorem Tryz.VI:ak Tryz.prog 129=⟨.slice 256 4 32 true,1,false,[.nilsl]⟩:=aj
@[go_sem] theorem Tryz.VJ:ak Tryz.prog 131=⟨.struct [(0,1,false),(1,1,false),(2,1,false)] [],3,true,[.int .i64 0,.int .i64 0,.nilsl]⟩:=aj
@[go_sem] theorem Tryz.VK:ak Tryz.prog 133=⟨.struct [(0,1,false),(1,1,false),(2,1,false),(3,1,false),(4,1,false),(5,1,false),(6,1,false),(7,3,true),(10,1,false),(11,3,true)] [],14,true,[.int .i64 0,.int .i64 0,.int .i64 0,.int .i64 0,.int .i64 0,.int .i64 0,.bool false,.nilsl,.int .i64 0,.nilsl,.nilsl,.int .i64 0,.int .i64 0,.nilsl]⟩:=aj
@[go_sem] theorem Tryz.VL:ak Tryz.prog 134=⟨.slice 3 1 8 false,1,false,[.nilsl]⟩:=aj
@[go_sem] theorem Tryz.VM:ak Tryz.prog 136=⟨.struct [(0,1,false),(1,1,false)] [],2,true,[.str [],.nilsl]⟩:=aj
@[go_sem] theorem Tryz.VN:ak Tryz.prog 138=⟨.struct [(0,1,false),(1,1,false),(2,1,false),(3,1,false),(4,1,false)] [],5,true,[.str [],.str [],.int .i64 0,.nilsl,.int .i64 0]⟩:=aj
@[go_sem] theorem Tryz.VO:ak Tryz.prog 139=⟨.slice 247 3 40 true,1,false,[.nilsl]⟩:=aj
@[go_sem] theorem Tryz.VP:ak Tryz.prog 140=⟨.slice 249 2 24 true,1,false,[.nilsl]⟩:=aj
@[go_sem] theorem Tryz.VQ:ak Tryz.prog 142=⟨.struct [(0,1,false),(1,1,false),(2,1,false),(3,1,false),(4,1,false)] [],5,true,[.str [],.int .i64 0,.nilsl,.nilsl,.int .i64 0]⟩:=aj
@[go_sem] theorem Tryz.VR:ak Tryz.prog 144=⟨.struct [(0,1,false),(1,1,false)] [],2,true,[.int .i64 0,.nilsl]⟩:=aj
@[go_sem] theorem Tryz.VT:ak Tryz.prog 156=⟨.slice 158 4 56 true,1,false,[.nilsl]⟩:=aj
@[go_sem] theorem Tryz.VU:ak Tryz.prog 158=⟨.struct [(0,1,false),(1,1,false),(2,1,false),(3,1,false)] [],4,true,[.int .i64 0,.int .i64 0,.str [],.nilsl]⟩:=aj
@[go_sem] theorem Tryz.VV:ak Tryz.prog 169=⟨.int .u64,1,false,[.int .u64 0]⟩:=aj
@[go_sem] theorem Tryz.VW:ak Tryz.prog 173=⟨.int .u64,1,false,[.int .u64 0]⟩:=aj
@[go_sem] theorem Tryz.VX:ak Tryz.prog 185=⟨.other,1,false,[.raw (.pointer none)]⟩:=aj
@[go_sem] theorem Tryz.VY:ak Tryz.prog 186=⟨.slice 185 1 8 false,1,false,[.nilsl]⟩:=aj
@[go_sem] theorem Tryz.VZ:ak Tryz.prog 187=⟨.other,1,false,[.raw .nilFunc]⟩:=aj
@[go_sem] theorem Tryz.V0:ak Tryz.prog 194=⟨.struct [(0,1,false),(1,1,false),(2,1,false),(3,1,false),(4,1,false),(5,1,false),(6,1,false),(7,1,false)] [],8,true,[.int .i64 0,.int .i64 0,.int .i64 0,.int .i64 0,.nilsl,.nilsl,.str [],.bool false]⟩:=aj
@[go_sem] theorem Tryz.V1:ak Tryz.prog 196=⟨.struct [(0,1,false),(1,1,false),(2,1,false),(3,1,false),(4,1,false),(5,1,false),(6,1,false),(7,1,false),(8,1,false),(9,1,false)] [2,2,2,2,2,2,2,2,2,2],10,true,[.int .i64 0,.int .i64 0,.int .i64 0,.int .i64 0,.int .i64 0,.int .i64 0,.int .i64 0,.int .i64 0,.int .i64 0,.int .i64 0]⟩:=aj
@[go_sem] theorem Tryz.V2:ak Tryz.prog 204=⟨.struct [(0,1,false),(1,1,false),(2,1,false),(3,1,false)] [2,2,2,2],4,true,[.int .i64 0,.int .i64 0,.int .i64 0,.int .i64 0]⟩:=aj
@[go_sem] theorem Tryz.V3:ak Tryz.prog 223=⟨.other,1,false,[.raw .nilFunc]⟩:=aj
@[go_sem] theorem Tryz.V4:ak Tryz.prog 228=⟨.other,1,false,[.raw .nilFunc]⟩:=aj
@[go_sem] theorem Tryz.V5:ak Tryz.prog 230=⟨.struct [(0,1,false)] [],1,true,[.raw .nilFunc]⟩:=aj
@[go_sem] theorem Tryz.V6:ak Tryz.prog 231=⟨.other,1,false,[.raw (.pointer none)]⟩:=aj
@[go_sem] theorem Tryz.V7:ak Tryz.prog 236=⟨.arr 128 1 false,128,true,[.int .u8 0,.int .u8 0,.int .u8 0,.int .u8 0,.int .u8 0,.int .u8 0,.int .u8 0,.int .u8 0,.int .u8 0,.int .u8 0,.int .u8 0,.int .u8 0,.int .u8 0,.int .u8 0,.int .u8 0,.int .u8 0,.int .u8 0,.int .u8 0,.int .u8 0,.int .u8 0,.int .u8 0,.int .u8 0,.int .u8 0,.int .u8 0,.int .u8 0,.int .u8 0,.int .u8 0,.int .u8 0,.int .u8 0,.int .u8 0,.int .u8 0,.int .u8 0,.int .u8 0,.int .u8 0,.int .u8 0,.int .u8 0,.int .u8 0,.int .u8 0,.int .u8 0,.int .u8 0,.int .u8 0,.int .u8 0,.int .u8 0,.int .u8 0,.int .u8 0,.int .u8 0,.int .u8 0,.int .u8 0,.int .u8 0,.int .u8 0,.int .u8 0,.int .u8 0,.int .u8 0,.int .u8 0,.int .u8 0,.int .u8 0,.int .u8 0,.int .u8 0,.int .u8 0,.int .u8 0,.int .u8 0,.int .u8 0,.int .u8 0,.int .u8 0,.int .u8 0,.int .u8 0,.int .u8 0,.int .u8 0,.int .u8 0,.int .u8 0,.int .u8 0,.int .u8 0,.int .u8 0,.int .u8 0,.int .u8 0,.int .u8 0,.int .u8 0,.int .u8 0,.int .u8 0,.int .u8 0,.int .u8 0,.int .u8 0,.int .u8 0,.int .u8 0,.int .u8 0,.int .u8 0,.int .u8 0,.int .u8 0,.int .u8 0,.int .u8 0,.int .u8 0,.int .u8 0,.int .u8 0,.int .u8 0,.int .u8 0,.int .u8 0,.int .u8 0,.int .u8 0,.int .u8 0,.int .u8 0,.int .u8 0,.int .u8 0,.int .u8 0,.int .u8 0,.int .u8 0,.int .u8 0,.int .u8 0,.int .u8 0,.int .u8 0,.int .u8 0,.int .u8 0,.int .u8 0,.int .u8 0,.int .u8 0,.int .u8 0,.int .u8 0,.int .u8 0,.int .u8 0,.int .u8 0,.int .u8 0,.int .u8 0,.int .u8 0,.int .u8 0,.int .u8 0,.int .u8 0,.int .u8 0,.int .u8 0,.int .u8 0]⟩:=aj
@[go_sem] theorem Tryz.V8:ak Tryz.prog 238=⟨.int .u32,1,false,[.int .u32 0]⟩:=aj
@[go_sem] theorem Tryz.V9:ak Tryz.prog 244=⟨.struct [(0,1,false)] [],1,true,[.nilsl]⟩:=aj
@[go_sem] theorem Tryz.V_:ak Tryz.prog 247=⟨.struct [(0,1,false),(1,1,false),(2,1,false)] [3,2,3],3,true,[.str [],.int .i64 0,.str []]⟩:=aj
@[go_sem] theorem Tryz.Wa:ak Tryz.prog 249=⟨.struct [(0,1,false),(1,1,false)] [2,3],2,true,[.int .i64 0,.str []]⟩:=aj
@[go_sem] theorem Tryz.Wb:ak Tryz.prog 251=⟨.struct [(0,1,false),(1,1,false),(2,1,false)] [2,2,2],3,true,[.int .i64 0,.int .i64 0,.int .i64 0]⟩:=aj
@[go_sem] theorem Tryz.Wc:ak Tryz.prog 253=⟨.struct [(0,1,false),(1,1,false),(2,1,false)] [2,2,2],3,true,[.int .i64 0,.int .i64 0,.int .i64 0]⟩:=aj
@[go_sem] theorem Tryz.Wd:ak Tryz.prog 256=⟨.struct [(0,1,false),(1,1,false),(2,1,false),(3,1,false)] [2,2,2,2],4,true,[.int .i64 0,.int .i64 0,.int .i64 0,.int .i64 0]⟩:=aj
@[go_sem] theorem Tryz.We:ak Tryz.prog 257=⟨.slice 53 1 8 false,1,false,[.nilsl]⟩:=aj
@[go_sem] theorem Tryz.Wf:ak Tryz.prog 264=⟨.other,1,false,[.raw .nilFunc]⟩:=aj
@[go_sem] theorem Tryz.Wg:ak Tryz.prog 266=⟨.map 3 117,1,false,[.raw (.map none)]⟩:=aj
@[go_sem] theorem Tryz.Wh:ak Tryz.prog 277=⟨.map 3 331,1,false,[.raw (.map none)]⟩:=aj
@[go_sem] theorem Tryz.Wi:ak Tryz.prog 292=⟨.slice 156 1 24 false,1,false,[.nilsl]⟩:=aj
@[go_sem] theorem Tryz.Wl:ak Tryz.prog 297=⟨.arr 4 1 true,4,true,[.raw .nilFunc,.raw .nilFunc,.raw .nilFunc,.raw .nilFunc]⟩:=aj
@[go_sem] theorem Tryz.Wm:ak Tryz.prog 307=⟨.map 9 3,1,false,[.raw (.map none)]⟩:=aj
@[go_sem] theorem Tryz.Wn:ak Tryz.prog 308=⟨.other,1,false,[.raw .nilFunc]⟩:=aj
@[go_sem] theorem Tryz.Wo:ak Tryz.prog 315=⟨.other,1,false,[.raw .nilFunc]⟩:=aj
@[go_sem] theorem Tryz.Wp:ak Tryz.prog 317=⟨.struct [(0,1,false)] [],1,true,[.raw .nilFunc]⟩:=aj
@[go_sem] theorem Tryz.Wq:ak Tryz.prog 318=⟨.arr 5 1 true,5,true,[.raw .nilFunc,.raw .nilFunc,.raw .nilFunc,.raw .nilFunc,.raw .nilFunc]⟩:=aj
@[go_sem] theorem Tryz.Wu:ak Tryz.prog 325=⟨.other,1,false,[.raw .nilFunc]⟩:=aj
@[go_sem] theorem Tryz.Wv:ak Tryz.prog 327=⟨.struct [(0,1,false),(1,1,false),(2,1,false),(3,1,false),(4,1,false)] [],5,true,[.bool false,.bool false,.bool false,.bool false,.raw .nilFunc]⟩:=aj
@[go_sem] theorem Tryz.Ww:ak Tryz.prog 328=⟨.arr 5 5 true,25,true,[.bool false,.bool false,.bool false,.bool false,.raw .nilFunc,.bool false,.bool false,.bool false,.bool false,.raw .nilFunc,.bool false,.bool false,.bool false,.bool false,.raw .nilFunc,.bool false,.bool false,.bool false,.bool false,.raw .nilFunc,.bool false,.bool false,.bool false,.bool false,.raw .nilFunc]⟩:=aj
@[go_sem] theorem Tryz.Wx:ak Tryz.prog 331=⟨.struct [(0,1,false),(1,1,false)] [1,2],2,true,[.bool false,.int .i64 0]⟩:=aj
@[go_sem] theorem Tryz.Wy:ak Tryz.prog 335=⟨.struct [(0,14,true)] [],14,true,[.int .i64 0,.int .i64 0,.int .i64 0,.int .i64 0,.int .i64 0,.int .i64 0,.bool false,.nilsl,.int .i64 0,.nilsl,.nilsl,.int .i64 0,.int .i64 0,.nilsl]⟩:=aj
@[go_sem] theorem Tryz.Wz:ak Tryz.prog 336=⟨.struct [(0,14,true)] [],14,true,[.int .i64 0,.int .i64 0,.int .i64 0,.int .i64 0,.int .i64 0,.int .i64 0,.bool false,.nilsl,.int .i64 0,.nilsl,.nilsl,.int .i64 0,.int .i64 0,.nilsl]⟩:=aj
@[go_sem] theorem Tryz.WA:ak Tryz.prog 346=⟨.arr 4 1 false,4,true,[.bool false,.bool false,.bool false,.bool false]⟩:=aj
@[go_sem] theorem Tryz.WB:ak Tryz.prog 349=⟨.other,1,false,[.raw .nilFunc]⟩:=aj
@[go_sem] theorem Tryz.WC:ak Tryz.prog 350=⟨.other,1,false,[.raw .nilFunc]⟩:=aj
@[go_sem] theorem Tryz.WD:ak Tryz.prog 352=⟨.other,1,false,[.raw .nilFunc]⟩:=aj
@[go_sem] theorem Tryz.WE:ak Tryz.prog 355=⟨.map 9 4,1,false,[.raw (.map none)]⟩:=aj
@[go_sem] theorem Tryz.WG:ak Tryz.prog 360=⟨.slice 4 1 1 false,1,false,[.nilsl]⟩:=aj
@[go_sem] theorem Tryz.WH:ak Tryz.prog 372=⟨.slice 77 1 24 false,1,false,[.nilsl]⟩:=aj
@[go_sem] theorem Tryz.WI:ak Tryz.prog 373=⟨.slice 139 1 24 false,1,false,[.nilsl]⟩:=aj
@[go_sem] theorem Tryz.WJ:ak Tryz.prog 375=⟨.slice 78 1 24 false,1,false,[.nilsl]⟩:=aj
@[go_sem] theorem Tryz.WK:ak Tryz.prog 377=⟨.slice 79 1 24 false,1,false,[.nilsl]⟩:=aj
@[go_sem] theorem Tryz.WM:ak Tryz.prog 382=⟨.struct [(0,1,false),(1,1,false)] [],2,true,[.int .i64 0,.raw .nilFunc]⟩:=aj
@[go_sem] theorem Tryz.WN:ak Tryz.prog 383=⟨.slice 382 2 16 true,1,false,[.nilsl]⟩:=aj
@[go_sem] theorem Tryz.WO:ak Tryz.prog 395=⟨.slice 134 1 24 false,1,false,[.nilsl]⟩:=aj
@[go_sem] theorem Tryz.WQ:ak Tryz.prog 398=⟨.struct [] [],0,true,[]⟩:=aj
@[go_sem] theorem Tryz.WR:ak Tryz.prog 405=⟨.arr 2 1 false,2,true,[.int .i64 0,.int .i64 0]⟩:=aj
@[go_sem] theorem Tryz.WS:ak Tryz.prog 418=⟨.slice 405 2 16 true,1,false,[.nilsl]⟩:=aj
@[go_sem] theorem Tryz.Xv:zeroV Tryz.prog 3=some (.int .i64 0):=aj
@[go_sem] theorem Tryz.Xw:zeroV Tryz.prog 4=some (.bool false):=aj
@[go_sem] theorem Tryz.WT:zeroV Tryz.prog 117=some (.agg [.int .i64 0,.int .i64 0,.int .i64 0,.int .i64 0]):=aj
@[go_sem] theorem Tryz.WU:zeroV Tryz.prog 331=some (.agg [.bool false,.int .i64 0]):=aj
@[go_sem] theorem Tryz.WV:zeroV Tryz.prog 398=some (.agg []):=aj
end Go.V
