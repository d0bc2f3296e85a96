/- Made by gen_ti.py: of each type of this seat: what tiOf gives. -/
import Derived.Test.YtgcbdhnkigmfpaaGreatDoorVA
import Derived.Test.YtgcbdhnkigmfpaaGreatDoorRows
namespace Go.V
open Go.Proofs
@[go_sem] theorem Tryz.ti1 : tiOf Tryz.prog 1 = ⟨.other, 1, false, [.raw .nilFunc]⟩ := by kernel_rfl
@[go_sem] theorem Tryz.ti2 : tiOf Tryz.prog 2 = ⟨.int .i64, 1, false, [.int .i64 0]⟩ := by kernel_rfl
@[go_sem] theorem Tryz.ti3 : tiOf Tryz.prog 3 = ⟨.int .i64, 1, false, [.int .i64 0]⟩ := by kernel_rfl
@[go_sem] theorem Tryz.ti4 : tiOf Tryz.prog 4 = ⟨.bool, 1, false, [.bool false]⟩ := by kernel_rfl
@[go_sem] theorem Tryz.ti5 : tiOf Tryz.prog 5 = ⟨.int .u8, 1, false, [.int .u8 0]⟩ := by kernel_rfl
@[go_sem] theorem Tryz.ti9 : tiOf Tryz.prog 9 = ⟨.str, 1, false, [.str []]⟩ := by kernel_rfl
@[go_sem] theorem Tryz.ti12 : tiOf Tryz.prog 12 = ⟨.int .u64, 1, false, [.int .u64 0]⟩ := by kernel_rfl
@[go_sem] theorem Tryz.ti15 : tiOf Tryz.prog 15 = ⟨.other, 1, false, [.raw (.pointer none)]⟩ := by kernel_rfl
@[go_sem] theorem Tryz.ti16 : tiOf Tryz.prog 16 = ⟨.other, 1, false, [.raw (.pointer none)]⟩ := by kernel_rfl
@[go_sem] theorem Tryz.ti17 : tiOf Tryz.prog 17 = ⟨.other, 1, false, [.raw (.pointer none)]⟩ := by kernel_rfl
@[go_sem] theorem Tryz.ti20 : tiOf Tryz.prog 20 = ⟨.ifc, 1, false, [.raw .nilIface]⟩ := by kernel_rfl
@[go_sem] theorem Tryz.ti21 : tiOf Tryz.prog 21 = ⟨.int .i32, 1, false, [.int .i32 0]⟩ := by kernel_rfl
@[go_sem] theorem Tryz.ti22 : tiOf Tryz.prog 22 = ⟨.slice 9 1 16 false, 1, false, [.nilsl]⟩ := by kernel_rfl
@[go_sem] theorem Tryz.ti23 : tiOf Tryz.prog 23 = ⟨.slice 44 5 72 true, 1, false, [.nilsl]⟩ := by kernel_rfl
@[go_sem] theorem Tryz.ti24 : tiOf Tryz.prog 24 = ⟨.slice 42 5 80 true, 1, false, [.nilsl]⟩ := by kernel_rfl
@[go_sem] theorem Tryz.ti25 : tiOf Tryz.prog 25 = ⟨.struct [(0, 1, false), (1, 1, false), (2, 1, false), (3, 1, false), (4, 1, false), (5, 1, false)] [], 6, true, [.str [], .nilsl, .str [], .int .i64 0, .nilsl, .nilsl]⟩ := by kernel_rfl
@[go_sem] theorem Tryz.ti26 : tiOf Tryz.prog 26 = ⟨.struct [(0, 1, false), (1, 1, false), (2, 1, false), (3, 1, false), (4, 1, false), (5, 1, false)] [], 6, true, [.str [], .nilsl, .str [], .int .i64 0, .nilsl, .nilsl]⟩ := by kernel_rfl
@[go_sem] theorem Tryz.ti27 : tiOf Tryz.prog 27 = ⟨.other, 1, false, [.raw .nilFunc]⟩ := by kernel_rfl
@[go_sem] theorem Tryz.ti28 : tiOf Tryz.prog 28 = ⟨.other, 1, false, [.raw .nilFunc]⟩ := by kernel_rfl
@[go_sem] theorem Tryz.ti29 : tiOf Tryz.prog 29 = ⟨.int .i64, 1, false, [.int .i64 0]⟩ := by kernel_rfl
@[go_sem] theorem Tryz.ti31 : tiOf Tryz.prog 31 = ⟨.other, 1, false, [.raw .nilFunc]⟩ := by kernel_rfl
@[go_sem] theorem Tryz.ti32 : tiOf Tryz.prog 32 = ⟨.other, 1, false, [.raw .nilFunc]⟩ := by kernel_rfl
@[go_sem] theorem Tryz.ti34 : tiOf Tryz.prog 34 = ⟨.other, 1, false, [.raw .nilFunc]⟩ := by kernel_rfl
@[go_sem] theorem Tryz.ti36 : tiOf Tryz.prog 36 = ⟨.other, 1, false, [.raw .nilFunc]⟩ := by kernel_rfl
@[go_sem] theorem Tryz.ti37 : tiOf Tryz.prog 37 = ⟨.other, 1, false, [.raw .nilFunc]⟩ := by kernel_rfl
@[go_sem] theorem Tryz.ti38 : tiOf Tryz.prog 38 = ⟨.other, 1, false, [.raw .nilFunc]⟩ := by kernel_rfl
@[go_sem] theorem Tryz.ti39 : tiOf Tryz.prog 39 = ⟨.slice 46 3 40 true, 1, false, [.nilsl]⟩ := by kernel_rfl
@[go_sem] theorem Tryz.ti40 : tiOf Tryz.prog 40 = ⟨.slice 70 2 24 true, 1, false, [.nilsl]⟩ := by kernel_rfl
@[go_sem] theorem Tryz.ti41 : tiOf Tryz.prog 41 = ⟨.struct [(0, 1, false), (1, 1, false), (2, 1, false), (3, 1, false), (4, 1, false)] [], 5, true, [.str [], .int .i64 0, .nilsl, .nilsl, .int .i64 0]⟩ := by kernel_rfl
@[go_sem] theorem Tryz.ti42 : tiOf Tryz.prog 42 = ⟨.struct [(0, 1, false), (1, 1, false), (2, 1, false), (3, 1, false), (4, 1, false)] [], 5, true, [.str [], .int .i64 0, .nilsl, .nilsl, .int .i64 0]⟩ := by kernel_rfl
@[go_sem] theorem Tryz.ti43 : tiOf Tryz.prog 43 = ⟨.struct [(0, 1, false), (1, 1, false), (2, 1, false), (3, 1, false), (4, 1, false)] [], 5, true, [.str [], .str [], .int .i64 0, .nilsl, .int .i64 0]⟩ := by kernel_rfl
@[go_sem] theorem Tryz.ti44 : tiOf Tryz.prog 44 = ⟨.struct [(0, 1, false), (1, 1, false), (2, 1, false), (3, 1, false), (4, 1, false)] [], 5, true, [.str [], .str [], .int .i64 0, .nilsl, .int .i64 0]⟩ := by kernel_rfl
@[go_sem] theorem Tryz.ti45 : tiOf Tryz.prog 45 = ⟨.struct [(0, 1, false), (1, 1, false), (2, 1, false)] [3, 2, 3], 3, true, [.str [], .int .i64 0, .str []]⟩ := by kernel_rfl
@[go_sem] theorem Tryz.ti46 : tiOf Tryz.prog 46 = ⟨.struct [(0, 1, false), (1, 1, false), (2, 1, false)] [3, 2, 3], 3, true, [.str [], .int .i64 0, .str []]⟩ := by kernel_rfl
@[go_sem] theorem Tryz.ti47 : tiOf Tryz.prog 47 = ⟨.other, 1, false, [.raw .nilFunc]⟩ := by kernel_rfl
@[go_sem] theorem Tryz.ti48 : tiOf Tryz.prog 48 = ⟨.other, 1, false, [.raw .nilFunc]⟩ := by kernel_rfl
@[go_sem] theorem Tryz.ti49 : tiOf Tryz.prog 49 = ⟨.other, 1, false, [.raw (.pointer none)]⟩ := by kernel_rfl
@[go_sem] theorem Tryz.ti50 : tiOf Tryz.prog 50 = ⟨.slice 77 4 40 true, 1, false, [.nilsl]⟩ := by kernel_rfl
@[go_sem] theorem Tryz.ti51 : tiOf Tryz.prog 51 = ⟨.struct [(0, 1, false)] [], 1, true, [.nilsl]⟩ := by kernel_rfl
@[go_sem] theorem Tryz.ti52 : tiOf Tryz.prog 52 = ⟨.struct [(0, 1, false)] [], 1, true, [.nilsl]⟩ := by kernel_rfl
@[go_sem] theorem Tryz.ti53 : tiOf Tryz.prog 53 = ⟨.other, 1, false, [.raw .nilFunc]⟩ := by kernel_rfl
@[go_sem] theorem Tryz.ti54 : tiOf Tryz.prog 54 = ⟨.other, 1, false, [.raw .nilFunc]⟩ := by kernel_rfl
@[go_sem] theorem Tryz.ti55 : tiOf Tryz.prog 55 = ⟨.other, 1, false, [.raw .nilFunc]⟩ := by kernel_rfl
@[go_sem] theorem Tryz.ti57 : tiOf Tryz.prog 57 = ⟨.other, 1, false, [.raw .nilFunc]⟩ := by kernel_rfl
@[go_sem] theorem Tryz.ti58 : tiOf Tryz.prog 58 = ⟨.map 9 3, 1, false, [.raw (.map none)]⟩ := by kernel_rfl
@[go_sem] theorem Tryz.ti60 : tiOf Tryz.prog 60 = ⟨.other, 1, false, [.raw .nilFunc]⟩ := by kernel_rfl
@[go_sem] theorem Tryz.ti61 : tiOf Tryz.prog 61 = ⟨.other, 1, false, [.raw .nilFunc]⟩ := by kernel_rfl
@[go_sem] theorem Tryz.ti62 : tiOf Tryz.prog 62 = ⟨.other, 1, false, [.raw .nilFunc]⟩ := by kernel_rfl
@[go_sem] theorem Tryz.ti63 : tiOf Tryz.prog 63 = ⟨.other, 1, false, [.raw .nilFunc]⟩ := by kernel_rfl
@[go_sem] theorem Tryz.ti64 : tiOf Tryz.prog 64 = ⟨.other, 1, false, [.raw (.pointer none)]⟩ := by kernel_rfl
@[go_sem] theorem Tryz.ti65 : tiOf Tryz.prog 65 = ⟨.other, 1, false, [.raw .nilFunc]⟩ := by kernel_rfl
@[go_sem] theorem Tryz.ti66 : tiOf Tryz.prog 66 = ⟨.other, 1, false, [.raw .nilFunc]⟩ := by kernel_rfl
@[go_sem] theorem Tryz.ti67 : tiOf Tryz.prog 67 = ⟨.other, 1, false, [.raw .nilFunc]⟩ := by kernel_rfl
@[go_sem] theorem Tryz.ti68 : tiOf Tryz.prog 68 = ⟨.other, 1, false, [.raw .nilFunc]⟩ := by kernel_rfl
@[go_sem] theorem Tryz.ti69 : tiOf Tryz.prog 69 = ⟨.struct [(0, 1, false), (1, 1, false)] [2, 3], 2, true, [.int .i64 0, .str []]⟩ := by kernel_rfl
@[go_sem] theorem Tryz.ti70 : tiOf Tryz.prog 70 = ⟨.struct [(0, 1, false), (1, 1, false)] [2, 3], 2, true, [.int .i64 0, .str []]⟩ := by kernel_rfl
@[go_sem] theorem Tryz.ti71 : tiOf Tryz.prog 71 = ⟨.other, 1, false, [.raw .nilFunc]⟩ := by kernel_rfl
@[go_sem] theorem Tryz.ti72 : tiOf Tryz.prog 72 = ⟨.other, 1, false, [.raw .nilFunc]⟩ := by kernel_rfl
@[go_sem] theorem Tryz.ti73 : tiOf Tryz.prog 73 = ⟨.other, 1, false, [.raw .nilFunc]⟩ := by kernel_rfl
@[go_sem] theorem Tryz.ti74 : tiOf Tryz.prog 74 = ⟨.other, 1, false, [.raw .nilFunc]⟩ := by kernel_rfl
@[go_sem] theorem Tryz.ti75 : tiOf Tryz.prog 75 = ⟨.str, 1, false, [.str []]⟩ := by kernel_rfl
@[go_sem] theorem Tryz.ti76 : tiOf Tryz.prog 76 = ⟨.struct [(0, 1, false), (1, 1, false), (2, 1, false), (3, 1, false)] [2, 3, 2, 2], 4, true, [.int .i64 0, .str [], .int .i64 0, .int .i64 0]⟩ := by kernel_rfl
@[go_sem] theorem Tryz.ti77 : tiOf Tryz.prog 77 = ⟨.struct [(0, 1, false), (1, 1, false), (2, 1, false), (3, 1, false)] [2, 3, 2, 2], 4, true, [.int .i64 0, .str [], .int .i64 0, .int .i64 0]⟩ := by kernel_rfl
@[go_sem] theorem Tryz.ti78 : tiOf Tryz.prog 78 = ⟨.other, 1, false, [.raw .nilFunc]⟩ := by kernel_rfl
@[go_sem] theorem Tryz.ti79 : tiOf Tryz.prog 79 = ⟨.other, 1, false, [.raw .nilFunc]⟩ := by kernel_rfl
@[go_sem] theorem Tryz.ti80 : tiOf Tryz.prog 80 = ⟨.other, 1, false, [.raw .nilFunc]⟩ := by kernel_rfl
@[go_sem] theorem Tryz.ti81 : tiOf Tryz.prog 81 = ⟨.struct [(0, 1, false)] [2], 1, true, [.int .i64 0]⟩ := by kernel_rfl
@[go_sem] theorem Tryz.ti82 : tiOf Tryz.prog 82 = ⟨.struct [(0, 1, false)] [2], 1, true, [.int .i64 0]⟩ := by kernel_rfl
@[go_sem] theorem Tryz.ti84 : tiOf Tryz.prog 84 = ⟨.other, 1, false, [.raw (.pointer none)]⟩ := by kernel_rfl
@[go_sem] theorem Tryz.ti85 : tiOf Tryz.prog 85 = ⟨.struct [(0, 1, false), (1, 1, false), (2, 6, true)] [], 8, true, [.nilsl, .int .i64 0, .str [], .nilsl, .str [], .int .i64 0, .nilsl, .nilsl]⟩ := by kernel_rfl
@[go_sem] theorem Tryz.ti86 : tiOf Tryz.prog 86 = ⟨.struct [(0, 1, false), (1, 1, false), (2, 6, true)] [], 8, true, [.nilsl, .int .i64 0, .str [], .nilsl, .str [], .int .i64 0, .nilsl, .nilsl]⟩ := by kernel_rfl
@[go_sem] theorem Tryz.ti87 : tiOf Tryz.prog 87 = ⟨.slice 1 1 8 false, 1, false, [.nilsl]⟩ := by kernel_rfl
@[go_sem] theorem Tryz.ti88 : tiOf Tryz.prog 88 = ⟨.other, 1, false, [.raw .nilFunc]⟩ := by kernel_rfl
@[go_sem] theorem Tryz.ti89 : tiOf Tryz.prog 89 = ⟨.int .i64, 1, false, [.int .i64 0]⟩ := by kernel_rfl
@[go_sem] theorem Tryz.ti90 : tiOf Tryz.prog 90 = ⟨.other, 1, false, [.raw .nilFunc]⟩ := by kernel_rfl
@[go_sem] theorem Tryz.ti91 : tiOf Tryz.prog 91 = ⟨.arr 6 1 false, 6, true, [.raw .nilFunc, .raw .nilFunc, .raw .nilFunc, .raw .nilFunc, .raw .nilFunc, .raw .nilFunc]⟩ := by kernel_rfl
@[go_sem] theorem Tryz.ti92 : tiOf Tryz.prog 92 = ⟨.struct [(0, 6, true)] [], 6, true, [.raw .nilFunc, .raw .nilFunc, .raw .nilFunc, .raw .nilFunc, .raw .nilFunc, .raw .nilFunc]⟩ := by kernel_rfl
@[go_sem] theorem Tryz.ti93 : tiOf Tryz.prog 93 = ⟨.struct [(0, 6, true)] [], 6, true, [.raw .nilFunc, .raw .nilFunc, .raw .nilFunc, .raw .nilFunc, .raw .nilFunc, .raw .nilFunc]⟩ := by kernel_rfl
@[go_sem] theorem Tryz.ti94 : tiOf Tryz.prog 94 = ⟨.other, 1, false, [.raw (.pointer none)]⟩ := by kernel_rfl
@[go_sem] theorem Tryz.ti95 : tiOf Tryz.prog 95 = ⟨.struct [(0, 1, false), (1, 1, false), (2, 1, false)] [], 3, true, [.str [], .int .i64 0, .nilsl]⟩ := by kernel_rfl
@[go_sem] theorem Tryz.ti96 : tiOf Tryz.prog 96 = ⟨.struct [(0, 1, false), (1, 1, false), (2, 1, false)] [], 3, true, [.str [], .int .i64 0, .nilsl]⟩ := by kernel_rfl
@[go_sem] theorem Tryz.ti97 : tiOf Tryz.prog 97 = ⟨.other, 1, false, [.raw .nilFunc]⟩ := by kernel_rfl
@[go_sem] theorem Tryz.ti98 : tiOf Tryz.prog 98 = ⟨.other, 1, false, [.raw .nilFunc]⟩ := by kernel_rfl
@[go_sem] theorem Tryz.ti99 : tiOf Tryz.prog 99 = ⟨.other, 1, false, [.raw .nilFunc]⟩ := by kernel_rfl
@[go_sem] theorem Tryz.ti100 : tiOf Tryz.prog 100 = ⟨.other, 1, false, [.raw .nilFunc]⟩ := by kernel_rfl
@[go_sem] theorem Tryz.ti101 : tiOf Tryz.prog 101 = ⟨.other, 1, false, [.raw .nilFunc]⟩ := by kernel_rfl
@[go_sem] theorem Tryz.ti102 : tiOf Tryz.prog 102 = ⟨.other, 1, false, [.raw .nilFunc]⟩ := by kernel_rfl
@[go_sem] theorem Tryz.ti103 : tiOf Tryz.prog 103 = ⟨.other, 1, false, [.raw .nilFunc]⟩ := by kernel_rfl
@[go_sem] theorem Tryz.ti104 : tiOf Tryz.prog 104 = ⟨.slice 3 1 8 false, 1, false, [.nilsl]⟩ := by kernel_rfl
@[go_sem] theorem Tryz.ti105 : tiOf Tryz.prog 105 = ⟨.other, 1, false, [.raw .nilFunc]⟩ := by kernel_rfl
@[go_sem] theorem Tryz.ti106 : tiOf Tryz.prog 106 = ⟨.other, 1, false, [.raw .nilFunc]⟩ := by kernel_rfl
@[go_sem] theorem Tryz.ti107 : tiOf Tryz.prog 107 = ⟨.other, 1, false, [.raw .nilFunc]⟩ := by kernel_rfl
@[go_sem] theorem Tryz.ti108 : tiOf Tryz.prog 108 = ⟨.map 9 4, 1, false, [.raw (.map none)]⟩ := by kernel_rfl
@[go_sem] theorem Tryz.ti109 : tiOf Tryz.prog 109 = ⟨.other, 1, false, [.raw .nilFunc]⟩ := by kernel_rfl
@[go_sem] theorem Tryz.ti110 : tiOf Tryz.prog 110 = ⟨.slice 20 1 16 false, 1, false, [.nilsl]⟩ := by kernel_rfl
@[go_sem] theorem Tryz.ti111 : tiOf Tryz.prog 111 = ⟨.other, 1, false, [.raw .nilFunc]⟩ := by kernel_rfl
@[go_sem] theorem Tryz.ti112 : tiOf Tryz.prog 112 = ⟨.other, 1, false, [.raw .nilFunc]⟩ := by kernel_rfl
@[go_sem] theorem Tryz.ti113 : tiOf Tryz.prog 113 = ⟨.other, 1, false, [.raw (.pointer none)]⟩ := by kernel_rfl
@[go_sem] theorem Tryz.ti114 : tiOf Tryz.prog 114 = ⟨.slice 5 1 1 false, 1, false, [.nilsl]⟩ := by kernel_rfl
@[go_sem] theorem Tryz.ti115 : tiOf Tryz.prog 115 = ⟨.struct [(0, 1, false), (1, 1, false)] [], 2, true, [.raw (.pointer none), .nilsl]⟩ := by kernel_rfl
@[go_sem] theorem Tryz.ti116 : tiOf Tryz.prog 116 = ⟨.struct [(0, 1, false), (1, 1, false)] [], 2, true, [.raw (.pointer none), .nilsl]⟩ := by kernel_rfl
@[go_sem] theorem Tryz.ti117 : tiOf Tryz.prog 117 = ⟨.other, 1, false, [.raw .nilFunc]⟩ := by kernel_rfl
@[go_sem] theorem Tryz.ti118 : tiOf Tryz.prog 118 = ⟨.ifc, 1, false, [.raw .nilIface]⟩ := by kernel_rfl
@[go_sem] theorem Tryz.ti119 : tiOf Tryz.prog 119 = ⟨.ifc, 1, false, [.raw .nilIface]⟩ := by kernel_rfl
@[go_sem] theorem Tryz.ti121 : tiOf Tryz.prog 121 = ⟨.other, 1, false, [.raw .nilFunc]⟩ := by kernel_rfl
@[go_sem] theorem Tryz.ti122 : tiOf Tryz.prog 122 = ⟨.other, 1, false, [.raw .nilFunc]⟩ := by kernel_rfl
@[go_sem] theorem Tryz.ti123 : tiOf Tryz.prog 123 = ⟨.other, 1, false, [.raw .nilFunc]⟩ := by kernel_rfl
@[go_sem] theorem Tryz.ti124 : tiOf Tryz.prog 124 = ⟨.other, 1, false, [.raw .nilFunc]⟩ := by kernel_rfl
@[go_sem] theorem Tryz.ti125 : tiOf Tryz.prog 125 = ⟨.other, 1, false, [.raw .nilFunc]⟩ := by kernel_rfl
@[go_sem] theorem Tryz.ti126 : tiOf Tryz.prog 126 = ⟨.other, 1, false, [.raw .nilFunc]⟩ := by kernel_rfl
@[go_sem] theorem Tryz.ti127 : tiOf Tryz.prog 127 = ⟨.other, 1, false, [.raw .nilFunc]⟩ := by kernel_rfl
@[go_sem] theorem Tryz.ti128 : tiOf Tryz.prog 128 = ⟨.other, 1, false, [.raw .nilFunc]⟩ := by kernel_rfl
@[go_sem] theorem Tryz.ti129 : tiOf Tryz.prog 129 = ⟨.other, 1, false, [.raw .nilFunc]⟩ := by kernel_rfl
@[go_sem] theorem Tryz.ti130 : tiOf Tryz.prog 130 = ⟨.other, 1, false, [.raw .nilFunc]⟩ := by kernel_rfl
@[go_sem] theorem Tryz.ti131 : tiOf Tryz.prog 131 = ⟨.other, 1, false, [.raw .nilFunc]⟩ := by kernel_rfl
@[go_sem] theorem Tryz.ti132 : tiOf Tryz.prog 132 = ⟨.other, 1, false, [.raw .nilFunc]⟩ := by kernel_rfl
@[go_sem] theorem Tryz.ti133 : tiOf Tryz.prog 133 = ⟨.other, 1, false, [.raw .nilFunc]⟩ := by kernel_rfl
@[go_sem] theorem Tryz.ti134 : tiOf Tryz.prog 134 = ⟨.other, 1, false, [.raw .nilFunc]⟩ := by kernel_rfl
@[go_sem] theorem Tryz.ti135 : tiOf Tryz.prog 135 = ⟨.other, 1, false, [.raw .nilFunc]⟩ := by kernel_rfl
@[go_sem] theorem Tryz.ti136 : tiOf Tryz.prog 136 = ⟨.other, 1, false, [.raw .nilFunc]⟩ := by kernel_rfl
@[go_sem] theorem Tryz.ti137 : tiOf Tryz.prog 137 = ⟨.other, 1, false, [.raw .nilFunc]⟩ := by kernel_rfl
@[go_sem] theorem Tryz.ti138 : tiOf Tryz.prog 138 = ⟨.slice 22 1 24 false, 1, false, [.nilsl]⟩ := by kernel_rfl
@[go_sem] theorem Tryz.ti139 : tiOf Tryz.prog 139 = ⟨.other, 1, false, [.raw .nilFunc]⟩ := by kernel_rfl
@[go_sem] theorem Tryz.ti140 : tiOf Tryz.prog 140 = ⟨.slice 39 1 24 false, 1, false, [.nilsl]⟩ := by kernel_rfl
@[go_sem] theorem Tryz.ti141 : tiOf Tryz.prog 141 = ⟨.other, 1, false, [.raw .nilFunc]⟩ := by kernel_rfl
@[go_sem] theorem Tryz.ti142 : tiOf Tryz.prog 142 = ⟨.slice 23 1 24 false, 1, false, [.nilsl]⟩ := by kernel_rfl
@[go_sem] theorem Tryz.ti143 : tiOf Tryz.prog 143 = ⟨.other, 1, false, [.raw .nilFunc]⟩ := by kernel_rfl
@[go_sem] theorem Tryz.ti144 : tiOf Tryz.prog 144 = ⟨.slice 24 1 24 false, 1, false, [.nilsl]⟩ := by kernel_rfl
@[go_sem] theorem Tryz.ti145 : tiOf Tryz.prog 145 = ⟨.other, 1, false, [.raw .nilFunc]⟩ := by kernel_rfl
@[go_sem] theorem Tryz.ti146 : tiOf Tryz.prog 146 = ⟨.other, 1, false, [.raw .nilFunc]⟩ := by kernel_rfl
@[go_sem] theorem Tryz.ti147 : tiOf Tryz.prog 147 = ⟨.other, 1, false, [.raw .nilFunc]⟩ := by kernel_rfl
@[go_sem] theorem Tryz.ti148 : tiOf Tryz.prog 148 = ⟨.other, 1, false, [.raw (.pointer none)]⟩ := by kernel_rfl
@[go_sem] theorem Tryz.ti149 : tiOf Tryz.prog 149 = ⟨.other, 1, false, [.raw .nilFunc]⟩ := by kernel_rfl
@[go_sem] theorem Tryz.ti150 : tiOf Tryz.prog 150 = ⟨.other, 1, false, [.raw .nilFunc]⟩ := by kernel_rfl
@[go_sem] theorem Tryz.ti151 : tiOf Tryz.prog 151 = ⟨.other, 1, false, [.raw .nilFunc]⟩ := by kernel_rfl
@[go_sem] theorem Tryz.ti152 : tiOf Tryz.prog 152 = ⟨.other, 1, false, [.raw .nilFunc]⟩ := by kernel_rfl
@[go_sem] theorem Tryz.ti153 : tiOf Tryz.prog 153 = ⟨.other, 1, false, [.raw .nilFunc]⟩ := by kernel_rfl
@[go_sem] theorem Tryz.ti154 : tiOf Tryz.prog 154 = ⟨.other, 1, false, [.raw .nilFunc]⟩ := by kernel_rfl
@[go_sem] theorem Tryz.ti155 : tiOf Tryz.prog 155 = ⟨.other, 1, false, [.raw .nilFunc]⟩ := by kernel_rfl
@[go_sem] theorem Tryz.ti156 : tiOf Tryz.prog 156 = ⟨.arr 256 1 false, 256, true, [.int .u8 0, .int .u8 0, .int .u8 0, .int .u8 0, .int .u8 0, .int .u8 0, .int .u8 0, .int .u8 0, .int .u8 0, .int .u8 0, .int .u8 0, .int .u8 0, .int .u8 0, .int .u8 0, .int .u8 0, .int .u8 0, .int .u8 0, .int .u8 0, .int .u8 0, .int .u8 0, .int .u8 0, .int .u8 0, .int .u8 0, .int .u8 0, .int .u8 0, .int .u8 0, .int .u8 0, .int .u8 0, .int .u8 0, .int .u8 0, .int .u8 0, .int .u8 0, .int .u8 0, .int .u8 0, .int .u8 0, .int .u8 0, .int .u8 0, .int .u8 0, .int .u8 0, .int .u8 0, .int .u8 0, .int .u8 0, .int .u8 0, .int .u8 0, .int .u8 0, .int .u8 0, .int .u8 0, .int .u8 0, .int .u8 0, .int .u8 0, .int .u8 0, .int .u8 0, .int .u8 0, .int .u8 0, .int .u8 0, .int .u8 0, .int .u8 0, .int .u8 0, .int .u8 0, .int .u8 0, .int .u8 0, .int .u8 0, .int .u8 0, .int .u8 0, .int .u8 0, .int .u8 0, .int .u8 0, .int .u8 0, .int .u8 0, .int .u8 0, .int .u8 0, .int .u8 0, .int .u8 0, .int .u8 0, .int .u8 0, .int .u8 0, .int .u8 0, .int .u8 0, .int .u8 0, .int .u8 0, .int .u8 0, .int .u8 0, .int .u8 0, .int .u8 0, .int .u8 0, .int .u8 0, .int .u8 0, .int .u8 0, .int .u8 0, .int .u8 0, .int .u8 0, .int .u8 0, .int .u8 0, .int .u8 0, .int .u8 0, .int .u8 0, .int .u8 0, .int .u8 0, .int .u8 0, .int .u8 0, .int .u8 0, .int .u8 0, .int .u8 0, .int .u8 0, .int .u8 0, .int .u8 0, .int .u8 0, .int .u8 0, .int .u8 0, .int .u8 0, .int .u8 0, .int .u8 0, .int .u8 0, .int .u8 0, .int .u8 0, .int .u8 0, .int .u8 0, .int .u8 0, .int .u8 0, .int .u8 0, .int .u8 0, .int .u8 0, .int .u8 0, .int .u8 0, .int .u8 0, .int .u8 0, .int .u8 0, .int .u8 0, .int .u8 0, .int .u8 0, .int .u8 0, .int .u8 0, .int .u8 0, .int .u8 0, .int .u8 0, .int .u8 0, .int .u8 0, .int .u8 0, .int .u8 0, .int .u8 0, .int .u8 0, .int .u8 0, .int .u8 0, .int .u8 0, .int .u8 0, .int .u8 0, .int .u8 0, .int .u8 0, .int .u8 0, .int .u8 0, .int .u8 0, .int .u8 0, .int .u8 0, .int .u8 0, .int .u8 0, .int .u8 0, .int .u8 0, .int .u8 0, .int .u8 0, .int .u8 0, .int .u8 0, .int .u8 0, .int .u8 0, .int .u8 0, .int .u8 0, .int .u8 0, .int .u8 0, .int .u8 0, .int .u8 0, .int .u8 0, .int .u8 0, .int .u8 0, .int .u8 0, .int .u8 0, .int .u8 0, .int .u8 0, .int .u8 0, .int .u8 0, .int .u8 0, .int .u8 0, .int .u8 0, .int .u8 0, .int .u8 0, .int .u8 0, .int .u8 0, .int .u8 0, .int .u8 0, .int .u8 0, .int .u8 0, .int .u8 0, .int .u8 0, .int .u8 0, .int .u8 0, .int .u8 0, .int .u8 0, .int .u8 0, .int .u8 0, .int .u8 0, .int .u8 0, .int .u8 0, .int .u8 0, .int .u8 0, .int .u8 0, .int .u8 0, .int .u8 0, .int .u8 0, .int .u8 0, .int .u8 0, .int .u8 0, .int .u8 0, .int .u8 0, .int .u8 0, .int .u8 0, .int .u8 0, .int .u8 0, .int .u8 0, .int .u8 0, .int .u8 0, .int .u8 0, .int .u8 0, .int .u8 0, .int .u8 0, .int .u8 0, .int .u8 0, .int .u8 0, .int .u8 0, .int .u8 0, .int .u8 0, .int .u8 0, .int .u8 0, .int .u8 0, .int .u8 0, .int .u8 0, .int .u8 0, .int .u8 0, .int .u8 0, .int .u8 0, .int .u8 0, .int .u8 0, .int .u8 0, .int .u8 0, .int .u8 0, .int .u8 0, .int .u8 0, .int .u8 0, .int .u8 0, .int .u8 0, .int .u8 0, .int .u8 0, .int .u8 0, .int .u8 0, .int .u8 0, .int .u8 0, .int .u8 0, .int .u8 0, .int .u8 0]⟩ := by kernel_rfl
@[go_sem] theorem Tryz.ti157 : tiOf Tryz.prog 157 = ⟨.other, 1, false, [.raw .nilFunc]⟩ := by kernel_rfl
@[go_sem] theorem Tryz.ti158 : tiOf Tryz.prog 158 = ⟨.other, 1, false, [.raw .nilFunc]⟩ := by kernel_rfl
@[go_sem] theorem Tryz.ti159 : tiOf Tryz.prog 159 = ⟨.slice 104 1 24 false, 1, false, [.nilsl]⟩ := by kernel_rfl
@[go_sem] theorem Tryz.ti160 : tiOf Tryz.prog 160 = ⟨.other, 1, false, [.raw .nilFunc]⟩ := by kernel_rfl
@[go_sem] theorem Tryz.ti161 : tiOf Tryz.prog 161 = ⟨.other, 1, false, [.raw .nilFunc]⟩ := by kernel_rfl
@[go_sem] theorem Tryz.ti162 : tiOf Tryz.prog 162 = ⟨.other, 1, false, [.raw .nilFunc]⟩ := by kernel_rfl
@[go_sem] theorem Tryz.ti163 : tiOf Tryz.prog 163 = ⟨.other, 1, false, [.raw .nilFunc]⟩ := by kernel_rfl
@[go_sem] theorem Tryz.ti164 : tiOf Tryz.prog 164 = ⟨.arr 24 1 false, 24, true, [.int .u8 0, .int .u8 0, .int .u8 0, .int .u8 0, .int .u8 0, .int .u8 0, .int .u8 0, .int .u8 0, .int .u8 0, .int .u8 0, .int .u8 0, .int .u8 0, .int .u8 0, .int .u8 0, .int .u8 0, .int .u8 0, .int .u8 0, .int .u8 0, .int .u8 0, .int .u8 0, .int .u8 0, .int .u8 0, .int .u8 0, .int .u8 0]⟩ := by kernel_rfl
@[go_sem] theorem Tryz.ti165 : tiOf Tryz.prog 165 = ⟨.int .u64, 1, false, [.int .u64 0]⟩ := by kernel_rfl
@[go_sem] theorem Tryz.ti166 : tiOf Tryz.prog 166 = ⟨.other, 1, false, [.raw .nilFunc]⟩ := by kernel_rfl
@[go_sem] theorem Tryz.ti167 : tiOf Tryz.prog 167 = ⟨.other, 1, false, [.raw .nilFunc]⟩ := by kernel_rfl
@[go_sem] theorem Tryz.ti169 : tiOf Tryz.prog 169 = ⟨.other, 1, false, [.raw .nilFunc]⟩ := by kernel_rfl
@[go_sem] theorem Tryz.ti170 : tiOf Tryz.prog 170 = ⟨.other, 1, false, [.raw (.pointer none)]⟩ := by kernel_rfl
@[go_sem] theorem Tryz.ti171 : tiOf Tryz.prog 171 = ⟨.other, 1, false, [.raw .nilFunc]⟩ := by kernel_rfl
@[go_sem] theorem Tryz.ti172 : tiOf Tryz.prog 172 = ⟨.other, 1, false, [.raw .nilFunc]⟩ := by kernel_rfl
@[go_sem] theorem Tryz.ti173 : tiOf Tryz.prog 173 = ⟨.other, 1, false, [.raw .nilFunc]⟩ := by kernel_rfl
@[go_sem] theorem Tryz.ti174 : tiOf Tryz.prog 174 = ⟨.int .i64, 1, false, [.int .i64 0]⟩ := by kernel_rfl
@[go_sem] theorem Tryz.ti176 : tiOf Tryz.prog 176 = ⟨.other, 1, false, [.raw .nilFunc]⟩ := by kernel_rfl
@[go_sem] theorem Tryz.ti177 : tiOf Tryz.prog 177 = ⟨.other, 1, false, [.raw (.pointer none)]⟩ := by kernel_rfl
@[go_sem] theorem Tryz.ti178 : tiOf Tryz.prog 178 = ⟨.other, 1, false, [.raw .nilFunc]⟩ := by kernel_rfl
@[go_sem] theorem Tryz.ti179 : tiOf Tryz.prog 179 = ⟨.other, 1, false, [.raw .nilFunc]⟩ := by kernel_rfl
@[go_sem] theorem Tryz.ti180 : tiOf Tryz.prog 180 = ⟨.slice 182 2 16 true, 1, false, [.nilsl]⟩ := by kernel_rfl
@[go_sem] theorem Tryz.ti181 : tiOf Tryz.prog 181 = ⟨.struct [(0, 1, false), (1, 1, false)] [2, 2], 2, true, [.int .i64 0, .int .i64 0]⟩ := by kernel_rfl
@[go_sem] theorem Tryz.ti182 : tiOf Tryz.prog 182 = ⟨.struct [(0, 1, false), (1, 1, false)] [2, 2], 2, true, [.int .i64 0, .int .i64 0]⟩ := by kernel_rfl
@[go_sem] theorem Tryz.ti183 : tiOf Tryz.prog 183 = ⟨.int .u32, 1, false, [.int .u32 0]⟩ := by kernel_rfl
@[go_sem] theorem Tryz.ti184 : tiOf Tryz.prog 184 = ⟨.other, 1, false, [.raw .nilFunc]⟩ := by kernel_rfl
@[go_sem] theorem Tryz.ti185 : tiOf Tryz.prog 185 = ⟨.other, 1, false, [.raw (.pointer none)]⟩ := by kernel_rfl
@[go_sem] theorem Tryz.ti186 : tiOf Tryz.prog 186 = ⟨.other, 1, false, [.raw .nilFunc]⟩ := by kernel_rfl
@[go_sem] theorem Tryz.ti187 : tiOf Tryz.prog 187 = ⟨.other, 1, false, [.raw .nilFunc]⟩ := by kernel_rfl
@[go_sem] theorem Tryz.ti188 : tiOf Tryz.prog 188 = ⟨.other, 1, false, [.raw .nilFunc]⟩ := by kernel_rfl
@[go_sem] theorem Tryz.ti189 : tiOf Tryz.prog 189 = ⟨.arr 20 1 false, 20, true, [.int .u64 0, .int .u64 0, .int .u64 0, .int .u64 0, .int .u64 0, .int .u64 0, .int .u64 0, .int .u64 0, .int .u64 0, .int .u64 0, .int .u64 0, .int .u64 0, .int .u64 0, .int .u64 0, .int .u64 0, .int .u64 0, .int .u64 0, .int .u64 0, .int .u64 0, .int .u64 0]⟩ := by kernel_rfl
@[go_sem] theorem Tryz.ti190 : tiOf Tryz.prog 190 = ⟨.arr 65 1 false, 65, true, [.int .u8 0, .int .u8 0, .int .u8 0, .int .u8 0, .int .u8 0, .int .u8 0, .int .u8 0, .int .u8 0, .int .u8 0, .int .u8 0, .int .u8 0, .int .u8 0, .int .u8 0, .int .u8 0, .int .u8 0, .int .u8 0, .int .u8 0, .int .u8 0, .int .u8 0, .int .u8 0, .int .u8 0, .int .u8 0, .int .u8 0, .int .u8 0, .int .u8 0, .int .u8 0, .int .u8 0, .int .u8 0, .int .u8 0, .int .u8 0, .int .u8 0, .int .u8 0, .int .u8 0, .int .u8 0, .int .u8 0, .int .u8 0, .int .u8 0, .int .u8 0, .int .u8 0, .int .u8 0, .int .u8 0, .int .u8 0, .int .u8 0, .int .u8 0, .int .u8 0, .int .u8 0, .int .u8 0, .int .u8 0, .int .u8 0, .int .u8 0, .int .u8 0, .int .u8 0, .int .u8 0, .int .u8 0, .int .u8 0, .int .u8 0, .int .u8 0, .int .u8 0, .int .u8 0, .int .u8 0, .int .u8 0, .int .u8 0, .int .u8 0, .int .u8 0, .int .u8 0]⟩ := by kernel_rfl
@[go_sem] theorem Tryz.ti191 : tiOf Tryz.prog 191 = ⟨.int .u64, 1, false, [.int .u64 0]⟩ := by kernel_rfl
@[go_sem] theorem Tryz.ti192 : tiOf Tryz.prog 192 = ⟨.other, 1, false, [.raw .nilFunc]⟩ := by kernel_rfl
@[go_sem] theorem Tryz.ti194 : tiOf Tryz.prog 194 = ⟨.other, 1, false, [.raw .nilFunc]⟩ := by kernel_rfl
@[go_sem] theorem Tryz.ti195 : tiOf Tryz.prog 195 = ⟨.struct [(0, 1, false), (1, 1, false), (2, 1, false)] [], 3, true, [.str [], .str [], .raw .nilIface]⟩ := by kernel_rfl
@[go_sem] theorem Tryz.ti196 : tiOf Tryz.prog 196 = ⟨.struct [(0, 1, false), (1, 1, false), (2, 1, false)] [], 3, true, [.str [], .str [], .raw .nilIface]⟩ := by kernel_rfl
@[go_sem] theorem Tryz.ti197 : tiOf Tryz.prog 197 = ⟨.other, 1, false, [.raw .nilFunc]⟩ := by kernel_rfl
@[go_sem] theorem Tryz.ti198 : tiOf Tryz.prog 198 = ⟨.slice 204 3 6 true, 1, false, [.nilsl]⟩ := by kernel_rfl
@[go_sem] theorem Tryz.ti199 : tiOf Tryz.prog 199 = ⟨.slice 207 3 12 true, 1, false, [.nilsl]⟩ := by kernel_rfl
@[go_sem] theorem Tryz.ti200 : tiOf Tryz.prog 200 = ⟨.struct [(0, 1, false), (1, 1, false), (2, 1, false)] [], 3, true, [.nilsl, .nilsl, .int .i64 0]⟩ := by kernel_rfl
@[go_sem] theorem Tryz.ti201 : tiOf Tryz.prog 201 = ⟨.struct [(0, 1, false), (1, 1, false), (2, 1, false)] [], 3, true, [.nilsl, .nilsl, .int .i64 0]⟩ := by kernel_rfl
@[go_sem] theorem Tryz.ti202 : tiOf Tryz.prog 202 = ⟨.int .u16, 1, false, [.int .u16 0]⟩ := by kernel_rfl
@[go_sem] theorem Tryz.ti203 : tiOf Tryz.prog 203 = ⟨.struct [(0, 1, false), (1, 1, false), (2, 1, false)] [2, 2, 2], 3, true, [.int .u16 0, .int .u16 0, .int .u16 0]⟩ := by kernel_rfl
@[go_sem] theorem Tryz.ti204 : tiOf Tryz.prog 204 = ⟨.struct [(0, 1, false), (1, 1, false), (2, 1, false)] [2, 2, 2], 3, true, [.int .u16 0, .int .u16 0, .int .u16 0]⟩ := by kernel_rfl
@[go_sem] theorem Tryz.ti205 : tiOf Tryz.prog 205 = ⟨.other, 1, false, [.raw .nilFunc]⟩ := by kernel_rfl
@[go_sem] theorem Tryz.ti206 : tiOf Tryz.prog 206 = ⟨.struct [(0, 1, false), (1, 1, false), (2, 1, false)] [2, 2, 2], 3, true, [.int .u32 0, .int .u32 0, .int .u32 0]⟩ := by kernel_rfl
@[go_sem] theorem Tryz.ti207 : tiOf Tryz.prog 207 = ⟨.struct [(0, 1, false), (1, 1, false), (2, 1, false)] [2, 2, 2], 3, true, [.int .u32 0, .int .u32 0, .int .u32 0]⟩ := by kernel_rfl
@[go_sem] theorem Tryz.ti208 : tiOf Tryz.prog 208 = ⟨.other, 1, false, [.raw .nilFunc]⟩ := by kernel_rfl
@[go_sem] theorem Tryz.ti209 : tiOf Tryz.prog 209 = ⟨.other, 1, false, [.raw .nilFunc]⟩ := by kernel_rfl
@[go_sem] theorem Tryz.ti210 : tiOf Tryz.prog 210 = ⟨.other, 1, false, [.raw .nilFunc]⟩ := by kernel_rfl
@[go_sem] theorem Tryz.ti211 : tiOf Tryz.prog 211 = ⟨.other, 1, false, [.raw (.pointer none)]⟩ := by kernel_rfl
@[go_sem] theorem Tryz.ti212 : tiOf Tryz.prog 212 = ⟨.struct [(0, 1, false)] [3], 1, true, [.str []]⟩ := by kernel_rfl
@[go_sem] theorem Tryz.ti213 : tiOf Tryz.prog 213 = ⟨.struct [(0, 1, false)] [3], 1, true, [.str []]⟩ := by kernel_rfl
@[go_sem] theorem Tryz.ti214 : tiOf Tryz.prog 214 = ⟨.other, 1, false, [.raw (.pointer none)]⟩ := by kernel_rfl
@[go_sem] theorem Tryz.ti215 : tiOf Tryz.prog 215 = ⟨.other, 1, false, [.raw (.pointer none)]⟩ := by kernel_rfl
@[go_sem] theorem Tryz.ti216 : tiOf Tryz.prog 216 = ⟨.arr 32 1 false, 32, true, [.int .u8 0, .int .u8 0, .int .u8 0, .int .u8 0, .int .u8 0, .int .u8 0, .int .u8 0, .int .u8 0, .int .u8 0, .int .u8 0, .int .u8 0, .int .u8 0, .int .u8 0, .int .u8 0, .int .u8 0, .int .u8 0, .int .u8 0, .int .u8 0, .int .u8 0, .int .u8 0, .int .u8 0, .int .u8 0, .int .u8 0, .int .u8 0, .int .u8 0, .int .u8 0, .int .u8 0, .int .u8 0, .int .u8 0, .int .u8 0, .int .u8 0, .int .u8 0]⟩ := by kernel_rfl
@[go_sem] theorem Tryz.ti217 : tiOf Tryz.prog 217 = ⟨.arr 64 1 false, 64, true, [.int .u8 0, .int .u8 0, .int .u8 0, .int .u8 0, .int .u8 0, .int .u8 0, .int .u8 0, .int .u8 0, .int .u8 0, .int .u8 0, .int .u8 0, .int .u8 0, .int .u8 0, .int .u8 0, .int .u8 0, .int .u8 0, .int .u8 0, .int .u8 0, .int .u8 0, .int .u8 0, .int .u8 0, .int .u8 0, .int .u8 0, .int .u8 0, .int .u8 0, .int .u8 0, .int .u8 0, .int .u8 0, .int .u8 0, .int .u8 0, .int .u8 0, .int .u8 0, .int .u8 0, .int .u8 0, .int .u8 0, .int .u8 0, .int .u8 0, .int .u8 0, .int .u8 0, .int .u8 0, .int .u8 0, .int .u8 0, .int .u8 0, .int .u8 0, .int .u8 0, .int .u8 0, .int .u8 0, .int .u8 0, .int .u8 0, .int .u8 0, .int .u8 0, .int .u8 0, .int .u8 0, .int .u8 0, .int .u8 0, .int .u8 0, .int .u8 0, .int .u8 0, .int .u8 0, .int .u8 0, .int .u8 0, .int .u8 0, .int .u8 0, .int .u8 0]⟩ := by kernel_rfl
@[go_sem] theorem Tryz.ti220 : tiOf Tryz.prog 220 = ⟨.arr 0 1 false, 0, true, []⟩ := by kernel_rfl
@[go_sem] theorem Tryz.ti225 : tiOf Tryz.prog 225 = ⟨.other, 1, false, [.raw .nilFunc]⟩ := by kernel_rfl
@[go_sem] theorem Tryz.zv3 : zeroV Tryz.prog 3 = some (.int .i64 0) := by kernel_rfl
@[go_sem] theorem Tryz.zv4 : zeroV Tryz.prog 4 = some (.bool false) := by kernel_rfl
end Go.V
