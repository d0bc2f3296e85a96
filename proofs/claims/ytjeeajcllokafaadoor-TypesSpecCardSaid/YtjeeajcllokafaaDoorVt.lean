/- Made by gen_ti.py: of each type of this seat: what tiOf gives. -/
import Derived.Test.YtjeeajcllokafaaDoorVA
import Derived.Test.YtjeeajcllokafaaDoorRows
namespace Go.V
open Go.Proofs
@[go_sem] theorem Tryd.ti1 : tiOf Tryd.prog 1 = ⟨.other, 1, false, [.raw .nilFunc]⟩ := by kernel_rfl
@[go_sem] theorem Tryd.ti2 : tiOf Tryd.prog 2 = ⟨.int .i64, 1, false, [.int .i64 0]⟩ := by kernel_rfl
@[go_sem] theorem Tryd.ti3 : tiOf Tryd.prog 3 = ⟨.int .i64, 1, false, [.int .i64 0]⟩ := by kernel_rfl
@[go_sem] theorem Tryd.ti4 : tiOf Tryd.prog 4 = ⟨.bool, 1, false, [.bool false]⟩ := by kernel_rfl
@[go_sem] theorem Tryd.ti5 : tiOf Tryd.prog 5 = ⟨.int .u8, 1, false, [.int .u8 0]⟩ := by kernel_rfl
@[go_sem] theorem Tryd.ti9 : tiOf Tryd.prog 9 = ⟨.str, 1, false, [.str []]⟩ := by kernel_rfl
@[go_sem] theorem Tryd.ti12 : tiOf Tryd.prog 12 = ⟨.int .u64, 1, false, [.int .u64 0]⟩ := by kernel_rfl
@[go_sem] theorem Tryd.ti15 : tiOf Tryd.prog 15 = ⟨.other, 1, false, [.raw (.pointer none)]⟩ := by kernel_rfl
@[go_sem] theorem Tryd.ti16 : tiOf Tryd.prog 16 = ⟨.other, 1, false, [.raw (.pointer none)]⟩ := by kernel_rfl
@[go_sem] theorem Tryd.ti17 : tiOf Tryd.prog 17 = ⟨.other, 1, false, [.raw (.pointer none)]⟩ := by kernel_rfl
@[go_sem] theorem Tryd.ti20 : tiOf Tryd.prog 20 = ⟨.ifc, 1, false, [.raw .nilIface]⟩ := by kernel_rfl
@[go_sem] theorem Tryd.ti21 : tiOf Tryd.prog 21 = ⟨.int .i32, 1, false, [.int .i32 0]⟩ := by kernel_rfl
@[go_sem] theorem Tryd.ti22 : tiOf Tryd.prog 22 = ⟨.slice 9 1 16 false, 1, false, [.nilsl]⟩ := by kernel_rfl
@[go_sem] theorem Tryd.ti23 : tiOf Tryd.prog 23 = ⟨.slice 36 5 72 true, 1, false, [.nilsl]⟩ := by kernel_rfl
@[go_sem] theorem Tryd.ti24 : tiOf Tryd.prog 24 = ⟨.slice 40 5 80 true, 1, false, [.nilsl]⟩ := by kernel_rfl
@[go_sem] theorem Tryd.ti25 : tiOf Tryd.prog 25 = ⟨.struct [(0, 1, false), (1, 1, false), (2, 1, false), (3, 1, false), (4, 1, false), (5, 1, false)] [], 6, true, [.str [], .nilsl, .str [], .int .i64 0, .nilsl, .nilsl]⟩ := by kernel_rfl
@[go_sem] theorem Tryd.ti26 : tiOf Tryd.prog 26 = ⟨.struct [(0, 1, false), (1, 1, false), (2, 1, false), (3, 1, false), (4, 1, false), (5, 1, false)] [], 6, true, [.str [], .nilsl, .str [], .int .i64 0, .nilsl, .nilsl]⟩ := by kernel_rfl
@[go_sem] theorem Tryd.ti27 : tiOf Tryd.prog 27 = ⟨.other, 1, false, [.raw .nilFunc]⟩ := by kernel_rfl
@[go_sem] theorem Tryd.ti28 : tiOf Tryd.prog 28 = ⟨.other, 1, false, [.raw .nilFunc]⟩ := by kernel_rfl
@[go_sem] theorem Tryd.ti29 : tiOf Tryd.prog 29 = ⟨.int .i64, 1, false, [.int .i64 0]⟩ := by kernel_rfl
@[go_sem] theorem Tryd.ti31 : tiOf Tryd.prog 31 = ⟨.other, 1, false, [.raw .nilFunc]⟩ := by kernel_rfl
@[go_sem] theorem Tryd.ti32 : tiOf Tryd.prog 32 = ⟨.other, 1, false, [.raw .nilFunc]⟩ := by kernel_rfl
@[go_sem] theorem Tryd.ti33 : tiOf Tryd.prog 33 = ⟨.other, 1, false, [.raw .nilFunc]⟩ := by kernel_rfl
@[go_sem] theorem Tryd.ti34 : tiOf Tryd.prog 34 = ⟨.other, 1, false, [.raw .nilFunc]⟩ := by kernel_rfl
@[go_sem] theorem Tryd.ti35 : tiOf Tryd.prog 35 = ⟨.struct [(0, 1, false), (1, 1, false), (2, 1, false), (3, 1, false), (4, 1, false)] [], 5, true, [.str [], .str [], .int .i64 0, .nilsl, .int .i64 0]⟩ := by kernel_rfl
@[go_sem] theorem Tryd.ti36 : tiOf Tryd.prog 36 = ⟨.struct [(0, 1, false), (1, 1, false), (2, 1, false), (3, 1, false), (4, 1, false)] [], 5, true, [.str [], .str [], .int .i64 0, .nilsl, .int .i64 0]⟩ := by kernel_rfl
@[go_sem] theorem Tryd.ti37 : tiOf Tryd.prog 37 = ⟨.slice 42 3 40 true, 1, false, [.nilsl]⟩ := by kernel_rfl
@[go_sem] theorem Tryd.ti38 : tiOf Tryd.prog 38 = ⟨.slice 45 2 24 true, 1, false, [.nilsl]⟩ := by kernel_rfl
@[go_sem] theorem Tryd.ti39 : tiOf Tryd.prog 39 = ⟨.struct [(0, 1, false), (1, 1, false), (2, 1, false), (3, 1, false), (4, 1, false)] [], 5, true, [.str [], .int .i64 0, .nilsl, .nilsl, .int .i64 0]⟩ := by kernel_rfl
@[go_sem] theorem Tryd.ti40 : tiOf Tryd.prog 40 = ⟨.struct [(0, 1, false), (1, 1, false), (2, 1, false), (3, 1, false), (4, 1, false)] [], 5, true, [.str [], .int .i64 0, .nilsl, .nilsl, .int .i64 0]⟩ := by kernel_rfl
@[go_sem] theorem Tryd.ti41 : tiOf Tryd.prog 41 = ⟨.struct [(0, 1, false), (1, 1, false), (2, 1, false)] [3, 2, 3], 3, true, [.str [], .int .i64 0, .str []]⟩ := by kernel_rfl
@[go_sem] theorem Tryd.ti42 : tiOf Tryd.prog 42 = ⟨.struct [(0, 1, false), (1, 1, false), (2, 1, false)] [3, 2, 3], 3, true, [.str [], .int .i64 0, .str []]⟩ := by kernel_rfl
@[go_sem] theorem Tryd.ti43 : tiOf Tryd.prog 43 = ⟨.slice 4 1 1 false, 1, false, [.nilsl]⟩ := by kernel_rfl
@[go_sem] theorem Tryd.ti44 : tiOf Tryd.prog 44 = ⟨.struct [(0, 1, false), (1, 1, false)] [2, 3], 2, true, [.int .i64 0, .str []]⟩ := by kernel_rfl
@[go_sem] theorem Tryd.ti45 : tiOf Tryd.prog 45 = ⟨.struct [(0, 1, false), (1, 1, false)] [2, 3], 2, true, [.int .i64 0, .str []]⟩ := by kernel_rfl
@[go_sem] theorem Tryd.ti46 : tiOf Tryd.prog 46 = ⟨.other, 1, false, [.raw .nilFunc]⟩ := by kernel_rfl
@[go_sem] theorem Tryd.ti47 : tiOf Tryd.prog 47 = ⟨.other, 1, false, [.raw .nilFunc]⟩ := by kernel_rfl
@[go_sem] theorem Tryd.ti48 : tiOf Tryd.prog 48 = ⟨.other, 1, false, [.raw .nilFunc]⟩ := by kernel_rfl
@[go_sem] theorem Tryd.ti49 : tiOf Tryd.prog 49 = ⟨.other, 1, false, [.raw .nilFunc]⟩ := by kernel_rfl
@[go_sem] theorem Tryd.ti50 : tiOf Tryd.prog 50 = ⟨.other, 1, false, [.raw .nilFunc]⟩ := by kernel_rfl
@[go_sem] theorem Tryd.ti51 : tiOf Tryd.prog 51 = ⟨.map 9 3, 1, false, [.raw (.map none)]⟩ := by kernel_rfl
@[go_sem] theorem Tryd.ti53 : tiOf Tryd.prog 53 = ⟨.other, 1, false, [.raw .nilFunc]⟩ := by kernel_rfl
@[go_sem] theorem Tryd.ti54 : tiOf Tryd.prog 54 = ⟨.other, 1, false, [.raw .nilFunc]⟩ := by kernel_rfl
@[go_sem] theorem Tryd.ti55 : tiOf Tryd.prog 55 = ⟨.other, 1, false, [.raw .nilFunc]⟩ := by kernel_rfl
@[go_sem] theorem Tryd.ti56 : tiOf Tryd.prog 56 = ⟨.other, 1, false, [.raw .nilFunc]⟩ := by kernel_rfl
@[go_sem] theorem Tryd.ti57 : tiOf Tryd.prog 57 = ⟨.other, 1, false, [.raw (.pointer none)]⟩ := by kernel_rfl
@[go_sem] theorem Tryd.ti58 : tiOf Tryd.prog 58 = ⟨.other, 1, false, [.raw .nilFunc]⟩ := by kernel_rfl
@[go_sem] theorem Tryd.ti59 : tiOf Tryd.prog 59 = ⟨.other, 1, false, [.raw .nilFunc]⟩ := by kernel_rfl
@[go_sem] theorem Tryd.ti60 : tiOf Tryd.prog 60 = ⟨.other, 1, false, [.raw .nilFunc]⟩ := by kernel_rfl
@[go_sem] theorem Tryd.ti61 : tiOf Tryd.prog 61 = ⟨.other, 1, false, [.raw .nilFunc]⟩ := by kernel_rfl
@[go_sem] theorem Tryd.ti62 : tiOf Tryd.prog 62 = ⟨.other, 1, false, [.raw .nilFunc]⟩ := by kernel_rfl
@[go_sem] theorem Tryd.ti63 : tiOf Tryd.prog 63 = ⟨.other, 1, false, [.raw .nilFunc]⟩ := by kernel_rfl
@[go_sem] theorem Tryd.ti64 : tiOf Tryd.prog 64 = ⟨.other, 1, false, [.raw .nilFunc]⟩ := by kernel_rfl
@[go_sem] theorem Tryd.ti65 : tiOf Tryd.prog 65 = ⟨.other, 1, false, [.raw .nilFunc]⟩ := by kernel_rfl
@[go_sem] theorem Tryd.ti66 : tiOf Tryd.prog 66 = ⟨.other, 1, false, [.raw .nilFunc]⟩ := by kernel_rfl
@[go_sem] theorem Tryd.ti67 : tiOf Tryd.prog 67 = ⟨.other, 1, false, [.raw .nilFunc]⟩ := by kernel_rfl
@[go_sem] theorem Tryd.ti68 : tiOf Tryd.prog 68 = ⟨.other, 1, false, [.raw .nilFunc]⟩ := by kernel_rfl
@[go_sem] theorem Tryd.ti69 : tiOf Tryd.prog 69 = ⟨.other, 1, false, [.raw .nilFunc]⟩ := by kernel_rfl
@[go_sem] theorem Tryd.ti70 : tiOf Tryd.prog 70 = ⟨.other, 1, false, [.raw .nilFunc]⟩ := by kernel_rfl
@[go_sem] theorem Tryd.ti71 : tiOf Tryd.prog 71 = ⟨.other, 1, false, [.raw .nilFunc]⟩ := by kernel_rfl
@[go_sem] theorem Tryd.ti72 : tiOf Tryd.prog 72 = ⟨.other, 1, false, [.raw .nilFunc]⟩ := by kernel_rfl
@[go_sem] theorem Tryd.ti73 : tiOf Tryd.prog 73 = ⟨.slice 3 1 8 false, 1, false, [.nilsl]⟩ := by kernel_rfl
@[go_sem] theorem Tryd.ti74 : tiOf Tryd.prog 74 = ⟨.other, 1, false, [.raw .nilFunc]⟩ := by kernel_rfl
@[go_sem] theorem Tryd.ti75 : tiOf Tryd.prog 75 = ⟨.other, 1, false, [.raw .nilFunc]⟩ := by kernel_rfl
@[go_sem] theorem Tryd.ti76 : tiOf Tryd.prog 76 = ⟨.other, 1, false, [.raw .nilFunc]⟩ := by kernel_rfl
@[go_sem] theorem Tryd.ti77 : tiOf Tryd.prog 77 = ⟨.map 9 4, 1, false, [.raw (.map none)]⟩ := by kernel_rfl
@[go_sem] theorem Tryd.ti78 : tiOf Tryd.prog 78 = ⟨.other, 1, false, [.raw .nilFunc]⟩ := by kernel_rfl
@[go_sem] theorem Tryd.ti79 : tiOf Tryd.prog 79 = ⟨.other, 1, false, [.raw .nilFunc]⟩ := by kernel_rfl
@[go_sem] theorem Tryd.ti80 : tiOf Tryd.prog 80 = ⟨.other, 1, false, [.raw .nilFunc]⟩ := by kernel_rfl
@[go_sem] theorem Tryd.ti81 : tiOf Tryd.prog 81 = ⟨.other, 1, false, [.raw .nilFunc]⟩ := by kernel_rfl
@[go_sem] theorem Tryd.ti82 : tiOf Tryd.prog 82 = ⟨.other, 1, false, [.raw .nilFunc]⟩ := by kernel_rfl
@[go_sem] theorem Tryd.ti83 : tiOf Tryd.prog 83 = ⟨.other, 1, false, [.raw .nilFunc]⟩ := by kernel_rfl
@[go_sem] theorem Tryd.ti84 : tiOf Tryd.prog 84 = ⟨.other, 1, false, [.raw .nilFunc]⟩ := by kernel_rfl
@[go_sem] theorem Tryd.ti85 : tiOf Tryd.prog 85 = ⟨.other, 1, false, [.raw .nilFunc]⟩ := by kernel_rfl
@[go_sem] theorem Tryd.ti86 : tiOf Tryd.prog 86 = ⟨.slice 22 1 24 false, 1, false, [.nilsl]⟩ := by kernel_rfl
@[go_sem] theorem Tryd.ti87 : tiOf Tryd.prog 87 = ⟨.other, 1, false, [.raw .nilFunc]⟩ := by kernel_rfl
@[go_sem] theorem Tryd.ti88 : tiOf Tryd.prog 88 = ⟨.slice 37 1 24 false, 1, false, [.nilsl]⟩ := by kernel_rfl
@[go_sem] theorem Tryd.ti89 : tiOf Tryd.prog 89 = ⟨.other, 1, false, [.raw .nilFunc]⟩ := by kernel_rfl
@[go_sem] theorem Tryd.ti90 : tiOf Tryd.prog 90 = ⟨.slice 23 1 24 false, 1, false, [.nilsl]⟩ := by kernel_rfl
@[go_sem] theorem Tryd.ti91 : tiOf Tryd.prog 91 = ⟨.other, 1, false, [.raw .nilFunc]⟩ := by kernel_rfl
@[go_sem] theorem Tryd.ti92 : tiOf Tryd.prog 92 = ⟨.slice 24 1 24 false, 1, false, [.nilsl]⟩ := by kernel_rfl
@[go_sem] theorem Tryd.ti93 : tiOf Tryd.prog 93 = ⟨.other, 1, false, [.raw .nilFunc]⟩ := by kernel_rfl
@[go_sem] theorem Tryd.ti94 : tiOf Tryd.prog 94 = ⟨.other, 1, false, [.raw .nilFunc]⟩ := by kernel_rfl
@[go_sem] theorem Tryd.ti95 : tiOf Tryd.prog 95 = ⟨.other, 1, false, [.raw .nilFunc]⟩ := by kernel_rfl
@[go_sem] theorem Tryd.ti96 : tiOf Tryd.prog 96 = ⟨.other, 1, false, [.raw .nilFunc]⟩ := by kernel_rfl
@[go_sem] theorem Tryd.ti97 : tiOf Tryd.prog 97 = ⟨.other, 1, false, [.raw .nilFunc]⟩ := by kernel_rfl
@[go_sem] theorem Tryd.ti98 : tiOf Tryd.prog 98 = ⟨.arr 256 1 false, 256, true, [.int .u8 0, .int .u8 0, .int .u8 0, .int .u8 0, .int .u8 0, .int .u8 0, .int .u8 0, .int .u8 0, .int .u8 0, .int .u8 0, .int .u8 0, .int .u8 0, .int .u8 0, .int .u8 0, .int .u8 0, .int .u8 0, .int .u8 0, .int .u8 0, .int .u8 0, .int .u8 0, .int .u8 0, .int .u8 0, .int .u8 0, .int .u8 0, .int .u8 0, .int .u8 0, .int .u8 0, .int .u8 0, .int .u8 0, .int .u8 0, .int .u8 0, .int .u8 0, .int .u8 0, .int .u8 0, .int .u8 0, .int .u8 0, .int .u8 0, .int .u8 0, .int .u8 0, .int .u8 0, .int .u8 0, .int .u8 0, .int .u8 0, .int .u8 0, .int .u8 0, .int .u8 0, .int .u8 0, .int .u8 0, .int .u8 0, .int .u8 0, .int .u8 0, .int .u8 0, .int .u8 0, .int .u8 0, .int .u8 0, .int .u8 0, .int .u8 0, .int .u8 0, .int .u8 0, .int .u8 0, .int .u8 0, .int .u8 0, .int .u8 0, .int .u8 0, .int .u8 0, .int .u8 0, .int .u8 0, .int .u8 0, .int .u8 0, .int .u8 0, .int .u8 0, .int .u8 0, .int .u8 0, .int .u8 0, .int .u8 0, .int .u8 0, .int .u8 0, .int .u8 0, .int .u8 0, .int .u8 0, .int .u8 0, .int .u8 0, .int .u8 0, .int .u8 0, .int .u8 0, .int .u8 0, .int .u8 0, .int .u8 0, .int .u8 0, .int .u8 0, .int .u8 0, .int .u8 0, .int .u8 0, .int .u8 0, .int .u8 0, .int .u8 0, .int .u8 0, .int .u8 0, .int .u8 0, .int .u8 0, .int .u8 0, .int .u8 0, .int .u8 0, .int .u8 0, .int .u8 0, .int .u8 0, .int .u8 0, .int .u8 0, .int .u8 0, .int .u8 0, .int .u8 0, .int .u8 0, .int .u8 0, .int .u8 0, .int .u8 0, .int .u8 0, .int .u8 0, .int .u8 0, .int .u8 0, .int .u8 0, .int .u8 0, .int .u8 0, .int .u8 0, .int .u8 0, .int .u8 0, .int .u8 0, .int .u8 0, .int .u8 0, .int .u8 0, .int .u8 0, .int .u8 0, .int .u8 0, .int .u8 0, .int .u8 0, .int .u8 0, .int .u8 0, .int .u8 0, .int .u8 0, .int .u8 0, .int .u8 0, .int .u8 0, .int .u8 0, .int .u8 0, .int .u8 0, .int .u8 0, .int .u8 0, .int .u8 0, .int .u8 0, .int .u8 0, .int .u8 0, .int .u8 0, .int .u8 0, .int .u8 0, .int .u8 0, .int .u8 0, .int .u8 0, .int .u8 0, .int .u8 0, .int .u8 0, .int .u8 0, .int .u8 0, .int .u8 0, .int .u8 0, .int .u8 0, .int .u8 0, .int .u8 0, .int .u8 0, .int .u8 0, .int .u8 0, .int .u8 0, .int .u8 0, .int .u8 0, .int .u8 0, .int .u8 0, .int .u8 0, .int .u8 0, .int .u8 0, .int .u8 0, .int .u8 0, .int .u8 0, .int .u8 0, .int .u8 0, .int .u8 0, .int .u8 0, .int .u8 0, .int .u8 0, .int .u8 0, .int .u8 0, .int .u8 0, .int .u8 0, .int .u8 0, .int .u8 0, .int .u8 0, .int .u8 0, .int .u8 0, .int .u8 0, .int .u8 0, .int .u8 0, .int .u8 0, .int .u8 0, .int .u8 0, .int .u8 0, .int .u8 0, .int .u8 0, .int .u8 0, .int .u8 0, .int .u8 0, .int .u8 0, .int .u8 0, .int .u8 0, .int .u8 0, .int .u8 0, .int .u8 0, .int .u8 0, .int .u8 0, .int .u8 0, .int .u8 0, .int .u8 0, .int .u8 0, .int .u8 0, .int .u8 0, .int .u8 0, .int .u8 0, .int .u8 0, .int .u8 0, .int .u8 0, .int .u8 0, .int .u8 0, .int .u8 0, .int .u8 0, .int .u8 0, .int .u8 0, .int .u8 0, .int .u8 0, .int .u8 0, .int .u8 0, .int .u8 0, .int .u8 0, .int .u8 0, .int .u8 0, .int .u8 0, .int .u8 0, .int .u8 0, .int .u8 0, .int .u8 0, .int .u8 0, .int .u8 0, .int .u8 0, .int .u8 0, .int .u8 0, .int .u8 0, .int .u8 0, .int .u8 0, .int .u8 0, .int .u8 0, .int .u8 0]⟩ := by kernel_rfl
@[go_sem] theorem Tryd.ti99 : tiOf Tryd.prog 99 = ⟨.other, 1, false, [.raw .nilFunc]⟩ := by kernel_rfl
@[go_sem] theorem Tryd.ti100 : tiOf Tryd.prog 100 = ⟨.other, 1, false, [.raw .nilFunc]⟩ := by kernel_rfl
@[go_sem] theorem Tryd.ti101 : tiOf Tryd.prog 101 = ⟨.slice 73 1 24 false, 1, false, [.nilsl]⟩ := by kernel_rfl
@[go_sem] theorem Tryd.ti102 : tiOf Tryd.prog 102 = ⟨.other, 1, false, [.raw .nilFunc]⟩ := by kernel_rfl
@[go_sem] theorem Tryd.ti103 : tiOf Tryd.prog 103 = ⟨.other, 1, false, [.raw .nilFunc]⟩ := by kernel_rfl
@[go_sem] theorem Tryd.ti104 : tiOf Tryd.prog 104 = ⟨.other, 1, false, [.raw .nilFunc]⟩ := by kernel_rfl
@[go_sem] theorem Tryd.ti105 : tiOf Tryd.prog 105 = ⟨.other, 1, false, [.raw .nilFunc]⟩ := by kernel_rfl
@[go_sem] theorem Tryd.ti106 : tiOf Tryd.prog 106 = ⟨.other, 1, false, [.raw .nilFunc]⟩ := by kernel_rfl
@[go_sem] theorem Tryd.ti107 : tiOf Tryd.prog 107 = ⟨.other, 1, false, [.raw .nilFunc]⟩ := by kernel_rfl
@[go_sem] theorem Tryd.ti108 : tiOf Tryd.prog 108 = ⟨.slice 110 2 16 true, 1, false, [.nilsl]⟩ := by kernel_rfl
@[go_sem] theorem Tryd.ti109 : tiOf Tryd.prog 109 = ⟨.struct [(0, 1, false), (1, 1, false)] [2, 2], 2, true, [.int .i64 0, .int .i64 0]⟩ := by kernel_rfl
@[go_sem] theorem Tryd.ti110 : tiOf Tryd.prog 110 = ⟨.struct [(0, 1, false), (1, 1, false)] [2, 2], 2, true, [.int .i64 0, .int .i64 0]⟩ := by kernel_rfl
@[go_sem] theorem Tryd.ti111 : tiOf Tryd.prog 111 = ⟨.int .u32, 1, false, [.int .u32 0]⟩ := by kernel_rfl
@[go_sem] theorem Tryd.ti112 : tiOf Tryd.prog 112 = ⟨.other, 1, false, [.raw .nilFunc]⟩ := by kernel_rfl
@[go_sem] theorem Tryd.ti113 : tiOf Tryd.prog 113 = ⟨.other, 1, false, [.raw (.pointer none)]⟩ := by kernel_rfl
@[go_sem] theorem Tryd.ti114 : tiOf Tryd.prog 114 = ⟨.other, 1, false, [.raw .nilFunc]⟩ := by kernel_rfl
@[go_sem] theorem Tryd.ti115 : tiOf Tryd.prog 115 = ⟨.slice 121 3 6 true, 1, false, [.nilsl]⟩ := by kernel_rfl
@[go_sem] theorem Tryd.ti116 : tiOf Tryd.prog 116 = ⟨.slice 124 3 12 true, 1, false, [.nilsl]⟩ := by kernel_rfl
@[go_sem] theorem Tryd.ti117 : tiOf Tryd.prog 117 = ⟨.struct [(0, 1, false), (1, 1, false), (2, 1, false)] [], 3, true, [.nilsl, .nilsl, .int .i64 0]⟩ := by kernel_rfl
@[go_sem] theorem Tryd.ti118 : tiOf Tryd.prog 118 = ⟨.struct [(0, 1, false), (1, 1, false), (2, 1, false)] [], 3, true, [.nilsl, .nilsl, .int .i64 0]⟩ := by kernel_rfl
@[go_sem] theorem Tryd.ti119 : tiOf Tryd.prog 119 = ⟨.int .u16, 1, false, [.int .u16 0]⟩ := by kernel_rfl
@[go_sem] theorem Tryd.ti120 : tiOf Tryd.prog 120 = ⟨.struct [(0, 1, false), (1, 1, false), (2, 1, false)] [2, 2, 2], 3, true, [.int .u16 0, .int .u16 0, .int .u16 0]⟩ := by kernel_rfl
@[go_sem] theorem Tryd.ti121 : tiOf Tryd.prog 121 = ⟨.struct [(0, 1, false), (1, 1, false), (2, 1, false)] [2, 2, 2], 3, true, [.int .u16 0, .int .u16 0, .int .u16 0]⟩ := by kernel_rfl
@[go_sem] theorem Tryd.ti122 : tiOf Tryd.prog 122 = ⟨.other, 1, false, [.raw .nilFunc]⟩ := by kernel_rfl
@[go_sem] theorem Tryd.ti123 : tiOf Tryd.prog 123 = ⟨.struct [(0, 1, false), (1, 1, false), (2, 1, false)] [2, 2, 2], 3, true, [.int .u32 0, .int .u32 0, .int .u32 0]⟩ := by kernel_rfl
@[go_sem] theorem Tryd.ti124 : tiOf Tryd.prog 124 = ⟨.struct [(0, 1, false), (1, 1, false), (2, 1, false)] [2, 2, 2], 3, true, [.int .u32 0, .int .u32 0, .int .u32 0]⟩ := by kernel_rfl
@[go_sem] theorem Tryd.ti125 : tiOf Tryd.prog 125 = ⟨.other, 1, false, [.raw .nilFunc]⟩ := by kernel_rfl
@[go_sem] theorem Tryd.ti126 : tiOf Tryd.prog 126 = ⟨.other, 1, false, [.raw (.pointer none)]⟩ := by kernel_rfl
@[go_sem] theorem Tryd.ti127 : tiOf Tryd.prog 127 = ⟨.int .u64, 1, false, [.int .u64 0]⟩ := by kernel_rfl
@[go_sem] theorem Tryd.ti128 : tiOf Tryd.prog 128 = ⟨.other, 1, false, [.raw (.pointer none)]⟩ := by kernel_rfl
@[go_sem] theorem Tryd.ti129 : tiOf Tryd.prog 129 = ⟨.other, 1, false, [.raw .nilFunc]⟩ := by kernel_rfl
@[go_sem] theorem Tryd.ti132 : tiOf Tryd.prog 132 = ⟨.arr 0 1 false, 0, true, []⟩ := by kernel_rfl
@[go_sem] theorem Tryd.ti135 : tiOf Tryd.prog 135 = ⟨.other, 1, false, [.raw .nilFunc]⟩ := by kernel_rfl
@[go_sem] theorem Tryd.ti138 : tiOf Tryd.prog 138 = ⟨.other, 1, false, [.raw .nilFunc]⟩ := by kernel_rfl
@[go_sem] theorem Tryd.ti139 : tiOf Tryd.prog 139 = ⟨.other, 1, false, [.raw (.pointer none)]⟩ := by kernel_rfl
@[go_sem] theorem Tryd.ti144 : tiOf Tryd.prog 144 = ⟨.other, 1, false, [.raw (.pointer none)]⟩ := by kernel_rfl
@[go_sem] theorem Tryd.zv3 : zeroV Tryd.prog 3 = some (.int .i64 0) := by kernel_rfl
@[go_sem] theorem Tryd.zv4 : zeroV Tryd.prog 4 = some (.bool false) := by kernel_rfl
end Go.V
