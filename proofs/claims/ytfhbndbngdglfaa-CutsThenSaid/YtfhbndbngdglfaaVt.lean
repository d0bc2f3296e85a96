/- Made by gen_ti.py: of each type of this seat: what tiOf gives. -/
import Derived.Test.YtfhbndbngdglfaaVb
import Derived.Test.YtfhbndbngdglfaaRows
namespace Go.V
open Go.Proofs
@[go_sem] theorem Try.ti1 : tiOf Try.prog 1 = ⟨.other, 1, false, [.raw .nilFunc]⟩ := by kernel_rfl
@[go_sem] theorem Try.ti2 : tiOf Try.prog 2 = ⟨.int .i64, 1, false, [.int .i64 0]⟩ := by kernel_rfl
@[go_sem] theorem Try.ti3 : tiOf Try.prog 3 = ⟨.int .i64, 1, false, [.int .i64 0]⟩ := by kernel_rfl
@[go_sem] theorem Try.ti4 : tiOf Try.prog 4 = ⟨.bool, 1, false, [.bool false]⟩ := by kernel_rfl
@[go_sem] theorem Try.ti5 : tiOf Try.prog 5 = ⟨.int .u8, 1, false, [.int .u8 0]⟩ := by kernel_rfl
@[go_sem] theorem Try.ti9 : tiOf Try.prog 9 = ⟨.str, 1, false, [.str []]⟩ := by kernel_rfl
@[go_sem] theorem Try.ti12 : tiOf Try.prog 12 = ⟨.int .u64, 1, false, [.int .u64 0]⟩ := by kernel_rfl
@[go_sem] theorem Try.ti15 : tiOf Try.prog 15 = ⟨.other, 1, false, [.raw (.pointer none)]⟩ := by kernel_rfl
@[go_sem] theorem Try.ti16 : tiOf Try.prog 16 = ⟨.other, 1, false, [.raw (.pointer none)]⟩ := by kernel_rfl
@[go_sem] theorem Try.ti17 : tiOf Try.prog 17 = ⟨.other, 1, false, [.raw (.pointer none)]⟩ := by kernel_rfl
@[go_sem] theorem Try.ti20 : tiOf Try.prog 20 = ⟨.other, 1, false, [.raw .nilIface]⟩ := by kernel_rfl
@[go_sem] theorem Try.ti21 : tiOf Try.prog 21 = ⟨.int .i32, 1, false, [.int .i32 0]⟩ := by kernel_rfl
@[go_sem] theorem Try.ti22 : tiOf Try.prog 22 = ⟨.slice 41 2 16 true, 1, false, [.nilsl]⟩ := by kernel_rfl
@[go_sem] theorem Try.ti23 : tiOf Try.prog 23 = ⟨.other, 1, false, [.raw .nilFunc]⟩ := by kernel_rfl
@[go_sem] theorem Try.ti24 : tiOf Try.prog 24 = ⟨.other, 1, false, [.raw .nilFunc]⟩ := by kernel_rfl
@[go_sem] theorem Try.ti25 : tiOf Try.prog 25 = ⟨.int .i64, 1, false, [.int .i64 0]⟩ := by kernel_rfl
@[go_sem] theorem Try.ti27 : tiOf Try.prog 27 = ⟨.other, 1, false, [.raw .nilFunc]⟩ := by kernel_rfl
@[go_sem] theorem Try.ti28 : tiOf Try.prog 28 = ⟨.slice 3 1 8 false, 1, false, [.nilsl]⟩ := by kernel_rfl
@[go_sem] theorem Try.ti30 : tiOf Try.prog 30 = ⟨.other, 1, false, [.raw .nilFunc]⟩ := by kernel_rfl
@[go_sem] theorem Try.ti31 : tiOf Try.prog 31 = ⟨.other, 1, false, [.raw .nilFunc]⟩ := by kernel_rfl
@[go_sem] theorem Try.ti32 : tiOf Try.prog 32 = ⟨.other, 1, false, [.raw .nilFunc]⟩ := by kernel_rfl
@[go_sem] theorem Try.ti33 : tiOf Try.prog 33 = ⟨.other, 1, false, [.raw .nilFunc]⟩ := by kernel_rfl
@[go_sem] theorem Try.ti35 : tiOf Try.prog 35 = ⟨.other, 1, false, [.raw .nilFunc]⟩ := by kernel_rfl
@[go_sem] theorem Try.ti36 : tiOf Try.prog 36 = ⟨.other, 1, false, [.raw .nilFunc]⟩ := by kernel_rfl
@[go_sem] theorem Try.ti37 : tiOf Try.prog 37 = ⟨.other, 1, false, [.raw .nilFunc]⟩ := by kernel_rfl
@[go_sem] theorem Try.ti38 : tiOf Try.prog 38 = ⟨.other, 1, false, [.raw .nilFunc]⟩ := by kernel_rfl
@[go_sem] theorem Try.ti39 : tiOf Try.prog 39 = ⟨.other, 1, false, [.raw .nilFunc]⟩ := by kernel_rfl
@[go_sem] theorem Try.ti40 : tiOf Try.prog 40 = ⟨.struct [(0, 1, false), (1, 1, false)] [2, 2], 2, true, [.int .i64 0, .int .i64 0]⟩ := by kernel_rfl
@[go_sem] theorem Try.ti41 : tiOf Try.prog 41 = ⟨.struct [(0, 1, false), (1, 1, false)] [2, 2], 2, true, [.int .i64 0, .int .i64 0]⟩ := by kernel_rfl
@[go_sem] theorem Try.ti42 : tiOf Try.prog 42 = ⟨.other, 1, false, [.raw .nilFunc]⟩ := by kernel_rfl
@[go_sem] theorem Try.ti43 : tiOf Try.prog 43 = ⟨.other, 1, false, [.raw .nilFunc]⟩ := by kernel_rfl
@[go_sem] theorem Try.ti44 : tiOf Try.prog 44 = ⟨.other, 1, false, [.raw .nilFunc]⟩ := by kernel_rfl
@[go_sem] theorem Try.ti45 : tiOf Try.prog 45 = ⟨.other, 1, false, [.raw .nilFunc]⟩ := by kernel_rfl
@[go_sem] theorem Try.ti46 : tiOf Try.prog 46 = ⟨.slice 41 2 16 true, 1, false, [.nilsl]⟩ := by kernel_rfl
@[go_sem] theorem Try.ti47 : tiOf Try.prog 47 = ⟨.other, 1, false, [.raw .nilFunc]⟩ := by kernel_rfl
@[go_sem] theorem Try.ti48 : tiOf Try.prog 48 = ⟨.other, 1, false, [.raw .nilFunc]⟩ := by kernel_rfl
@[go_sem] theorem Try.ti50 : tiOf Try.prog 50 = ⟨.other, 1, false, [.raw .nilFunc]⟩ := by kernel_rfl
@[go_sem] theorem Try.ti51 : tiOf Try.prog 51 = ⟨.other, 1, false, [.raw .nilFunc]⟩ := by kernel_rfl
@[go_sem] theorem Try.ti52 : tiOf Try.prog 52 = ⟨.other, 1, false, [.raw .nilFunc]⟩ := by kernel_rfl
@[go_sem] theorem Try.ti53 : tiOf Try.prog 53 = ⟨.other, 1, false, [.raw .nilFunc]⟩ := by kernel_rfl
@[go_sem] theorem Try.ti54 : tiOf Try.prog 54 = ⟨.other, 1, false, [.raw (.pointer none)]⟩ := by kernel_rfl
@[go_sem] theorem Try.ti55 : tiOf Try.prog 55 = ⟨.other, 1, false, [.raw .nilFunc]⟩ := by kernel_rfl
@[go_sem] theorem Try.ti58 : tiOf Try.prog 58 = ⟨.arr 0 1 false, 0, true, []⟩ := by kernel_rfl
@[go_sem] theorem Try.ti61 : tiOf Try.prog 61 = ⟨.other, 1, false, [.raw .nilFunc]⟩ := by kernel_rfl
@[go_sem] theorem Try.ti62 : tiOf Try.prog 62 = ⟨.int .u32, 1, false, [.int .u32 0]⟩ := by kernel_rfl
@[go_sem] theorem Try.ti65 : tiOf Try.prog 65 = ⟨.other, 1, false, [.raw .nilFunc]⟩ := by kernel_rfl
@[go_sem] theorem Try.ti66 : tiOf Try.prog 66 = ⟨.other, 1, false, [.raw (.pointer none)]⟩ := by kernel_rfl
@[go_sem] theorem Try.ti71 : tiOf Try.prog 71 = ⟨.other, 1, false, [.raw (.pointer none)]⟩ := by kernel_rfl
end Go.V
