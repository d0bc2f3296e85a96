/-
  Lex: the functions of the program, on data.
-/
import Derived.Test.YtbnniokcdilpgaaDoorLa
import Derived.Test.YtbnniokcdilpgaaDoorVy
namespace Go.V.Lx
open Go.Proofs Go.RowKit
set_option linter.unusedSimpArgs false
set_option linter.unusedVariables false

theorem class_d (c : UInt8) : fnD Tryd.prog (orac Tryd.prog) [] Tryd.f29 [.int .u8 (c.toNat : Int)] (.int .i64 (cls c)) := by
  refine fn_intro _ [.tmp 2] _ rfl rfl rfl (by kernel_rfl) ?_
  have hx : Int.toNat (c.toNat : Int) = c.toNat := by simp
  repeat' (first
    | with_reducible refine condD_dec (fun _ => ?_) (fun _ => ?_)
    | with_reducible refine condD_split (fun _ => ?_) (fun _ => ?_)
    | (refine call_pure (indexByte_c signs c) (by simp [go_sem]) ?_)
    | simp (maxSteps := 1000000) (disch := omega) only [go_sem, reduceIte, Nat.reduceEqDiff, Nat.reduceAdd, Nat.reduceLeDiff, Nat.reduceLT, Nat.reduceSub, Int.reduceLT, Int.reduceLE, Int.reduceEq, Int.reduceToNat, Option.map_some, List.length_map, List.getElem?_map, Int.toNat_natCast, *])
  all_goals
    refine weak_eq ?_
    simp [cls, isLt, isFg, isSp, isSg, *]
theorem class_c (c : UInt8) : CallsTo Tryd.prog 29 [.int .u8 (c.toNat : Int)] (.int .i64 (cls c)) := fn_calls mixed (class_d c) rfl (by kernel_rfl) rfl
end Go.V.Lx
