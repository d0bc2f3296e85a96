/-
  Cuts: the examples of the chapter, and the laws, on data.
-/
import Derived.Test.YtfhbndbngdglfaaCf
import Derived.Test.YtfhbndbngdglfaaCp
namespace Go.V.Cu
open Go.Proofs Go.RowKit
set_option linter.unusedSimpArgs false
set_option linter.unusedVariables false
set_option maxRecDepth 100000

def l2 : List Span := [⟨10, 13⟩, ⟨11, 12⟩]
theorem x1 : back l2 3 = (11, true, 0) := by decide +kernel
theorem x2 : back [] 0 = (0, false, 0) := by decide +kernel
theorem x3 : back l2 4 = (0, false, 0) := by decide +kernel
theorem x4 : to l2 11 = ([1, 3], 0) := by decide +kernel
theorem x5 : to [⟨10, 13⟩] 14 = ([], 0) := by decide +kernel
theorem x6 : then_ l2 [⟨2, 4⟩] = ([⟨12, 13⟩, ⟨11, 12⟩], 0) := by decide +kernel
theorem x7 : then_ [⟨10, 13⟩, ⟨13, 20⟩] [⟨0, 5⟩] = ([⟨10, 15⟩], 0) := by decide +kernel
theorem x8 : then_ [⟨10, 13⟩] [⟨2, 9⟩] = ([⟨12, 13⟩], 0) := by decide +kernel
theorem x9 : back l2 (-1) = (0, false, 1) := by decide +kernel
theorem x10 : to l2 1099511627776 = ([], 1) := by decide +kernel
theorem y1 : check [] = 0 := by decide +kernel
theorem y2 : check l2 = 0 := by decide +kernel
theorem y3 : check [⟨5, 5⟩] = 150 := by decide +kernel

set_option maxHeartbeats 4000000 in
theorem sane_d : fnD Try.prog (orac Try.prog) [] Try.f9 [] (.bool true) := by
  have c1 := back_c l2 3 (by decide)
  have c2 := (back_c [] 0 (by decide)).weak2 (.nil 2) (.refl _)
  have c3 := back_c l2 4 (by decide)
  have c4 := to_c l2 11 (by decide)
  have c5 := to_c [⟨10, 13⟩] 14 (by decide)
  have c6 := then_c l2 [⟨2, 4⟩] (by decide) (by decide)
  have c7 := then_c [⟨10, 13⟩, ⟨13, 20⟩] [⟨0, 5⟩] (by decide) (by decide)
  have c8 := then_c [⟨10, 13⟩] [⟨2, 9⟩] (by decide) (by decide)
  have c9 := back_c l2 (-1) (by decide)
  have c10 := to_c l2 1099511627776 (by decide)
  have d1 := sameInts_c [1, 3] [1, 3] (by decide)
  have d2 := same_c [⟨12, 13⟩, ⟨11, 12⟩] [⟨12, 13⟩, ⟨11, 12⟩] (by decide)
  have d3 := same_c [⟨10, 15⟩] [⟨10, 15⟩] (by decide)
  have d4 := same_c [⟨12, 13⟩] [⟨12, 13⟩] (by decide)
  have e1 := (check_c [] (by decide)).weak1 (.nil 2)
  have e2 := check_c l2 (by decide)
  have e3 := check_c [⟨5, 5⟩] (by decide)
  simp only [x1, x2, x3, x4, x5, x6, x7, x8, x9, x10, y1, y2, y3] at c1 c2 c3 c4 c5 c6 c7 c8 c9 c10 e1 e2 e3
  simp only [l2, spans, ints, Span.d, backD, toD, thenD, List.map_cons, List.map_nil, decide_true, eq_self] at c1 c2 c3 c4 c5 c6 c7 c8 c9 c10 d1 d2 d3 d4 e1 e2 e3
  refine fn_intro _ [.tmp 0] _ rfl rfl rfl (by kernel_rfl) ?_
  simp (maxSteps := 1000000) (disch := omega) only [go_sem, reduceIte, Nat.reduceEqDiff, Nat.reduceAdd, Nat.reduceLeDiff, Nat.reduceLT, Nat.reduceSub, Int.reduceLT, Int.reduceLE, Int.reduceEq, Int.reduceToNat, Option.map_some, List.length_map, List.getElem?_map, Int.toNat_natCast]
  refine call_pure c1 (by simp [go_sem]) ?_
  simp (maxSteps := 1000000) (disch := omega) only [go_sem, reduceIte, Nat.reduceEqDiff, Nat.reduceAdd, Nat.reduceLeDiff, Nat.reduceLT, Nat.reduceSub, Int.reduceLT, Int.reduceLE, Int.reduceEq, Int.reduceToNat, Option.map_some, List.length_map, List.getElem?_map, Int.toNat_natCast]
  refine call_pure c2 (by simp [go_sem]) ?_
  simp (maxSteps := 1000000) (disch := omega) only [go_sem, reduceIte, Nat.reduceEqDiff, Nat.reduceAdd, Nat.reduceLeDiff, Nat.reduceLT, Nat.reduceSub, Int.reduceLT, Int.reduceLE, Int.reduceEq, Int.reduceToNat, Option.map_some, List.length_map, List.getElem?_map, Int.toNat_natCast]
  refine call_pure c3 (by simp [go_sem]) ?_
  simp (maxSteps := 1000000) (disch := omega) only [go_sem, reduceIte, Nat.reduceEqDiff, Nat.reduceAdd, Nat.reduceLeDiff, Nat.reduceLT, Nat.reduceSub, Int.reduceLT, Int.reduceLE, Int.reduceEq, Int.reduceToNat, Option.map_some, List.length_map, List.getElem?_map, Int.toNat_natCast]
  refine call_pure c4 (by simp [go_sem]) ?_
  simp (maxSteps := 1000000) (disch := omega) only [go_sem, reduceIte, Nat.reduceEqDiff, Nat.reduceAdd, Nat.reduceLeDiff, Nat.reduceLT, Nat.reduceSub, Int.reduceLT, Int.reduceLE, Int.reduceEq, Int.reduceToNat, Option.map_some, List.length_map, List.getElem?_map, Int.toNat_natCast]
  refine call_pure c5 (by simp [go_sem]) ?_
  simp (maxSteps := 1000000) (disch := omega) only [go_sem, reduceIte, Nat.reduceEqDiff, Nat.reduceAdd, Nat.reduceLeDiff, Nat.reduceLT, Nat.reduceSub, Int.reduceLT, Int.reduceLE, Int.reduceEq, Int.reduceToNat, Option.map_some, List.length_map, List.getElem?_map, Int.toNat_natCast]
  refine call_pure c6 (by simp [go_sem]) ?_
  simp (maxSteps := 1000000) (disch := omega) only [go_sem, reduceIte, Nat.reduceEqDiff, Nat.reduceAdd, Nat.reduceLeDiff, Nat.reduceLT, Nat.reduceSub, Int.reduceLT, Int.reduceLE, Int.reduceEq, Int.reduceToNat, Option.map_some, List.length_map, List.getElem?_map, Int.toNat_natCast]
  refine call_pure c7 (by simp [go_sem]) ?_
  simp (maxSteps := 1000000) (disch := omega) only [go_sem, reduceIte, Nat.reduceEqDiff, Nat.reduceAdd, Nat.reduceLeDiff, Nat.reduceLT, Nat.reduceSub, Int.reduceLT, Int.reduceLE, Int.reduceEq, Int.reduceToNat, Option.map_some, List.length_map, List.getElem?_map, Int.toNat_natCast]
  refine call_pure c8 (by simp [go_sem]) ?_
  simp (maxSteps := 1000000) (disch := omega) only [go_sem, reduceIte, Nat.reduceEqDiff, Nat.reduceAdd, Nat.reduceLeDiff, Nat.reduceLT, Nat.reduceSub, Int.reduceLT, Int.reduceLE, Int.reduceEq, Int.reduceToNat, Option.map_some, List.length_map, List.getElem?_map, Int.toNat_natCast]
  refine call_pure c9 (by simp [go_sem]) ?_
  simp (maxSteps := 1000000) (disch := omega) only [go_sem, reduceIte, Nat.reduceEqDiff, Nat.reduceAdd, Nat.reduceLeDiff, Nat.reduceLT, Nat.reduceSub, Int.reduceLT, Int.reduceLE, Int.reduceEq, Int.reduceToNat, Option.map_some, List.length_map, List.getElem?_map, Int.toNat_natCast]
  refine call_pure c10 (by simp [go_sem]) ?_
  simp (maxSteps := 1000000) (disch := omega) only [go_sem, reduceIte, Nat.reduceEqDiff, Nat.reduceAdd, Nat.reduceLeDiff, Nat.reduceLT, Nat.reduceSub, Int.reduceLT, Int.reduceLE, Int.reduceEq, Int.reduceToNat, Option.map_some, List.length_map, List.getElem?_map, Int.toNat_natCast]
  refine call_pure d1 (by simp [go_sem]) ?_
  simp (maxSteps := 1000000) (disch := omega) only [go_sem, reduceIte, Nat.reduceEqDiff, Nat.reduceAdd, Nat.reduceLeDiff, Nat.reduceLT, Nat.reduceSub, Int.reduceLT, Int.reduceLE, Int.reduceEq, Int.reduceToNat, Option.map_some, List.length_map, List.getElem?_map, Int.toNat_natCast]
  refine call_pure d2 (by simp [go_sem]) ?_
  simp (maxSteps := 1000000) (disch := omega) only [go_sem, reduceIte, Nat.reduceEqDiff, Nat.reduceAdd, Nat.reduceLeDiff, Nat.reduceLT, Nat.reduceSub, Int.reduceLT, Int.reduceLE, Int.reduceEq, Int.reduceToNat, Option.map_some, List.length_map, List.getElem?_map, Int.toNat_natCast]
  refine call_pure d3 (by simp [go_sem]) ?_
  simp (maxSteps := 1000000) (disch := omega) only [go_sem, reduceIte, Nat.reduceEqDiff, Nat.reduceAdd, Nat.reduceLeDiff, Nat.reduceLT, Nat.reduceSub, Int.reduceLT, Int.reduceLE, Int.reduceEq, Int.reduceToNat, Option.map_some, List.length_map, List.getElem?_map, Int.toNat_natCast]
  refine call_pure d4 (by simp [go_sem]) ?_
  simp (maxSteps := 1000000) (disch := omega) only [go_sem, reduceIte, Nat.reduceEqDiff, Nat.reduceAdd, Nat.reduceLeDiff, Nat.reduceLT, Nat.reduceSub, Int.reduceLT, Int.reduceLE, Int.reduceEq, Int.reduceToNat, Option.map_some, List.length_map, List.getElem?_map, Int.toNat_natCast]
  refine call_pure e1 (by simp [go_sem]) ?_
  simp (maxSteps := 1000000) (disch := omega) only [go_sem, reduceIte, Nat.reduceEqDiff, Nat.reduceAdd, Nat.reduceLeDiff, Nat.reduceLT, Nat.reduceSub, Int.reduceLT, Int.reduceLE, Int.reduceEq, Int.reduceToNat, Option.map_some, List.length_map, List.getElem?_map, Int.toNat_natCast]
  refine call_pure e2 (by simp [go_sem]) ?_
  simp (maxSteps := 1000000) (disch := omega) only [go_sem, reduceIte, Nat.reduceEqDiff, Nat.reduceAdd, Nat.reduceLeDiff, Nat.reduceLT, Nat.reduceSub, Int.reduceLT, Int.reduceLE, Int.reduceEq, Int.reduceToNat, Option.map_some, List.length_map, List.getElem?_map, Int.toNat_natCast]
  refine call_pure e3 (by simp [go_sem]) ?_
  simp (maxSteps := 1000000) (disch := omega) only [go_sem, reduceIte, Nat.reduceEqDiff, Nat.reduceAdd, Nat.reduceLeDiff, Nat.reduceLT, Nat.reduceSub, Int.reduceLT, Int.reduceLE, Int.reduceEq, Int.reduceToNat, Option.map_some, List.length_map, List.getElem?_map, Int.toNat_natCast]
  exact .refl _
theorem sane_c : CallsTo Try.prog 9 [] (.bool true) := fn_calls mixed sane_d rfl (by kernel_rfl) rfl
end Go.V.Cu
