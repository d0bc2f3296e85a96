/-
  Grammar: the examples with which the statements begin hold.
-/
import Derived.Test.YtiolflfjekiboaaGreatDoorGi
namespace Go.V.Gr
open Go.Proofs Go.RowKit Go.V.Lx
set_option linter.unusedSimpArgs false
set_option linter.unusedVariables false
set_option maxRecDepth 100000

def exD (p : Str × Int) : D := .agg [.str p.1, .int .i64 p.2]
set_option maxHeartbeats 8000000 in
theorem sane_d : fnD Tryz.prog (orac Tryz.prog) [(15, [(12, 11)])] Tryz.f10 [] (.bool true) := by
  refine fn_intro _ [.tmp 0] _ rfl rfl rfl (by kernel_rfl) ?_
  simp (maxSteps := 1000000) (disch := omega) only [go_sem, reduceIte, Nat.reduceEqDiff, Nat.reduceAdd, Nat.reduceLeDiff, Nat.reduceLT, Nat.reduceSub, Int.reduceLT, Int.reduceLE, Int.reduceEq, Int.reduceToNat, Option.map_some, List.length_map, List.getElem?_map, Int.toNat_natCast]
  refine cD_for 5 (fun k σ bx => σ 23 = .sl 2 (exs.map exD) ∧ σ 24 = .int .i64 5 ∧ σ 25 = .int .i64 k) ⟨by simp [go_sem, exs, exD], by simp [go_sem], by simp [go_sem]⟩ ?_ ?_
  · rintro k σ bx hk ⟨h23, h24, h25⟩
    obtain ⟨x, hx⟩ := get_lt (show k < exs.length from hk)
    have hx' := exs_ok x (List.mem_of_getElem? hx)
    have hxl : x.1.length ≤ 140737488355328 := by
      have := List.mem_of_getElem? hx
      simp only [exs, List.mem_cons, List.not_mem_nil, or_false] at this
      rcases this with rfl | rfl | rfl | rfl | rfl <;> decide
    have hlt : (k : Int) < 5 := by omega
    have hc := parse_c x.1 hxl
    rw [hx'] at hc
    have hz : readD (Gram.zero, x.2, 250) = .tup [.agg [.str [], .sl 1 [], .str [], .int .i64 0, .sl 5 [], .sl 5 []], .int .i64 x.2, .int .i64 250] := rfl
    rw [hz] at hc
    simp (maxSteps := 1000000) (disch := omega) only [go_sem, reduceIte, Nat.reduceEqDiff, Nat.reduceAdd, Nat.reduceLeDiff, Nat.reduceLT, Nat.reduceSub, Int.reduceLT, Int.reduceLE, Int.reduceEq, Int.reduceToNat, Option.map_some, List.length_map, List.getElem?_map, Int.toNat_natCast, h23, h24, h25, hlt, hx, exD]
    refine call_pure hc (by simp [go_sem]) ?_
    simp (maxSteps := 1000000) (disch := omega) only [go_sem, reduceIte, Nat.reduceEqDiff, Nat.reduceAdd, Nat.reduceLeDiff, Nat.reduceLT, Nat.reduceSub, Int.reduceLT, Int.reduceLE, Int.reduceEq, Int.reduceToNat, Option.map_some, List.length_map, List.getElem?_map, Int.toNat_natCast, h23, h24, h25]
    rw [wrap_succ (by omega)]
  · rintro σ bx ⟨h23, h24, h25⟩
    have hlt : ¬ ((5 : Nat) : Int) < 5 := by omega
    have hw : wholeG.d = .agg [.str [103], .sl 1 [.str [110, 112], .str [115]], .str [115], .int .i64 0, .sl 5 (wholeG.entries.map Entry.d), .sl 5 (wholeG.rules.map Rule.d)] := rfl
    have hs : shortG.d = .agg [.str [103], .sl 1 [], .str [115], .int .i64 0, .sl 5 [], .sl 5 []] := rfl
    have hz : Gram.zero.d = .agg [.str [], .sl 1 [], .str [], .int .i64 0, .sl 5 [], .sl 5 []] := rfl
    have c1 : CallsTo Tryz.prog 11 [.str shortS] (.tup [shortG.d, .int .i64 0, .int .i64 0]) := by
      have := parse_c shortS (by decide); rw [short_ok] at this; exact this
    have c2 : CallsTo Tryz.prog 11 [.str wholeS] (.tup [wholeG.d, .int .i64 0, .int .i64 0]) := by
      have := parse_c wholeS (by decide); rw [whole_ok] at this; exact this
    have p1 := print_c wholeG pr_w
    rw [print_w] at p1
    have p2 := print_c shortG pr_s
    rw [print_s] at p2
    have p3 := print_c Gram.zero pr_z
    rw [print_z] at p3
    have q1 := sameG_c shortG shortG pr_s.sz pr_s.sz
    have q2 := sameG_c wholeG wholeG pr_w.sz pr_w.sz
    have dc := declared_c
    rw [decide_eq_true rfl] at q1 q2
    have hwp : D.pure wholeG.d = true := pure_gram _
    have k3 := p3.weak1 (x := .agg [.str [], .nilsl, .str [], .int .i64 0, .nilsl, .nilsl]) (by rw [hz]; exact weak_agg6 (.refl _) (.nil _) (.refl _) (.refl _) (.nil _) (.nil _))
    have k1 := q1.weak2 (y := .agg [.str [103], .nilsl, .str [115], .int .i64 0, .nilsl, .nilsl]) (.refl _) (by rw [hs]; exact weak_agg6 (.refl _) (.nil _) (.refl _) (.refl _) (.nil _) (.nil _))
    rw [hs] at c1 p2 k1
    rw [hw] at c2 dc p1 q2 hwp
    simp (maxSteps := 1000000) (disch := omega) only [go_sem, reduceIte, Nat.reduceEqDiff, Nat.reduceAdd, Nat.reduceLeDiff, Nat.reduceLT, Nat.reduceSub, Int.reduceLT, Int.reduceLE, Int.reduceEq, Int.reduceToNat, Option.map_some, List.length_map, List.getElem?_map, Int.toNat_natCast, h23, h24, h25, hlt]
    refine call_pure c1 (by simp [go_sem]) ?_
    simp (maxSteps := 1000000) (disch := omega) only [go_sem, reduceIte, Nat.reduceEqDiff, Nat.reduceAdd, Nat.reduceLeDiff, Nat.reduceLT, Nat.reduceSub, Int.reduceLT, Int.reduceLE, Int.reduceEq, Int.reduceToNat, Option.map_some, List.length_map, List.getElem?_map, Int.toNat_natCast, h23, h24, h25]
    refine call_pure c2 (by simp [go_sem]) ?_
    simp (maxSteps := 1000000) (disch := omega) only [go_sem, reduceIte, Nat.reduceEqDiff, Nat.reduceAdd, Nat.reduceLeDiff, Nat.reduceLT, Nat.reduceSub, Int.reduceLT, Int.reduceLE, Int.reduceEq, Int.reduceToNat, Option.map_some, List.length_map, List.getElem?_map, Int.toNat_natCast, h23, h24, h25]
    refine call_pure dc rfl ?_
    simp (maxSteps := 1000000) (disch := omega) only [go_sem, reduceIte, Nat.reduceEqDiff, Nat.reduceAdd, Nat.reduceLeDiff, Nat.reduceLT, Nat.reduceSub, Int.reduceLT, Int.reduceLE, Int.reduceEq, Int.reduceToNat, Option.map_some, List.length_map, List.getElem?_map, Int.toNat_natCast, h23, h24, h25]
    refine call_pure p1 (by simp [D.pureL, hwp]) ?_
    simp (maxSteps := 1000000) (disch := omega) only [go_sem, reduceIte, Nat.reduceEqDiff, Nat.reduceAdd, Nat.reduceLeDiff, Nat.reduceLT, Nat.reduceSub, Int.reduceLT, Int.reduceLE, Int.reduceEq, Int.reduceToNat, Option.map_some, List.length_map, List.getElem?_map, Int.toNat_natCast, h23, h24, h25]
    refine call_pure p2 (by simp [go_sem]) ?_
    simp (maxSteps := 1000000) (disch := omega) only [go_sem, reduceIte, Nat.reduceEqDiff, Nat.reduceAdd, Nat.reduceLeDiff, Nat.reduceLT, Nat.reduceSub, Int.reduceLT, Int.reduceLE, Int.reduceEq, Int.reduceToNat, Option.map_some, List.length_map, List.getElem?_map, Int.toNat_natCast, h23, h24, h25]
    refine call_pure k3 (by simp [go_sem]) ?_
    simp (maxSteps := 1000000) (disch := omega) only [go_sem, reduceIte, Nat.reduceEqDiff, Nat.reduceAdd, Nat.reduceLeDiff, Nat.reduceLT, Nat.reduceSub, Int.reduceLT, Int.reduceLE, Int.reduceEq, Int.reduceToNat, Option.map_some, List.length_map, List.getElem?_map, Int.toNat_natCast, h23, h24, h25]
    refine call_pure k1 (by simp [go_sem]) ?_
    simp (maxSteps := 1000000) (disch := omega) only [go_sem, reduceIte, Nat.reduceEqDiff, Nat.reduceAdd, Nat.reduceLeDiff, Nat.reduceLT, Nat.reduceSub, Int.reduceLT, Int.reduceLE, Int.reduceEq, Int.reduceToNat, Option.map_some, List.length_map, List.getElem?_map, Int.toNat_natCast, h23, h24, h25]
    refine call_pure dc rfl ?_
    simp (maxSteps := 1000000) (disch := omega) only [go_sem, reduceIte, Nat.reduceEqDiff, Nat.reduceAdd, Nat.reduceLeDiff, Nat.reduceLT, Nat.reduceSub, Int.reduceLT, Int.reduceLE, Int.reduceEq, Int.reduceToNat, Option.map_some, List.length_map, List.getElem?_map, Int.toNat_natCast, h23, h24, h25]
    refine call_pure q2 (by simp [D.pureL, hwp]) ?_
    simp (maxSteps := 1000000) (disch := omega) only [go_sem, reduceIte, Nat.reduceEqDiff, Nat.reduceAdd, Nat.reduceLeDiff, Nat.reduceLT, Nat.reduceSub, Int.reduceLT, Int.reduceLE, Int.reduceEq, Int.reduceToNat, Option.map_some, List.length_map, List.getElem?_map, Int.toNat_natCast, h23, h24, h25]
    refine condD_yes (by rfl) ?_
    simp (maxSteps := 1000000) (disch := omega) only [go_sem, reduceIte, Nat.reduceEqDiff, Nat.reduceAdd, Nat.reduceLeDiff, Nat.reduceLT, Nat.reduceSub, Int.reduceLT, Int.reduceLE, Int.reduceEq, Int.reduceToNat, Option.map_some, List.length_map, List.getElem?_map, Int.toNat_natCast, h23, h24, h25]
    refine condD_yes (by rfl) ?_
    simp (maxSteps := 1000000) (disch := omega) only [go_sem, reduceIte, Nat.reduceEqDiff, Nat.reduceAdd, Nat.reduceLeDiff, Nat.reduceLT, Nat.reduceSub, Int.reduceLT, Int.reduceLE, Int.reduceEq, Int.reduceToNat, Option.map_some, List.length_map, List.getElem?_map, Int.toNat_natCast, h23, h24, h25]
    exact .refl _
theorem sane_c : CallsTo Tryz.prog 10 [] (.bool true) := fn_calls mixed sane_d rfl (by kernel_rfl) rfl
end Go.V.Gr
