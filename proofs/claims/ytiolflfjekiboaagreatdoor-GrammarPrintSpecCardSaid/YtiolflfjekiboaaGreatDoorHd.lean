/-
  Grammar: the reference's small steps.
-/
import Derived.Test.YtiolflfjekiboaaGreatDoorHb
import Derived.Test.YtiolflfjekiboaaGreatDoorGn
namespace Go.V.Gr
open Go.Proofs Go.RowKit Go.V.Lx
set_option linter.unusedSimpArgs false
set_option linter.unusedVariables false
set_option maxRecDepth 100000

/-- a reader's cells -/
def px (p : RP) : D := .agg [.sl 4 (p.l.map Tok.d), .int .i64 (p.n : Int), .int .i64 (p.fin : Int), .bool p.bad, .int .i64 p.at_]
theorem px_pure (p : RP) : D.pure (px p) = true := by have := pureL_toks p.l; simp [px, D.pure, D.pureL, this]
theorem px_pure1 (p : RP) : D.pureL [px p] = true := by simp [D.pureL, px_pure]
theorem reserved_d (s : Str) : fnD Tryz.prog (orac Tryz.prog) [] Tryz.f126 [.str s] (.bool (words8.contains s)) := by
  refine fn_intro _ [.tmp 2] _ rfl rfl rfl (by kernel_rfl) ?_
  simp (maxSteps := 1000000) (disch := omega) only [go_sem, reduceIte, Nat.reduceEqDiff, Nat.reduceAdd, Nat.reduceLeDiff, Nat.reduceLT, Nat.reduceSub, Int.reduceLT, Int.reduceLE, Int.reduceEq, Int.reduceToNat, Option.map_some, List.length_map, List.getElem?_map, Int.toNat_natCast]
  refine cD_for 8 (fun k σ bx => σ 0 = .str s ∧ σ 3 = strs words8 ∧ σ 4 = .int .i64 k ∧ (words8.take k).contains s = false) ⟨by simp [go_sem, argsF], by simp [go_sem, strs, words8, wGrammar, wCategory, wStart, wWord, wIs, wGives, wCost, wRule], by simp [go_sem], rfl⟩ ?_ ?_
  · rintro k σ bx hk ⟨h0, h3, h4, hn⟩
    obtain ⟨x, hx⟩ := get_lt (show k < words8.length from hk)
    have hlt : (k : Int) < (words8.length : Int) := by have : words8.length = 8 := rfl; omega
    simp (maxSteps := 1000000) (disch := omega) only [go_sem, reduceIte, Nat.reduceEqDiff, Nat.reduceAdd, Nat.reduceLeDiff, Nat.reduceLT, Nat.reduceSub, Int.reduceLT, Int.reduceLE, Int.reduceEq, Int.reduceToNat, Option.map_some, List.length_map, List.getElem?_map, Int.toNat_natCast, h0, h3, h4, hlt, strs, hx]
    refine condD_dec (fun h => ?_) (fun h => ?_)
    · simp (maxSteps := 1000000) (disch := omega) only [go_sem, reduceIte, Nat.reduceEqDiff, Nat.reduceAdd, Nat.reduceLeDiff, Nat.reduceLT, Nat.reduceSub, Int.reduceLT, Int.reduceLE, Int.reduceEq, Int.reduceToNat, Option.map_some, List.length_map, List.getElem?_map, Int.toNat_natCast, h0, h3, h4]
      subst h
      have : words8.contains x = true := by rw [List.contains_iff_mem]; exact List.mem_of_getElem? hx
      rw [this]
      exact .refl _
    · simp (maxSteps := 1000000) (disch := omega) only [go_sem, reduceIte, Nat.reduceEqDiff, Nat.reduceAdd, Nat.reduceLeDiff, Nat.reduceLT, Nat.reduceSub, Int.reduceLT, Int.reduceLE, Int.reduceEq, Int.reduceToNat, Option.map_some, List.length_map, List.getElem?_map, Int.toNat_natCast, h0, h3, h4]
      rw [wrap_succ (by omega)]
      refine ⟨rfl, ?_⟩
      rw [List.take_add_one, hx, List.contains_eq_any_beq, List.any_append, ← List.contains_eq_any_beq, hn]
      have : (s == x) = false := by rw [beq_eq_false_iff_ne]; exact fun e => h e.symm
      simp [this]
  · rintro σ bx ⟨h0, h3, h4, hn⟩
    have hlt : ¬ ((8 : Nat) : Int) < (words8.length : Int) := by have : words8.length = 8 := rfl; omega
    simp (maxSteps := 1000000) (disch := omega) only [go_sem, reduceIte, Nat.reduceEqDiff, Nat.reduceAdd, Nat.reduceLeDiff, Nat.reduceLT, Nat.reduceSub, Int.reduceLT, Int.reduceLE, Int.reduceEq, Int.reduceToNat, Option.map_some, List.length_map, List.getElem?_map, Int.toNat_natCast, h0, h3, h4, hlt, strs]
    have : words8.contains s = false := hn
    rw [this]
    exact .refl _
theorem reserved_c (s : Str) : CallsTo Tryz.prog 126 [.str s] (.bool (words8.contains s)) := fn_calls mixed (reserved_d s) rfl (by kernel_rfl) rfl
theorem fail_r (p : RP) : fnD Tryz.prog (orac Tryz.prog) [] Tryz.f61 [px p] (px (failR p)) := by
  refine fn_intro _ [.cell 2 59] _ rfl rfl rfl (by kernel_rfl) ?_
  obtain ⟨l, n, fin, bad, a⟩ := p
  cases bad with
  | true =>
    simp (maxSteps := 1000000) (disch := omega) only [go_sem, reduceIte, Nat.reduceEqDiff, Nat.reduceAdd, Nat.reduceLeDiff, Nat.reduceLT, Nat.reduceSub, Int.reduceLT, Int.reduceLE, Int.reduceEq, Int.reduceToNat, Option.map_some, List.length_map, List.getElem?_map, Int.toNat_natCast, px]
    exact .refl _
  | false =>
    cases hx : l[n]? with
    | some x =>
      have hlt : (n : Int) < (l.length : Int) := by have := (List.getElem?_eq_some_iff.1 hx).1; omega
      have hxd : x.d = .agg [.int .i64 x.k, .str x.t, .int .i64 x.n, .int .i64 x.a] := rfl
      simp (maxSteps := 1000000) (disch := omega) only [go_sem, reduceIte, Nat.reduceEqDiff, Nat.reduceAdd, Nat.reduceLeDiff, Nat.reduceLT, Nat.reduceSub, Int.reduceLT, Int.reduceLE, Int.reduceEq, Int.reduceToNat, Option.map_some, List.length_map, List.getElem?_map, Int.toNat_natCast, px, hlt, hx, hxd, failR, Bool.false_eq_true]
      exact .refl _
    | none =>
      have hlt : ¬ (n : Int) < (l.length : Int) := fun h => by rw [List.getElem?_eq_getElem (by omega)] at hx; cases hx
      simp (maxSteps := 1000000) (disch := omega) only [go_sem, reduceIte, Nat.reduceEqDiff, Nat.reduceAdd, Nat.reduceLeDiff, Nat.reduceLT, Nat.reduceSub, Int.reduceLT, Int.reduceLE, Int.reduceEq, Int.reduceToNat, Option.map_some, List.length_map, List.getElem?_map, Int.toNat_natCast, px, hlt, hx, failR, Bool.false_eq_true]
      exact .refl _
theorem fail_rc (p : RP) : CallsTo Tryz.prog 61 [px p] (px (failR p)) := fn_calls mixed (fail_r p) rfl (by kernel_rfl) rfl
theorem next_r (p : RP) (k : Int) (t : Str) : fnD Tryz.prog (orac Tryz.prog) [] Tryz.f95 [px p, .int .i64 k, .str t] (.bool (nextR k t p)) := by
  refine fn_intro _ [.tmp 6] _ rfl rfl rfl (by kernel_rfl) ?_
  obtain ⟨l, n, fin, bad, a⟩ := p
  cases bad with
  | true =>
    simp (maxSteps := 1000000) (disch := omega) only [go_sem, reduceIte, Nat.reduceEqDiff, Nat.reduceAdd, Nat.reduceLeDiff, Nat.reduceLT, Nat.reduceSub, Int.reduceLT, Int.reduceLE, Int.reduceEq, Int.reduceToNat, Option.map_some, List.length_map, List.getElem?_map, Int.toNat_natCast, px]
    exact .refl _
  | false =>
    cases hx : l[n]? with
    | some x =>
      have hlt : (n : Int) < (l.length : Int) := by have := (List.getElem?_eq_some_iff.1 hx).1; omega
      have hxd : x.d = .agg [.int .i64 x.k, .str x.t, .int .i64 x.n, .int .i64 x.a] := rfl
      have hr : nextR k t ⟨l, n, fin, false, a⟩ = (decide (x.k = k) && decide (x.t = t)) := by simp [nextR, hx]
      rw [hr]
      clear hr
      repeat' (first | with_reducible refine condD_dec (fun _ => ?_) (fun _ => ?_) | with_reducible refine condD_split (fun _ => ?_) (fun _ => ?_) | simp (maxSteps := 1000000) (disch := omega) only [go_sem, reduceIte, Nat.reduceEqDiff, Nat.reduceAdd, Nat.reduceLeDiff, Nat.reduceLT, Nat.reduceSub, Int.reduceLT, Int.reduceLE, Int.reduceEq, Int.reduceToNat, Option.map_some, List.length_map, List.getElem?_map, Int.toNat_natCast, *, px, hlt, hx, hxd])
      all_goals (refine weak_eq (congrArg D.bool ?_); simp [*]; done)
    | none =>
      have hlt : ¬ (n : Int) < (l.length : Int) := fun h => by rw [List.getElem?_eq_getElem (by omega)] at hx; cases hx
      have hr : nextR k t ⟨l, n, fin, false, a⟩ = false := by simp [nextR, hx]
      rw [hr]
      simp (maxSteps := 1000000) (disch := omega) only [go_sem, reduceIte, Nat.reduceEqDiff, Nat.reduceAdd, Nat.reduceLeDiff, Nat.reduceLT, Nat.reduceSub, Int.reduceLT, Int.reduceLE, Int.reduceEq, Int.reduceToNat, Option.map_some, List.length_map, List.getElem?_map, Int.toNat_natCast, px, hlt, hx]
      exact .refl _
theorem next_rc (p : RP) (k : Int) (t : Str) : CallsTo Tryz.prog 95 [px p, .int .i64 k, .str t] (.bool (nextR k t p)) := fn_calls mixed (next_r p k t) rfl (by kernel_rfl) rfl
theorem isName_r (p : RP) : fnD Tryz.prog (orac Tryz.prog) [] Tryz.f93 [px p] (.bool (isNmR p)) := by
  refine fn_intro _ [.tmp 2] _ rfl rfl rfl (by kernel_rfl) ?_
  obtain ⟨l, n, fin, bad, a⟩ := p
  cases bad with
  | true =>
    simp (maxSteps := 1000000) (disch := omega) only [go_sem, reduceIte, Nat.reduceEqDiff, Nat.reduceAdd, Nat.reduceLeDiff, Nat.reduceLT, Nat.reduceSub, Int.reduceLT, Int.reduceLE, Int.reduceEq, Int.reduceToNat, Option.map_some, List.length_map, List.getElem?_map, Int.toNat_natCast, px]
    exact .refl _
  | false =>
    cases hx : l[n]? with
    | some x =>
      have hlt : (n : Int) < (l.length : Int) := by have := (List.getElem?_eq_some_iff.1 hx).1; omega
      have hxd : x.d = .agg [.int .i64 x.k, .str x.t, .int .i64 x.n, .int .i64 x.a] := rfl
      have hr : isNmR ⟨l, n, fin, false, a⟩ = (decide (x.k = 1) && !words8.contains x.t) := by simp [isNmR, hx]
      rw [hr]
      clear hr
      have hq := reserved_c x.t
      repeat' (first | with_reducible refine condD_dec (fun _ => ?_) (fun _ => ?_) | with_reducible refine condD_split (fun _ => ?_) (fun _ => ?_) | with_reducible refine pureO (hq) (by simp [go_sem]) ?_ | with_reducible refine pureT (hq) (by simp [go_sem]) ?_ | simp (maxSteps := 1000000) (disch := omega) only [go_sem, reduceIte, Nat.reduceEqDiff, Nat.reduceAdd, Nat.reduceLeDiff, Nat.reduceLT, Nat.reduceSub, Int.reduceLT, Int.reduceLE, Int.reduceEq, Int.reduceToNat, Option.map_some, List.length_map, List.getElem?_map, Int.toNat_natCast, *, px, hlt, hx, hxd])
      all_goals (refine weak_eq (congrArg D.bool ?_); simp [*]; done)
    | none =>
      have hlt : ¬ (n : Int) < (l.length : Int) := fun h => by rw [List.getElem?_eq_getElem (by omega)] at hx; cases hx
      have hr : isNmR ⟨l, n, fin, false, a⟩ = false := by simp [isNmR, hx]
      rw [hr]
      simp (maxSteps := 1000000) (disch := omega) only [go_sem, reduceIte, Nat.reduceEqDiff, Nat.reduceAdd, Nat.reduceLeDiff, Nat.reduceLT, Nat.reduceSub, Int.reduceLT, Int.reduceLE, Int.reduceEq, Int.reduceToNat, Option.map_some, List.length_map, List.getElem?_map, Int.toNat_natCast, px, hlt, hx]
      exact .refl _
theorem isName_rc (p : RP) : CallsTo Tryz.prog 93 [px p] (.bool (isNmR p)) := fn_calls mixed (isName_r p) rfl (by kernel_rfl) rfl
theorem isNumber_r (p : RP) : fnD Tryz.prog (orac Tryz.prog) [] Tryz.f100 [px p] (.bool (isNoR p)) := by
  refine fn_intro _ [.tmp 2] _ rfl rfl rfl (by kernel_rfl) ?_
  obtain ⟨l, n, fin, bad, a⟩ := p
  cases bad with
  | true =>
    simp (maxSteps := 1000000) (disch := omega) only [go_sem, reduceIte, Nat.reduceEqDiff, Nat.reduceAdd, Nat.reduceLeDiff, Nat.reduceLT, Nat.reduceSub, Int.reduceLT, Int.reduceLE, Int.reduceEq, Int.reduceToNat, Option.map_some, List.length_map, List.getElem?_map, Int.toNat_natCast, px]
    exact .refl _
  | false =>
    cases hx : l[n]? with
    | some x =>
      have hlt : (n : Int) < (l.length : Int) := by have := (List.getElem?_eq_some_iff.1 hx).1; omega
      have hxd : x.d = .agg [.int .i64 x.k, .str x.t, .int .i64 x.n, .int .i64 x.a] := rfl
      have hr : isNoR ⟨l, n, fin, false, a⟩ = decide (x.k = 2) := by simp [isNoR, hx]
      rw [hr]
      clear hr
      repeat' (first | with_reducible refine condD_dec (fun _ => ?_) (fun _ => ?_) | with_reducible refine condD_split (fun _ => ?_) (fun _ => ?_) | simp (maxSteps := 1000000) (disch := omega) only [go_sem, reduceIte, Nat.reduceEqDiff, Nat.reduceAdd, Nat.reduceLeDiff, Nat.reduceLT, Nat.reduceSub, Int.reduceLT, Int.reduceLE, Int.reduceEq, Int.reduceToNat, Option.map_some, List.length_map, List.getElem?_map, Int.toNat_natCast, *, px, hlt, hx, hxd])
      all_goals (refine weak_eq (congrArg D.bool ?_); simp [*]; done)
    | none =>
      have hlt : ¬ (n : Int) < (l.length : Int) := fun h => by rw [List.getElem?_eq_getElem (by omega)] at hx; cases hx
      have hr : isNoR ⟨l, n, fin, false, a⟩ = false := by simp [isNoR, hx]
      rw [hr]
      simp (maxSteps := 1000000) (disch := omega) only [go_sem, reduceIte, Nat.reduceEqDiff, Nat.reduceAdd, Nat.reduceLeDiff, Nat.reduceLT, Nat.reduceSub, Int.reduceLT, Int.reduceLE, Int.reduceEq, Int.reduceToNat, Option.map_some, List.length_map, List.getElem?_map, Int.toNat_natCast, px, hlt, hx]
      exact .refl _
theorem isNumber_rc (p : RP) : CallsTo Tryz.prog 100 [px p] (.bool (isNoR p)) := fn_calls mixed (isNumber_r p) rfl (by kernel_rfl) rfl
end Go.V.Gr
