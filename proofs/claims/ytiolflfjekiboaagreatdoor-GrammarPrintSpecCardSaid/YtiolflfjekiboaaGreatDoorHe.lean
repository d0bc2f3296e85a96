/-
  Grammar: the reference's words, names, numbers, costs, parts and gives.
-/
import Derived.Test.YtiolflfjekiboaaGreatDoorHd
namespace Go.V.Gr
open Go.Proofs Go.RowKit Go.V.Lx
set_option linter.unusedSimpArgs false
set_option linter.unusedVariables false
set_option maxRecDepth 100000

theorem px_pure2 (p : RP) (t : Str) : D.pureL [px p, .str t] = true := by simp [D.pureL, px_pure, D.pure]
theorem px_pure3 (p : RP) (k : Int) (t : Str) : D.pureL [px p, .int .i64 k, .str t] = true := by simp [D.pureL, px_pure, D.pure]
theorem next_lt {k : Int} {t : Str} {p : RP} (h : nextR k t p = true) : p.n < p.l.length := by
  unfold nextR at h
  cases hx : p.l[p.n]? with
  | some x => exact (List.getElem?_eq_some_iff.1 hx).1
  | none => rw [hx] at h; simp at h
theorem nm_some {p : RP} (h : isNmR p = true) : ∃ x, p.l[p.n]? = some x ∧ p.n < p.l.length := by
  unfold isNmR at h
  cases hx : p.l[p.n]? with
  | some x => exact ⟨x, rfl, (List.getElem?_eq_some_iff.1 hx).1⟩
  | none => rw [hx] at h; simp at h
theorem no_some {p : RP} (h : isNoR p = true) : ∃ x, p.l[p.n]? = some x ∧ p.n < p.l.length := by
  unfold isNoR at h
  cases hx : p.l[p.n]? with
  | some x => exact ⟨x, rfl, (List.getElem?_eq_some_iff.1 hx).1⟩
  | none => rw [hx] at h; simp at h
theorem expect_r (p : RP) (k : Int) (t : Str) (hl : p.l.length ≤ M) : fnD Tryz.prog (orac Tryz.prog) [] Tryz.f94 [px p, .int .i64 k, .str t] (px (expR k t p)) := by
  refine fn_intro _ [.cell 6 59] _ rfl rfl rfl (by kernel_rfl) ?_
  have hl : p.l.length ≤ 140737488355328 := hl
  have hc := next_rc p k t
  have hf := fail_rc p
  have hp := px_pure1 p
  simp only [px] at hc hf hp
  simp (maxSteps := 1000000) (disch := omega) only [go_sem, reduceIte, Nat.reduceEqDiff, Nat.reduceAdd, Nat.reduceLeDiff, Nat.reduceLT, Nat.reduceSub, Int.reduceLT, Int.reduceLE, Int.reduceEq, Int.reduceToNat, Option.map_some, List.length_map, List.getElem?_map, Int.toNat_natCast, px]
  refine call_pure hc (px_pure3 p _ t) ?_
  cases h : nextR k t p with
  | true =>
    have hlt := next_lt h
    have he : expR k t p = { p with n := p.n + 1 } := by unfold expR; rw [if_pos h]
    rw [he]
    have hw : IntKind.i64.wrap ((p.n : Int) + 1) = ((p.n + 1 : Nat) : Int) := wrap_succ (by omega)
    simp (maxSteps := 1000000) (disch := omega) only [go_sem, reduceIte, Nat.reduceEqDiff, Nat.reduceAdd, Nat.reduceLeDiff, Nat.reduceLT, Nat.reduceSub, Int.reduceLT, Int.reduceLE, Int.reduceEq, Int.reduceToNat, Option.map_some, List.length_map, List.getElem?_map, Int.toNat_natCast, hw]
    exact .refl _
  | false =>
    have he : expR k t p = failR p := by unfold expR; rw [if_neg (by rw [h]; decide)]
    rw [he]
    simp (maxSteps := 1000000) (disch := omega) only [go_sem, reduceIte, Nat.reduceEqDiff, Nat.reduceAdd, Nat.reduceLeDiff, Nat.reduceLT, Nat.reduceSub, Int.reduceLT, Int.reduceLE, Int.reduceEq, Int.reduceToNat, Option.map_some, List.length_map, List.getElem?_map, Int.toNat_natCast]
    refine call_pure hf hp ?_
    simp (maxSteps := 1000000) (disch := omega) only [go_sem, reduceIte, Nat.reduceEqDiff, Nat.reduceAdd, Nat.reduceLeDiff, Nat.reduceLT, Nat.reduceSub, Int.reduceLT, Int.reduceLE, Int.reduceEq, Int.reduceToNat, Option.map_some, List.length_map, List.getElem?_map, Int.toNat_natCast]
    exact .refl _
theorem expect_rc (p : RP) (k : Int) (t : Str) (hl : p.l.length ≤ M) : CallsTo Tryz.prog 94 [px p, .int .i64 k, .str t] (px (expR k t p)) := fn_calls mixed (expect_r p k t hl) rfl (by kernel_rfl) rfl
theorem exp_len (k : Int) (t : Str) (p : RP) : (expR k t p).l = p.l := by
  unfold expR failR
  split
  · rfl
  split <;> rfl
theorem fail_len (p : RP) : (failR p).l = p.l := by unfold failR; split <;> rfl
theorem name_len' (p : RP) : (nameR p).2.l = p.l := by
  unfold nameR
  split
  · rfl
  · exact fail_len p
theorem num_len (p : RP) : (numR p).2.l = p.l := by
  unfold numR
  split
  · rfl
  · exact fail_len p
theorem word_r (p : RP) (t : Str) (hl : p.l.length ≤ M) : fnD Tryz.prog (orac Tryz.prog) [] Tryz.f56 [px p, .str t] (px (expR 1 t p)) := by
  refine fn_intro _ [.cell 4 59] _ rfl rfl rfl (by kernel_rfl) ?_
  have hc := expect_rc p 1 t hl
  have hp := px_pure1 p
  simp only [px] at hc hp
  simp (maxSteps := 1000000) (disch := omega) only [go_sem, reduceIte, Nat.reduceEqDiff, Nat.reduceAdd, Nat.reduceLeDiff, Nat.reduceLT, Nat.reduceSub, Int.reduceLT, Int.reduceLE, Int.reduceEq, Int.reduceToNat, Option.map_some, List.length_map, List.getElem?_map, Int.toNat_natCast, px]
  refine call_pure hc (px_pure3 p _ t) ?_
  simp (maxSteps := 1000000) (disch := omega) only [go_sem, reduceIte, Nat.reduceEqDiff, Nat.reduceAdd, Nat.reduceLeDiff, Nat.reduceLT, Nat.reduceSub, Int.reduceLT, Int.reduceLE, Int.reduceEq, Int.reduceToNat, Option.map_some, List.length_map, List.getElem?_map, Int.toNat_natCast]
  exact .refl _
theorem word_rc (p : RP) (t : Str) (hl : p.l.length ≤ M) : CallsTo Tryz.prog 56 [px p, .str t] (px (expR 1 t p)) := fn_calls mixed (word_r p t hl) rfl (by kernel_rfl) rfl
theorem sign_r (p : RP) (t : Str) (hl : p.l.length ≤ M) : fnD Tryz.prog (orac Tryz.prog) [] Tryz.f57 [px p, .str t] (px (expR 3 t p)) := by
  refine fn_intro _ [.cell 4 59] _ rfl rfl rfl (by kernel_rfl) ?_
  have hc := expect_rc p 3 t hl
  have hp := px_pure1 p
  simp only [px] at hc hp
  simp (maxSteps := 1000000) (disch := omega) only [go_sem, reduceIte, Nat.reduceEqDiff, Nat.reduceAdd, Nat.reduceLeDiff, Nat.reduceLT, Nat.reduceSub, Int.reduceLT, Int.reduceLE, Int.reduceEq, Int.reduceToNat, Option.map_some, List.length_map, List.getElem?_map, Int.toNat_natCast, px]
  refine call_pure hc (px_pure3 p _ t) ?_
  simp (maxSteps := 1000000) (disch := omega) only [go_sem, reduceIte, Nat.reduceEqDiff, Nat.reduceAdd, Nat.reduceLeDiff, Nat.reduceLT, Nat.reduceSub, Int.reduceLT, Int.reduceLE, Int.reduceEq, Int.reduceToNat, Option.map_some, List.length_map, List.getElem?_map, Int.toNat_natCast]
  exact .refl _
theorem sign_rc (p : RP) (t : Str) (hl : p.l.length ≤ M) : CallsTo Tryz.prog 57 [px p, .str t] (px (expR 3 t p)) := fn_calls mixed (sign_r p t hl) rfl (by kernel_rfl) rfl
theorem isWord_r (p : RP) (t : Str) : fnD Tryz.prog (orac Tryz.prog) [] Tryz.f58 [px p, .str t] (.bool (nextR 1 t p)) := by
  refine fn_intro _ [.tmp 4] _ rfl rfl rfl (by kernel_rfl) ?_
  have hc := next_rc p 1 t
  have hp := px_pure1 p
  simp only [px] at hc hp
  simp (maxSteps := 1000000) (disch := omega) only [go_sem, reduceIte, Nat.reduceEqDiff, Nat.reduceAdd, Nat.reduceLeDiff, Nat.reduceLT, Nat.reduceSub, Int.reduceLT, Int.reduceLE, Int.reduceEq, Int.reduceToNat, Option.map_some, List.length_map, List.getElem?_map, Int.toNat_natCast, px]
  refine call_pure hc (px_pure3 p _ t) ?_
  simp (maxSteps := 1000000) (disch := omega) only [go_sem, reduceIte, Nat.reduceEqDiff, Nat.reduceAdd, Nat.reduceLeDiff, Nat.reduceLT, Nat.reduceSub, Int.reduceLT, Int.reduceLE, Int.reduceEq, Int.reduceToNat, Option.map_some, List.length_map, List.getElem?_map, Int.toNat_natCast]
  exact .refl _
theorem isWord_rc (p : RP) (t : Str) : CallsTo Tryz.prog 58 [px p, .str t] (.bool (nextR 1 t p)) := fn_calls mixed (isWord_r p t) rfl (by kernel_rfl) rfl
theorem isSign_r (p : RP) (t : Str) : fnD Tryz.prog (orac Tryz.prog) [] Tryz.f96 [px p, .str t] (.bool (nextR 3 t p)) := by
  refine fn_intro _ [.tmp 4] _ rfl rfl rfl (by kernel_rfl) ?_
  have hc := next_rc p 3 t
  have hp := px_pure1 p
  simp only [px] at hc hp
  simp (maxSteps := 1000000) (disch := omega) only [go_sem, reduceIte, Nat.reduceEqDiff, Nat.reduceAdd, Nat.reduceLeDiff, Nat.reduceLT, Nat.reduceSub, Int.reduceLT, Int.reduceLE, Int.reduceEq, Int.reduceToNat, Option.map_some, List.length_map, List.getElem?_map, Int.toNat_natCast, px]
  refine call_pure hc (px_pure3 p _ t) ?_
  simp (maxSteps := 1000000) (disch := omega) only [go_sem, reduceIte, Nat.reduceEqDiff, Nat.reduceAdd, Nat.reduceLeDiff, Nat.reduceLT, Nat.reduceSub, Int.reduceLT, Int.reduceLE, Int.reduceEq, Int.reduceToNat, Option.map_some, List.length_map, List.getElem?_map, Int.toNat_natCast]
  exact .refl _
theorem isSign_rc (p : RP) (t : Str) : CallsTo Tryz.prog 96 [px p, .str t] (.bool (nextR 3 t p)) := fn_calls mixed (isSign_r p t) rfl (by kernel_rfl) rfl
theorem name_r (p : RP) (hl : p.l.length ≤ M) : fnD Tryz.prog (orac Tryz.prog) [] Tryz.f55 [px p] (.tup [.str (nameR p).1, px (nameR p).2]) := by
  refine fn_intro _ [.tmp 2, .cell 3 59] _ rfl rfl rfl (by kernel_rfl) ?_
  have hl : p.l.length ≤ 140737488355328 := hl
  have hc := isName_rc p
  have hf := fail_rc p
  have hp := px_pure1 p
  simp only [px] at hc hf hp
  simp (maxSteps := 1000000) (disch := omega) only [go_sem, reduceIte, Nat.reduceEqDiff, Nat.reduceAdd, Nat.reduceLeDiff, Nat.reduceLT, Nat.reduceSub, Int.reduceLT, Int.reduceLE, Int.reduceEq, Int.reduceToNat, Option.map_some, List.length_map, List.getElem?_map, Int.toNat_natCast, px]
  refine call_pure hc hp ?_
  cases h : isNmR p with
  | true =>
    obtain ⟨x, hx, hlt⟩ := nm_some h
    have he : nameR p = (txtAt p, { p with n := p.n + 1 }) := by unfold nameR; rw [if_pos h]
    have ha : txtAt p = x.t := by unfold txtAt; rw [hx]
    rw [he, ha]
    have hw : IntKind.i64.wrap ((p.n : Int) + 1) = ((p.n + 1 : Nat) : Int) := wrap_succ (by omega)
    have hxd : x.d = .agg [.int .i64 x.k, .str x.t, .int .i64 x.n, .int .i64 x.a] := rfl
    have hlt' : (p.n : Int) < (p.l.length : Int) := by omega
    simp (maxSteps := 1000000) (disch := omega) only [go_sem, reduceIte, Nat.reduceEqDiff, Nat.reduceAdd, Nat.reduceLeDiff, Nat.reduceLT, Nat.reduceSub, Int.reduceLT, Int.reduceLE, Int.reduceEq, Int.reduceToNat, Option.map_some, List.length_map, List.getElem?_map, Int.toNat_natCast, hw, hx, hxd, hlt']
    exact .refl _
  | false =>
    have he : nameR p = ([], failR p) := by unfold nameR; rw [if_neg (by rw [h]; decide)]
    rw [he]
    simp (maxSteps := 1000000) (disch := omega) only [go_sem, reduceIte, Nat.reduceEqDiff, Nat.reduceAdd, Nat.reduceLeDiff, Nat.reduceLT, Nat.reduceSub, Int.reduceLT, Int.reduceLE, Int.reduceEq, Int.reduceToNat, Option.map_some, List.length_map, List.getElem?_map, Int.toNat_natCast]
    refine call_pure hf hp ?_
    simp (maxSteps := 1000000) (disch := omega) only [go_sem, reduceIte, Nat.reduceEqDiff, Nat.reduceAdd, Nat.reduceLeDiff, Nat.reduceLT, Nat.reduceSub, Int.reduceLT, Int.reduceLE, Int.reduceEq, Int.reduceToNat, Option.map_some, List.length_map, List.getElem?_map, Int.toNat_natCast]
    exact .refl _
theorem name_rc (p : RP) (hl : p.l.length ≤ M) : CallsTo Tryz.prog 55 [px p] (.tup [.str (nameR p).1, px (nameR p).2]) := fn_calls mixed (name_r p hl) rfl (by kernel_rfl) rfl
theorem number_r (p : RP) (hl : p.l.length ≤ M) : fnD Tryz.prog (orac Tryz.prog) [] Tryz.f127 [px p] (.tup [.int .i64 (numR p).1, px (numR p).2]) := by
  refine fn_intro _ [.tmp 2, .cell 3 59] _ rfl rfl rfl (by kernel_rfl) ?_
  have hl : p.l.length ≤ 140737488355328 := hl
  have hc := isNumber_rc p
  have hf := fail_rc p
  have hp := px_pure1 p
  simp only [px] at hc hf hp
  simp (maxSteps := 1000000) (disch := omega) only [go_sem, reduceIte, Nat.reduceEqDiff, Nat.reduceAdd, Nat.reduceLeDiff, Nat.reduceLT, Nat.reduceSub, Int.reduceLT, Int.reduceLE, Int.reduceEq, Int.reduceToNat, Option.map_some, List.length_map, List.getElem?_map, Int.toNat_natCast, px]
  refine call_pure hc hp ?_
  cases h : isNoR p with
  | true =>
    obtain ⟨x, hx, hlt⟩ := no_some h
    have he : numR p = (numAt p, { p with n := p.n + 1 }) := by unfold numR; rw [if_pos h]
    have ha : numAt p = x.n := by unfold numAt; rw [hx]
    rw [he, ha]
    have hw : IntKind.i64.wrap ((p.n : Int) + 1) = ((p.n + 1 : Nat) : Int) := wrap_succ (by omega)
    have hxd : x.d = .agg [.int .i64 x.k, .str x.t, .int .i64 x.n, .int .i64 x.a] := rfl
    have hlt' : (p.n : Int) < (p.l.length : Int) := by omega
    simp (maxSteps := 1000000) (disch := omega) only [go_sem, reduceIte, Nat.reduceEqDiff, Nat.reduceAdd, Nat.reduceLeDiff, Nat.reduceLT, Nat.reduceSub, Int.reduceLT, Int.reduceLE, Int.reduceEq, Int.reduceToNat, Option.map_some, List.length_map, List.getElem?_map, Int.toNat_natCast, hw, hx, hxd, hlt']
    exact .refl _
  | false =>
    have he : numR p = (0, failR p) := by unfold numR; rw [if_neg (by rw [h]; decide)]
    rw [he]
    simp (maxSteps := 1000000) (disch := omega) only [go_sem, reduceIte, Nat.reduceEqDiff, Nat.reduceAdd, Nat.reduceLeDiff, Nat.reduceLT, Nat.reduceSub, Int.reduceLT, Int.reduceLE, Int.reduceEq, Int.reduceToNat, Option.map_some, List.length_map, List.getElem?_map, Int.toNat_natCast]
    refine call_pure hf hp ?_
    simp (maxSteps := 1000000) (disch := omega) only [go_sem, reduceIte, Nat.reduceEqDiff, Nat.reduceAdd, Nat.reduceLeDiff, Nat.reduceLT, Nat.reduceSub, Int.reduceLT, Int.reduceLE, Int.reduceEq, Int.reduceToNat, Option.map_some, List.length_map, List.getElem?_map, Int.toNat_natCast]
    exact .refl _
theorem number_rc (p : RP) (hl : p.l.length ≤ M) : CallsTo Tryz.prog 127 [px p] (.tup [.int .i64 (numR p).1, px (numR p).2]) := fn_calls mixed (number_r p hl) rfl (by kernel_rfl) rfl
end Go.V.Gr
