/-
  Cuts: the functions of the program, on data.
-/
import Derived.Test.YtfhbndbngdglfaaCa
namespace Go.V.Cu
open Go.Proofs Go.RowKit
set_option linter.unusedSimpArgs false
set_option linter.unusedVariables false

theorem mixed : Try.prog.follows .mixedOrders = true := by kernel_rfl

theorem check_d (l : List Span) (hl : l.length ≤ 140737488351232) : fnD Try.prog (orac Try.prog) [] Try.f15 [spans l] (.int .i64 (check l)) := by
  refine fn_intro _ [.tmp 2] _ rfl rfl rfl (by kernel_rfl) ?_
  simp (disch := omega) only [go_sem, reduceIte, Nat.reduceEqDiff, Nat.reduceAdd, Nat.reduceLeDiff, Option.map_some, List.length_map, List.getElem?_map, Int.toNat_natCast, spans]
  refine condD_dec (fun h => ?_) (fun h => ?_)
  · simp (disch := omega) only [go_sem, reduceIte, Nat.reduceEqDiff, Nat.reduceAdd, Nat.reduceLeDiff, Option.map_some, List.length_map, List.getElem?_map, Int.toNat_natCast]
    rw [check, if_pos (by omega)]; exact .refl _
  simp (disch := omega) only [go_sem, reduceIte, Nat.reduceEqDiff, Nat.reduceAdd, Nat.reduceLeDiff, Option.map_some, List.length_map, List.getElem?_map, Int.toNat_natCast]
  refine cD_for l.length (fun k σ _ => σ 8 = spans l ∧ σ 9 = .int .i64 l.length ∧ σ 10 = .int .i64 k ∧ (l.take k).any badSpan = false)
    ⟨by simp [go_sem, spans], by simp [go_sem], by simp [go_sem], by simp⟩ ?_ ?_
  · rintro k σ bx hk ⟨h8, h9, h10, hb⟩
    obtain ⟨x, hx⟩ := get_lt hk
    have bad : badSpan x = true → Weak (D.int .i64 150) (.int .i64 (check l)) := fun hp => by
      rw [check, if_neg (by omega), any_of badSpan hx hp]; exact .refl _
    simp (disch := omega) only [go_sem, reduceIte, Nat.reduceEqDiff, Nat.reduceAdd, Nat.reduceLeDiff, Option.map_some, List.length_map, List.getElem?_map, Int.toNat_natCast, h8, h9, h10, spans]
    refine condD_yes (by omega) ?_
    simp (disch := omega) only [go_sem, reduceIte, Nat.reduceEqDiff, Nat.reduceAdd, Nat.reduceLeDiff, Option.map_some, List.length_map, List.getElem?_map, Int.toNat_natCast, h8, h9, h10, spans, hx, Span.d]
    refine condD_dec (fun h1 => ?_) (fun h1 => ?_)
    · simp (disch := omega) only [go_sem, reduceIte, Nat.reduceEqDiff, Nat.reduceAdd, Nat.reduceLeDiff, Option.map_some, List.length_map, List.getElem?_map, Int.toNat_natCast, h1]
      exact bad (by simp [badSpan, h1])
    · simp (disch := omega) only [go_sem, reduceIte, Nat.reduceEqDiff, Nat.reduceAdd, Nat.reduceLeDiff, Option.map_some, List.length_map, List.getElem?_map, Int.toNat_natCast, h1, h8, h9, h10, spans, hx, Span.d]
      refine condD_dec (fun h2 => ?_) (fun h2 => ?_)
      · simp (disch := omega) only [go_sem, reduceIte, Nat.reduceEqDiff, Nat.reduceAdd, Nat.reduceLeDiff, Option.map_some, List.length_map, List.getElem?_map, Int.toNat_natCast, h1, h2]
        exact bad (by simp [badSpan, h2])
      · simp (disch := omega) only [go_sem, reduceIte, Nat.reduceEqDiff, Nat.reduceAdd, Nat.reduceLeDiff, Option.map_some, List.length_map, List.getElem?_map, Int.toNat_natCast, h1, h2, h8, h9, h10, spans, hx, Span.d]
        refine condD_dec (fun h3 => ?_) (fun h3 => ?_)
        · simp (disch := omega) only [go_sem, reduceIte, Nat.reduceEqDiff, Nat.reduceAdd, Nat.reduceLeDiff, Option.map_some, List.length_map, List.getElem?_map, Int.toNat_natCast, h1, h2, h3]
          exact bad (by simp [badSpan, h3])
        · simp (disch := omega) only [go_sem, reduceIte, Nat.reduceEqDiff, Nat.reduceAdd, Nat.reduceLeDiff, Option.map_some, List.length_map, List.getElem?_map, Int.toNat_natCast, h1, h2, h3, h8, h9, h10, spans, hx, Span.d]
          rw [wrap_succ (by omega)]
          and_intros <;> try trivial
          rw [take_any badSpan hx hb]
          simp [badSpan, h1, h2, h3]
  · rintro σ bx ⟨h8, h9, h10, hb⟩
    simp (disch := omega) only [go_sem, reduceIte, Nat.reduceEqDiff, Nat.reduceAdd, Nat.reduceLeDiff, Option.map_some, List.length_map, List.getElem?_map, Int.toNat_natCast, h8, h9, h10]
    refine condD_no (by omega) ?_
    simp (disch := omega) only [go_sem, reduceIte, Nat.reduceEqDiff, Nat.reduceAdd, Nat.reduceLeDiff, Option.map_some, List.length_map, List.getElem?_map, Int.toNat_natCast]
    rw [check, if_neg (by omega)]
    rw [List.take_length] at hb
    rw [hb]; exact .refl _
theorem check_c (l : List Span) (hl : l.length ≤ 140737488351232) : CallsTo Try.prog 15 [spans l] (.int .i64 (check l)) :=
  fn_calls mixed (check_d l hl) rfl (by kernel_rfl) rfl

theorem isTime_d (n : Int) : fnD Try.prog (orac Try.prog) [] Try.f23 [.int .i64 n] (.bool (isTime n)) := by
  refine fn_intro _ [.tmp 2] _ rfl rfl rfl (by kernel_rfl) ?_
  simp (disch := omega) only [go_sem, reduceIte, Nat.reduceEqDiff, Nat.reduceAdd, Nat.reduceLeDiff, Option.map_some, List.length_map, List.getElem?_map, Int.toNat_natCast]
  refine condD_dec (fun h => ?_) (fun h => ?_)
  · simp (disch := omega) only [go_sem, reduceIte, Nat.reduceEqDiff, Nat.reduceAdd, Nat.reduceLeDiff, Option.map_some, List.length_map, List.getElem?_map, Int.toNat_natCast, h]
    simp only [isTime, h, decide_true, Bool.true_and]
    exact .refl _
  · simp (disch := omega) only [go_sem, reduceIte, Nat.reduceEqDiff, Nat.reduceAdd, Nat.reduceLeDiff, Option.map_some, List.length_map, List.getElem?_map, Int.toNat_natCast, h]
    simp only [isTime, h, decide_false, Bool.false_and]
    exact .refl _
theorem isTime_c (n : Int) : CallsTo Try.prog 23 [.int .i64 n] (.bool (isTime n)) := fn_calls mixed (isTime_d n) rfl (by kernel_rfl) rfl

theorem pieces1_d (l : List Span) (hg : Good l) : fnI Try.prog (orac Try.prog) [] Try.f30 [.cref (spans l) 0] (pieceItems l) := by
  refine fnI_intro _ 25 rfl rfl rfl (by kernel_rfl) ?_
  intro gs l' bx hk hs
  have hl := hg.1
  simp (disch := omega) only [go_sem, reduceIte, Nat.reduceEqDiff, Nat.reduceAdd, Nat.reduceLeDiff, Option.map_some, List.length_map, List.getElem?_map, Int.toNat_natCast, spans]
  refine cD_for l.length (fun k σ bx => σ 3 = .int .i64 (lenZ (l.take k)) ∧ σ 6 = spans l ∧ σ 7 = .int .i64 l.length ∧ σ 8 = .int .i64 k ∧ (bx gs).sz = k ∧ (bx gs).k = 0 ∧ σ 0 = .fn (.yield l') []) ⟨by simp [go_sem, lenZ], by simp [go_sem, spans], by simp [go_sem], by simp [go_sem], by simp [go_sem, hs], by simp [hk], by simp [argsF, go_sem]⟩ ?_ ?_
  · rintro k σ bx hk ⟨h3, h6, h7, h8, hsz, hk0, h0⟩
    obtain ⟨x, hx⟩ := get_lt hk
    have gx := good_at hg hx
    have hb := lenZ_take_bound hg k
    unfold Span.good at gx
    simp (disch := omega) only [go_sem, reduceIte, Nat.reduceEqDiff, Nat.reduceAdd, Nat.reduceLeDiff, Option.map_some, List.length_map, List.getElem?_map, Int.toNat_natCast, h3, h6, h7, h8, h0, spans]
    refine condD_yes (by omega) ?_
    simp (disch := omega) only [go_sem, reduceIte, Nat.reduceEqDiff, Nat.reduceAdd, Nat.reduceLeDiff, Option.map_some, List.length_map, List.getElem?_map, Int.toNat_natCast, h3, h6, h7, h8, h0, spans, hx, Span.d]
    refine yield_step rfl (by simp [go_sem]) ?_ fun bx1 => ⟨?_, ?_⟩
    · have := pieceItems_at hx
      simp only [upd]
      rw [if_neg (by omega), if_neg (by omega), hsz]
      exact this
    · simp (disch := omega) only [go_sem, reduceIte, Nat.reduceEqDiff, Nat.reduceAdd, Nat.reduceLeDiff, Option.map_some, List.length_map, List.getElem?_map, Int.toNat_natCast, h3, h6, h7, h8, h0, hsz, hk0, spans, hx, Span.d]
      rw [wrap_succ (by omega), lenZ_take hx, wrap_i64 (n := x.u - x.f) (by omega) (by omega), wrap_i64 (by omega) (by omega)]
      simp
    · simp (disch := omega) only [go_sem, reduceIte, Nat.reduceEqDiff, Nat.reduceAdd, Nat.reduceLeDiff, Option.map_some, List.length_map, List.getElem?_map, Int.toNat_natCast, h3, h6, h7, h8, h0, hsz, hk0, spans, hx, Span.d]
  · rintro σ bx ⟨h3, h6, h7, h8, hsz, hk0, h0⟩
    simp (disch := omega) only [go_sem, reduceIte, Nat.reduceEqDiff, Nat.reduceAdd, Nat.reduceLeDiff, Option.map_some, List.length_map, List.getElem?_map, Int.toNat_natCast, h3, h6, h7, h8, h0]
    refine condD_no (by omega) ?_
    simp (disch := omega) only [go_sem, reduceIte, Nat.reduceEqDiff, Nat.reduceAdd, Nat.reduceLeDiff, Option.map_some, List.length_map, List.getElem?_map, Int.toNat_natCast]
    rw [pieceItems_len]
    omega
theorem pieces_d (l : List Span) : fnD Try.prog (orac Try.prog) [] Try.f24 [spans l] (.fn (.func 30) [.cref (spans l) 0]) := by
  refine fn_intro _ [.tmp 2] _ rfl rfl rfl (by kernel_rfl) ?_
  simp (disch := omega) only [go_sem, reduceIte, Nat.reduceEqDiff, Nat.reduceAdd, Nat.reduceLeDiff, Option.map_some, List.length_map, List.getElem?_map, Int.toNat_natCast, spans]
  exact .refl _
theorem pieces1_c (l : List Span) (hg : Good l) : IterTo Try.prog 30 [.cref (spans l) 0] (pieceItems l) 26 :=
  fnI_calls mixed (pieces1_d l hg) rfl (by kernel_rfl) rfl
theorem pieces_c (l : List Span) : CallsTo Try.prog 24 [spans l] (.fn (.func 30) [.cref (spans l) 0]) :=
  fn_calls mixed (pieces_d l) rfl (by kernel_rfl) rfl

theorem back_d (l : List Span) (u : Int) (hl : l.length ≤ 140737488351232) : fnD Try.prog (orac Try.prog) [(3, [(3, 2), (3, 1)])] Try.f11 [spans l, .int .i64 u] (backD (back l u)) := by
  refine fn_intro _ [.cell 4 3, .cell 5 4, .cell 6 25] 32 rfl rfl rfl (by kernel_rfl) ?_
  simp (disch := omega) only [go_sem, reduceIte, Nat.reduceEqDiff, Nat.reduceAdd, Nat.reduceLeDiff, Option.map_some, List.length_map, List.getElem?_map, Int.toNat_natCast, spans]
  refine call_pure (check_c l hl) (by simp [go_sem]) ?_
  simp (disch := omega) only [go_sem, reduceIte, Nat.reduceEqDiff, Nat.reduceAdd, Nat.reduceLeDiff, Option.map_some, List.length_map, List.getElem?_map, Int.toNat_natCast, spans]
  refine condD_dec (fun h => ?_) (fun h => ?_)
  · simp (disch := omega) only [go_sem, reduceIte, Nat.reduceEqDiff, Nat.reduceAdd, Nat.reduceLeDiff, Option.map_some, List.length_map, List.getElem?_map, Int.toNat_natCast, h]
    have hg := good_of_check h
    refine call_pure (isTime_c u) (by simp [go_sem]) ?_
    simp (disch := omega) only [go_sem, reduceIte, Nat.reduceEqDiff, Nat.reduceAdd, Nat.reduceLeDiff, Option.map_some, List.length_map, List.getElem?_map, Int.toNat_natCast, h]
    refine condD_split (fun h2 => ?_) (fun h2 => ?_)
    · simp (disch := omega) only [go_sem, reduceIte, Nat.reduceEqDiff, Nat.reduceAdd, Nat.reduceLeDiff, Option.map_some, List.length_map, List.getElem?_map, Int.toNat_natCast, h2]
      have hu : 0 ≤ u ∧ u < 1099511627776 := by simpa [isTime] using h2
      refine call_pure (pieces_c l) (by simp [go_sem]) ?_
      simp (disch := omega) only [go_sem, reduceIte, Nat.reduceEqDiff, Nat.reduceAdd, Nat.reduceLeDiff, Option.map_some, List.length_map, List.getElem?_map, Int.toNat_natCast, h2]
      refine cD_range 30 [.cref (spans l) 0] (pieceItems l) 26 (fun n c => (∃ tv : Int, c 4 = ⟨1, 1, 1, 3, [.int .i64 tv]⟩) ∧ c 3 = ⟨1, 1, 1, 3, [.int .i64 u]⟩ ∧ c 5 = ⟨1, 1, 1, 4, [.bool false]⟩ ∧ c 6 = ⟨1, 1, 1, 25, [.int .i64 0]⟩ ∧ backZ u (lenZ (l.take n)) (l.drop n) = backZ u 0 l) (by simp [go_sem]) (by simp [go_sem]) (pieces1_c l hg) ?_ ?_ ?_
      · simp (disch := omega) only [go_sem, reduceIte, Nat.reduceEqDiff, Nat.reduceAdd, Nat.reduceLeDiff, Option.map_some, List.length_map, List.getElem?_map, Int.toNat_natCast, h]
        simp [lenZ]
      · rintro n it bx1 hi ⟨⟨tv, c4⟩, c3, c5, c6, hb⟩
        simp (disch := omega) only [go_sem, reduceIte, Nat.reduceEqDiff, Nat.reduceAdd, Nat.reduceLeDiff, Option.map_some, List.length_map, List.getElem?_map, Int.toNat_natCast] at c3 c4 c5 c6
        obtain ⟨x, hx, rfl⟩ := pieceItems_get hi
        have gx := good_at hg hx
        have hz := lenZ_take_bound hg n
        unfold Span.good at gx
        rw [backZ_at u hx] at hb
        refine ⟨rfl, ?_⟩
        simp (disch := omega) only [go_sem, reduceIte, Nat.reduceEqDiff, Nat.reduceAdd, Nat.reduceLeDiff, Option.map_some, List.length_map, List.getElem?_map, Int.toNat_natCast, c3, c4, c5, c6, Span.d]
        rw [wrap_i64 (n := x.f + u) (by omega) (by omega), wrap_i64 (by omega) (by omega)]
        refine condD_dec (fun h3 => ?_) (fun h3 => ?_)
        · simp (disch := omega) only [go_sem, reduceIte, Nat.reduceEqDiff, Nat.reduceAdd, Nat.reduceLeDiff, Option.map_some, List.length_map, List.getElem?_map, Int.toNat_natCast, c3, c4, c5, c6]
          refine ⟨by (intro s h1 h2; (try simp only [upd]); repeat rw [if_neg (by omega)]), fun bx2 hb2 => ?_⟩
          have e4 := cut_at (s := 4) hb2 (by omega)
          have e5 := cut_at (s := 5) hb2 (by omega)
          have e6 := cut_at (s := 6) hb2 (by omega)
          simp (disch := omega) only [go_sem, reduceIte, Nat.reduceEqDiff, Nat.reduceAdd, Nat.reduceLeDiff, Option.map_some, List.length_map, List.getElem?_map, Int.toNat_natCast, c3, c4, c5, c6] at e4 e5 e6
          simp (disch := omega) only [go_sem, reduceIte, Nat.reduceEqDiff, Nat.reduceAdd, Nat.reduceLeDiff, Option.map_some, List.length_map, List.getElem?_map, Int.toNat_natCast, e4, e5, e6]
          rw [if_pos (by omega)] at hb
          simp only [back, h, h2, backD, ← hb, ne_eq, not_true_eq_false, if_false]
          exact .refl _
        · simp (disch := omega) only [go_sem, reduceIte, Nat.reduceEqDiff, Nat.reduceAdd, Nat.reduceLeDiff, Option.map_some, List.length_map, List.getElem?_map, Int.toNat_natCast, c3, c4, c5, c6]
          refine ⟨by (intro s h1 h2; (try simp only [upd]); repeat rw [if_neg (by omega)]), ?_⟩
          rw [if_neg (by omega)] at hb
          simpa using hb
      · rintro bx1 ⟨⟨tv, c4⟩, c3, c5, c6, hb⟩
        simp (disch := omega) only [go_sem, reduceIte, Nat.reduceEqDiff, Nat.reduceAdd, Nat.reduceLeDiff, Option.map_some, List.length_map, List.getElem?_map, Int.toNat_natCast] at c3 c4 c5 c6
        simp (disch := omega) only [go_sem, reduceIte, Nat.reduceEqDiff, Nat.reduceAdd, Nat.reduceLeDiff, Option.map_some, List.length_map, List.getElem?_map, Int.toNat_natCast, c3, c4, c5, c6]
        rw [List.drop_eq_nil_of_le (by simp [pieceItems_len])] at hb
        simp only [back, h, h2, backD, ← hb, backZ, ne_eq, not_true_eq_false, if_false]
        exact .refl _
    · simp (disch := omega) only [go_sem, reduceIte, Nat.reduceEqDiff, Nat.reduceAdd, Nat.reduceLeDiff, Option.map_some, List.length_map, List.getElem?_map, Int.toNat_natCast, h2]
      simp only [back, h, h2, backD, ne_eq, not_true_eq_false, if_false, if_true]
      exact .refl _
  · simp (disch := omega) only [go_sem, reduceIte, Nat.reduceEqDiff, Nat.reduceAdd, Nat.reduceLeDiff, Option.map_some, List.length_map, List.getElem?_map, Int.toNat_natCast, h]
    simp only [back, h, backD, ne_eq, not_false_eq_true, if_true]
    exact .refl _
theorem back_c (l : List Span) (u : Int) (hl : l.length ≤ 140737488351232) : CallsTo Try.prog 11 [spans l, .int .i64 u] (backD (back l u)) := fn_calls mixed (back_d l u hl) rfl (by kernel_rfl) rfl
end Go.V.Cu
