/-
  Cuts: Back, To and Then of the specification, on data.
-/
import Derived.Test.YtfhbndbngdglfaaCc
namespace Go.V.Cu
open Go.Proofs Go.RowKit
set_option linter.unusedSimpArgs false
set_option linter.unusedVariables false

theorem rback_d (l : List Span) (u : Int) (hl : l.length ≤ 140737488351232) : fnD Try.prog (orac Try.prog) [] Try.f12 [spans l, .int .i64 u] (backD (back l u)) := by
  refine fn_intro _ [.tmp 4, .tmp 5, .tmp 6] _ rfl rfl rfl (by kernel_rfl) ?_
  simp (disch := omega) only [go_sem, reduceIte, Nat.reduceEqDiff, Nat.reduceAdd, Nat.reduceLeDiff, Nat.reduceLT, Nat.reduceSub, Int.reduceLT, Int.reduceLE, Int.reduceEq, Int.reduceToNat, Option.map_some, List.length_map, List.getElem?_map, Int.toNat_natCast]
  refine call_pure (rcheck_c l hl) (by simp [go_sem, spans]) ?_
  simp (disch := omega) only [go_sem, reduceIte, Nat.reduceEqDiff, Nat.reduceAdd, Nat.reduceLeDiff, Nat.reduceLT, Nat.reduceSub, Int.reduceLT, Int.reduceLE, Int.reduceEq, Int.reduceToNat, Option.map_some, List.length_map, List.getElem?_map, Int.toNat_natCast]
  refine condD_dec (fun h => ?_) (fun h => ?_)
  case refine_2 =>
    simp (disch := omega) only [go_sem, reduceIte, Nat.reduceEqDiff, Nat.reduceAdd, Nat.reduceLeDiff, Nat.reduceLT, Nat.reduceSub, Int.reduceLT, Int.reduceLE, Int.reduceEq, Int.reduceToNat, Option.map_some, List.length_map, List.getElem?_map, Int.toNat_natCast, h]
    simp only [back, h, backD, ne_eq, not_false_eq_true, if_true]
    exact .refl _
  simp (disch := omega) only [go_sem, reduceIte, Nat.reduceEqDiff, Nat.reduceAdd, Nat.reduceLeDiff, Nat.reduceLT, Nat.reduceSub, Int.reduceLT, Int.reduceLE, Int.reduceEq, Int.reduceToNat, Option.map_some, List.length_map, List.getElem?_map, Int.toNat_natCast]
  have hg := good_of_check h
  refine call_pure (rtime_c u) (by simp [go_sem]) ?_
  simp (disch := omega) only [go_sem, reduceIte, Nat.reduceEqDiff, Nat.reduceAdd, Nat.reduceLeDiff, Nat.reduceLT, Nat.reduceSub, Int.reduceLT, Int.reduceLE, Int.reduceEq, Int.reduceToNat, Option.map_some, List.length_map, List.getElem?_map, Int.toNat_natCast]
  refine condD_split (fun h2 => ?_) (fun h2 => ?_)
  case refine_2 =>
    simp (disch := omega) only [go_sem, reduceIte, Nat.reduceEqDiff, Nat.reduceAdd, Nat.reduceLeDiff, Nat.reduceLT, Nat.reduceSub, Int.reduceLT, Int.reduceLE, Int.reduceEq, Int.reduceToNat, Option.map_some, List.length_map, List.getElem?_map, Int.toNat_natCast]
    simp only [back, h, h2, backD, ne_eq, not_true_eq_false, if_false, if_true]
    exact .refl _
  have hu : 0 ≤ u ∧ u < 1099511627776 := by simpa [isTime] using h2
  simp (disch := omega) only [go_sem, reduceIte, Nat.reduceEqDiff, Nat.reduceAdd, Nat.reduceLeDiff, Nat.reduceLT, Nat.reduceSub, Int.reduceLT, Int.reduceLE, Int.reduceEq, Int.reduceToNat, Option.map_some, List.length_map, List.getElem?_map, Int.toNat_natCast]
  refine cD_for l.length (fun k σ _ => σ 0 = spans l ∧ σ 1 = .int .i64 u ∧ σ 8 = .int .i64 k ∧ backZ u (lenZ (l.take k)) (l.drop k) = backZ u 0 l)
    ⟨by simp [go_sem], by simp [go_sem], by simp [go_sem], by simp [lenZ]⟩ ?_ ?_
  · rintro k σ bx hk ⟨h0, h1, h8, hb⟩
    obtain ⟨x, hx⟩ := get_lt hk
    have gx := good_at hg hx
    have hz := lenZ_take_bound hg k
    unfold Span.good at gx
    rw [backZ_at u hx] at hb
    simp (disch := omega) only [go_sem, reduceIte, Nat.reduceEqDiff, Nat.reduceAdd, Nat.reduceLeDiff, Nat.reduceLT, Nat.reduceSub, Int.reduceLT, Int.reduceLE, Int.reduceEq, Int.reduceToNat, Option.map_some, List.length_map, List.getElem?_map, Int.toNat_natCast, h0, h1, h8, spans]
    refine condD_yes (by omega) ?_
    simp (disch := omega) only [go_sem, reduceIte, Nat.reduceEqDiff, Nat.reduceAdd, Nat.reduceLeDiff, Nat.reduceLT, Nat.reduceSub, Int.reduceLT, Int.reduceLE, Int.reduceEq, Int.reduceToNat, Option.map_some, List.length_map, List.getElem?_map, Int.toNat_natCast, h0, h1, h8, spans]
    rw [← List.map_take]
    refine call_pure (length_take hg k) (by simp [go_sem]) ?_
    simp (disch := omega) only [go_sem, reduceIte, Nat.reduceEqDiff, Nat.reduceAdd, Nat.reduceLeDiff, Nat.reduceLT, Nat.reduceSub, Int.reduceLT, Int.reduceLE, Int.reduceEq, Int.reduceToNat, Option.map_some, List.length_map, List.getElem?_map, Int.toNat_natCast, h0, h1, h8, spans, hx, Span.d]
    rw [wrap_i64 (n := _ + x.u) (by omega) (by omega), wrap_i64 (by omega) (by omega)]
    refine condD_dec (fun h3 => ?_) (fun h3 => ?_)
    · simp (disch := omega) only [go_sem, reduceIte, Nat.reduceEqDiff, Nat.reduceAdd, Nat.reduceLeDiff, Nat.reduceLT, Nat.reduceSub, Int.reduceLT, Int.reduceLE, Int.reduceEq, Int.reduceToNat, Option.map_some, List.length_map, List.getElem?_map, Int.toNat_natCast, h0, h1, h8, spans, hx, Span.d]
      rw [wrap_i64 (n := x.f + u) (by omega) (by omega), wrap_i64 (by omega) (by omega)]
      rw [if_pos (by omega)] at hb
      simp only [back, h, h2, backD, ← hb, ne_eq, not_true_eq_false, if_false]
      exact .refl _
    · simp (disch := omega) only [go_sem, reduceIte, Nat.reduceEqDiff, Nat.reduceAdd, Nat.reduceLeDiff, Nat.reduceLT, Nat.reduceSub, Int.reduceLT, Int.reduceLE, Int.reduceEq, Int.reduceToNat, Option.map_some, List.length_map, List.getElem?_map, Int.toNat_natCast, h0, h1, h8, spans, hx, Span.d]
      rw [wrap_succ (by omega)]
      rw [if_neg (by omega)] at hb
      and_intros <;> try trivial
  · rintro σ bx ⟨h0, h1, h8, hb⟩
    simp (disch := omega) only [go_sem, reduceIte, Nat.reduceEqDiff, Nat.reduceAdd, Nat.reduceLeDiff, Nat.reduceLT, Nat.reduceSub, Int.reduceLT, Int.reduceLE, Int.reduceEq, Int.reduceToNat, Option.map_some, List.length_map, List.getElem?_map, Int.toNat_natCast, h0, h1, h8, spans]
    refine condD_no (by omega) ?_
    simp (disch := omega) only [go_sem, reduceIte, Nat.reduceEqDiff, Nat.reduceAdd, Nat.reduceLeDiff, Nat.reduceLT, Nat.reduceSub, Int.reduceLT, Int.reduceLE, Int.reduceEq, Int.reduceToNat, Option.map_some, List.length_map, List.getElem?_map, Int.toNat_natCast]
    rw [List.drop_eq_nil_of_le (Nat.le_refl _)] at hb
    simp only [back, h, h2, backD, ← hb, backZ, ne_eq, not_true_eq_false, if_false]
    exact .refl _
theorem rback_c (l : List Span) (u : Int) (hl : l.length ≤ 140737488351232) : CallsTo Try.prog 12 [spans l, .int .i64 u] (backD (back l u)) := fn_calls mixed (rback_d l u hl) rfl (by kernel_rfl) rfl

theorem toZ_len (t b : Int) (l : List Span) : (toZ t b l).length ≤ l.length := by
  induction l generalizing b with
  | nil => simp [toZ]
  | cons x l ih =>
    have := ih (b + (x.u - x.f))
    simp only [toZ, List.length_append, List.length_cons]
    split <;> simp <;> omega
theorem pureL_ints (l : List Int) : D.pureL (l.map (D.int .i64)) = true := pureL_map _ _ fun _ => by simp [D.pure]
theorem pureL_spans (l : List Span) : D.pureL (l.map Span.d) = true := pureL_map _ _ fun _ => by simp [D.pure, D.pureL, Span.d]

theorem rto_d (l : List Span) (t : Int) (hl : l.length ≤ 140737488351232) : fnD Try.prog (orac Try.prog) [(10, [(9, 2)])] Try.f14 [spans l, .int .i64 t] (toD (to l t)) := by
  refine fn_intro _ [.tmp 4, .tmp 5] _ rfl rfl rfl (by kernel_rfl) ?_
  simp (disch := omega) only [go_sem, reduceIte, Nat.reduceEqDiff, Nat.reduceAdd, Nat.reduceLeDiff, Nat.reduceLT, Nat.reduceSub, Int.reduceLT, Int.reduceLE, Int.reduceEq, Int.reduceToNat, Option.map_some, List.length_map, List.getElem?_map, Int.toNat_natCast]
  refine call_pure (rcheck_c l hl) (by simp [go_sem, spans]) ?_
  simp (disch := omega) only [go_sem, reduceIte, Nat.reduceEqDiff, Nat.reduceAdd, Nat.reduceLeDiff, Nat.reduceLT, Nat.reduceSub, Int.reduceLT, Int.reduceLE, Int.reduceEq, Int.reduceToNat, Option.map_some, List.length_map, List.getElem?_map, Int.toNat_natCast]
  refine condD_dec (fun h => ?_) (fun h => ?_)
  case refine_2 =>
    simp (disch := omega) only [go_sem, reduceIte, Nat.reduceEqDiff, Nat.reduceAdd, Nat.reduceLeDiff, Nat.reduceLT, Nat.reduceSub, Int.reduceLT, Int.reduceLE, Int.reduceEq, Int.reduceToNat, Option.map_some, List.length_map, List.getElem?_map, Int.toNat_natCast, h]
    simp only [to, h, toD, ne_eq, not_false_eq_true, if_true]
    exact weak_tup2 (.nil _) (.refl _)
  simp (disch := omega) only [go_sem, reduceIte, Nat.reduceEqDiff, Nat.reduceAdd, Nat.reduceLeDiff, Nat.reduceLT, Nat.reduceSub, Int.reduceLT, Int.reduceLE, Int.reduceEq, Int.reduceToNat, Option.map_some, List.length_map, List.getElem?_map, Int.toNat_natCast]
  have hg := good_of_check h
  refine call_pure (rtime_c t) (by simp [go_sem]) ?_
  simp (disch := omega) only [go_sem, reduceIte, Nat.reduceEqDiff, Nat.reduceAdd, Nat.reduceLeDiff, Nat.reduceLT, Nat.reduceSub, Int.reduceLT, Int.reduceLE, Int.reduceEq, Int.reduceToNat, Option.map_some, List.length_map, List.getElem?_map, Int.toNat_natCast]
  refine condD_split (fun h2 => ?_) (fun h2 => ?_)
  case refine_2 =>
    simp (disch := omega) only [go_sem, reduceIte, Nat.reduceEqDiff, Nat.reduceAdd, Nat.reduceLeDiff, Nat.reduceLT, Nat.reduceSub, Int.reduceLT, Int.reduceLE, Int.reduceEq, Int.reduceToNat, Option.map_some, List.length_map, List.getElem?_map, Int.toNat_natCast]
    simp only [to, h, h2, toD, ne_eq, not_true_eq_false, if_false, if_true]
    exact weak_tup2 (.nil _) (.refl _)
  have hu : 0 ≤ t ∧ t < 1099511627776 := by simpa [isTime] using h2
  simp (disch := omega) only [go_sem, reduceIte, Nat.reduceEqDiff, Nat.reduceAdd, Nat.reduceLeDiff, Nat.reduceLT, Nat.reduceSub, Int.reduceLT, Int.reduceLE, Int.reduceEq, Int.reduceToNat, Option.map_some, List.length_map, List.getElem?_map, Int.toNat_natCast]
  refine cD_for l.length (fun k σ bx => σ 0 = spans l ∧ σ 1 = .int .i64 t ∧ σ 8 = .int .i64 k ∧ ∃ acc : List Int, acc.length ≤ k ∧ OwnV bx [59] 3 1 (σ 7) (acc.map (D.int .i64)) ∧ acc ++ toZ t (lenZ (l.take k)) (l.drop k) = toZ t 0 l)
    ⟨by simp [go_sem], by simp [go_sem], by simp [go_sem], [], by simp, by simp (disch := omega) only [go_sem, reduceIte, Nat.reduceEqDiff, Nat.reduceAdd, Nat.reduceLeDiff, Nat.reduceLT, Nat.reduceSub, Int.reduceLT, Int.reduceLE, Int.reduceEq, Int.reduceToNat, Option.map_some, List.length_map, List.getElem?_map, Int.toNat_natCast]; exact OwnV.nil _ _ _ _, by simp [lenZ]⟩ ?_ ?_
  · rintro k σ bx hk ⟨h0, h1, h8, acc, hacc, h7, hb⟩
    obtain ⟨x, hx⟩ := get_lt hk
    have gx := good_at hg hx
    have hz := lenZ_take_bound hg k
    have hl := hg.1
    unfold Span.good at gx
    rw [toZ_at t hx] at hb
    simp (disch := omega) only [go_sem, reduceIte, Nat.reduceEqDiff, Nat.reduceAdd, Nat.reduceLeDiff, Nat.reduceLT, Nat.reduceSub, Int.reduceLT, Int.reduceLE, Int.reduceEq, Int.reduceToNat, Option.map_some, List.length_map, List.getElem?_map, Int.toNat_natCast, h0, h1, h8, spans]
    refine condD_yes (by omega) ?_
    simp (disch := omega) only [go_sem, reduceIte, Nat.reduceEqDiff, Nat.reduceAdd, Nat.reduceLeDiff, Nat.reduceLT, Nat.reduceSub, Int.reduceLT, Int.reduceLE, Int.reduceEq, Int.reduceToNat, Option.map_some, List.length_map, List.getElem?_map, Int.toNat_natCast, h0, h1, h8, spans]
    rw [← List.map_take]
    refine call_pure (length_take hg k) (by simp [go_sem]) ?_
    simp (disch := omega) only [go_sem, reduceIte, Nat.reduceEqDiff, Nat.reduceAdd, Nat.reduceLeDiff, Nat.reduceLT, Nat.reduceSub, Int.reduceLT, Int.reduceLE, Int.reduceEq, Int.reduceToNat, Option.map_some, List.length_map, List.getElem?_map, Int.toNat_natCast, h0, h1, h8, spans, hx, Span.d]
    rw [wrap_i64 (n := _ + t) (by omega) (by omega), wrap_i64 (by omega) (by omega)]
    have no : ¬ (x.f ≤ t ∧ t < x.u ∧ isTime (lenZ (l.take k) + t - x.f) = true) → acc ++ toZ t (lenZ (l.take (k + 1))) (l.drop (k + 1)) = toZ t 0 l := by
      intro hn; rw [if_neg hn] at hb; exact hb
    refine condD_dec (fun h3 => ?_) (fun h3 => ?_)
    · simp (disch := omega) only [go_sem, reduceIte, Nat.reduceEqDiff, Nat.reduceAdd, Nat.reduceLeDiff, Nat.reduceLT, Nat.reduceSub, Int.reduceLT, Int.reduceLE, Int.reduceEq, Int.reduceToNat, Option.map_some, List.length_map, List.getElem?_map, Int.toNat_natCast, h3, h0, h1, h8, spans, hx, Span.d]
      refine condD_dec (fun h4 => ?_) (fun h4 => ?_)
      · simp (disch := omega) only [go_sem, reduceIte, Nat.reduceEqDiff, Nat.reduceAdd, Nat.reduceLeDiff, Nat.reduceLT, Nat.reduceSub, Int.reduceLT, Int.reduceLE, Int.reduceEq, Int.reduceToNat, Option.map_some, List.length_map, List.getElem?_map, Int.toNat_natCast, h3, h4, h0, h1, h8, spans, hx, Span.d]
        refine call_pure (rtime_c _) (by simp [go_sem]) ?_
        simp (disch := omega) only [go_sem, reduceIte, Nat.reduceEqDiff, Nat.reduceAdd, Nat.reduceLeDiff, Nat.reduceLT, Nat.reduceSub, Int.reduceLT, Int.reduceLE, Int.reduceEq, Int.reduceToNat, Option.map_some, List.length_map, List.getElem?_map, Int.toNat_natCast, h3, h4, h0, h1, h8, spans, hx, Span.d]
        refine condD_split (fun h5 => ?_) (fun h5 => ?_)
        · simp (disch := omega) only [go_sem, reduceIte, Nat.reduceEqDiff, Nat.reduceAdd, Nat.reduceLeDiff, Nat.reduceLT, Nat.reduceSub, Int.reduceLT, Int.reduceLE, Int.reduceEq, Int.reduceToNat, Option.map_some, List.length_map, List.getElem?_map, Int.toNat_natCast, h0, h1, h8]
          refine append_own h7 (by simp) (by simp [go_sem]) (by simp; omega) (by omega) (by omega) (by omega) (fun e' bx' hb1 hb2 => ?_)
          simp (disch := omega) only [go_sem, reduceIte, Nat.reduceEqDiff, Nat.reduceAdd, Nat.reduceLeDiff, Nat.reduceLT, Nat.reduceSub, Int.reduceLT, Int.reduceLE, Int.reduceEq, Int.reduceToNat, Option.map_some, List.length_map, List.getElem?_map, Int.toNat_natCast, h0, h1, h8]
          rw [wrap_succ (by omega)]
          and_intros <;> try trivial
          refine ⟨acc ++ [lenZ (l.take k) + t - x.f], by simp; omega, ?_, ?_⟩
          · rw [List.map_append]
            exact OwnV.mk (by simp) hb1
          · rw [if_pos ⟨by omega, by omega, h5⟩] at hb
            simpa using hb
        · simp (disch := omega) only [go_sem, reduceIte, Nat.reduceEqDiff, Nat.reduceAdd, Nat.reduceLeDiff, Nat.reduceLT, Nat.reduceSub, Int.reduceLT, Int.reduceLE, Int.reduceEq, Int.reduceToNat, Option.map_some, List.length_map, List.getElem?_map, Int.toNat_natCast, h0, h1, h8]
          rw [wrap_succ (by omega)]
          and_intros <;> try trivial
          exact ⟨acc, by omega, h7, no (by simp [h5])⟩
      · simp (disch := omega) only [go_sem, reduceIte, Nat.reduceEqDiff, Nat.reduceAdd, Nat.reduceLeDiff, Nat.reduceLT, Nat.reduceSub, Int.reduceLT, Int.reduceLE, Int.reduceEq, Int.reduceToNat, Option.map_some, List.length_map, List.getElem?_map, Int.toNat_natCast, h3, h4, h0, h1, h8]
        rw [wrap_succ (by omega)]
        and_intros <;> try trivial
        exact ⟨acc, by omega, h7, no (by omega)⟩
    · simp (disch := omega) only [go_sem, reduceIte, Nat.reduceEqDiff, Nat.reduceAdd, Nat.reduceLeDiff, Nat.reduceLT, Nat.reduceSub, Int.reduceLT, Int.reduceLE, Int.reduceEq, Int.reduceToNat, Option.map_some, List.length_map, List.getElem?_map, Int.toNat_natCast, h3, h0, h1, h8]
      rw [wrap_succ (by omega)]
      and_intros <;> try trivial
      exact ⟨acc, by omega, h7, no (by omega)⟩
  · rintro σ bx ⟨h0, h1, h8, acc, hacc, h7, hb⟩
    simp (disch := omega) only [go_sem, reduceIte, Nat.reduceEqDiff, Nat.reduceAdd, Nat.reduceLeDiff, Nat.reduceLT, Nat.reduceSub, Int.reduceLT, Int.reduceLE, Int.reduceEq, Int.reduceToNat, Option.map_some, List.length_map, List.getElem?_map, Int.toNat_natCast, h0, h1, h8, spans]
    refine condD_no (by omega) ?_
    rw [List.drop_eq_nil_of_le (Nat.le_refl _), toZ, List.append_nil] at hb
    obtain ⟨r, hr, hw⟩ := h7.out (pureL_ints _)
    simp (disch := omega) only [go_sem, reduceIte, Nat.reduceEqDiff, Nat.reduceAdd, Nat.reduceLeDiff, Nat.reduceLT, Nat.reduceSub, Int.reduceLT, Int.reduceLE, Int.reduceEq, Int.reduceToNat, Option.map_some, List.length_map, List.getElem?_map, Int.toNat_natCast, hr]
    simp only [to, h, h2, toD, ← hb, ne_eq, not_true_eq_false, if_false]
    exact weak_tup2 hw (.refl _)
theorem rto_c (l : List Span) (t : Int) (hl : l.length ≤ 140737488351232) : CallsTo Try.prog 14 [spans l, .int .i64 t] (toD (to l t)) := fn_calls mixed (rto_d l t hl) rfl (by kernel_rfl) rfl

theorem shown_d (a : List Span) (x : Span) (hg : Good a) (hx : x.good) : fnD Try.prog (orac Try.prog) [] Try.f28 [spans a, x.d] (spans (shownZ x 0 a)) := by
  refine fn_intro _ [.tmp 4] _ rfl rfl rfl (by kernel_rfl) ?_
  simp (disch := omega) only [go_sem, reduceIte, Nat.reduceEqDiff, Nat.reduceAdd, Nat.reduceLeDiff, Nat.reduceLT, Nat.reduceSub, Int.reduceLT, Int.reduceLE, Int.reduceEq, Int.reduceToNat, Option.map_some, List.length_map, List.getElem?_map, Int.toNat_natCast, Span.d]
  unfold Span.good at hx
  refine cD_for a.length (fun k σ bx => σ 0 = spans a ∧ σ 3 = .loc 3 1 0 0 ∧ bx 3 = ⟨1, 1, 2, 41, [x.d]⟩ ∧ σ 6 = .int .i64 k ∧ ∃ acc : List Span, acc.length ≤ k ∧ OwnV bx [64] 41 2 (σ 5) (acc.map Span.d) ∧ acc ++ shownZ x (lenZ (a.take k)) (a.drop k) = shownZ x 0 a)
    ⟨by simp [go_sem], by simp [go_sem], by simp [go_sem, Span.d], by simp [go_sem], [], by simp, by simp (disch := omega) only [go_sem, reduceIte, Nat.reduceEqDiff, Nat.reduceAdd, Nat.reduceLeDiff, Nat.reduceLT, Nat.reduceSub, Int.reduceLT, Int.reduceLE, Int.reduceEq, Int.reduceToNat, Option.map_some, List.length_map, List.getElem?_map, Int.toNat_natCast]; exact OwnV.nil _ _ _ _, by simp [lenZ]⟩ ?_ ?_
  · rintro k σ bx hk ⟨h0, h3, b3, h6, acc, hacc, h5, hb⟩
    obtain ⟨y, hy⟩ := get_lt hk
    have gy := good_at hg hy
    have hz := lenZ_take_bound hg k
    have hl := hg.1
    unfold Span.good at gy
    rw [shownZ_at x hy] at hb
    simp (disch := omega) only [go_sem, reduceIte, Nat.reduceEqDiff, Nat.reduceAdd, Nat.reduceLeDiff, Nat.reduceLT, Nat.reduceSub, Int.reduceLT, Int.reduceLE, Int.reduceEq, Int.reduceToNat, Option.map_some, List.length_map, List.getElem?_map, Int.toNat_natCast, h0, h3, b3, h6, spans]
    refine condD_yes (by omega) ?_
    simp (disch := omega) only [go_sem, reduceIte, Nat.reduceEqDiff, Nat.reduceAdd, Nat.reduceLeDiff, Nat.reduceLT, Nat.reduceSub, Int.reduceLT, Int.reduceLE, Int.reduceEq, Int.reduceToNat, Option.map_some, List.length_map, List.getElem?_map, Int.toNat_natCast, h0, h3, h6, spans]
    rw [← List.map_take]
    refine call_pure (length_take hg k) (by simp [go_sem]) ?_
    simp (disch := omega) only [go_sem, reduceIte, Nat.reduceEqDiff, Nat.reduceAdd, Nat.reduceLeDiff, Nat.reduceLT, Nat.reduceSub, Int.reduceLT, Int.reduceLE, Int.reduceEq, Int.reduceToNat, Option.map_some, List.length_map, List.getElem?_map, Int.toNat_natCast, h0, h3, b3, h6, spans, hy, Span.d]
    rw [wrap_i64 (n := _ + y.u) (by omega) (by omega), wrap_i64 (n := _ - y.f) (by omega) (by omega)]
    refine condD_dec (fun h7 => ?_) (fun h7 => ?_)
    · simp (disch := omega) only [go_sem, reduceIte, Nat.reduceEqDiff, Nat.reduceAdd, Nat.reduceLeDiff, Nat.reduceLT, Nat.reduceSub, Int.reduceLT, Int.reduceLE, Int.reduceEq, Int.reduceToNat, Option.map_some, List.length_map, List.getElem?_map, Int.toNat_natCast, h0, h3, b3, h6, spans, hy, Span.d]
      rw [wrap_i64 (n := y.f + max _ _) (by omega) (by omega), wrap_i64 (n := y.f + min _ _) (by omega) (by omega), wrap_i64 (n := y.f + max _ _ - _) (by omega) (by omega), wrap_i64 (n := y.f + min _ _ - _) (by omega) (by omega)]
      refine append_all h5 (by simp [go_sem]) (by simp; omega) (by omega) (by omega) (by omega) (fun x' bx' hb1 hb2 => ?_)
      simp (disch := omega) only [go_sem, reduceIte, Nat.reduceEqDiff, Nat.reduceAdd, Nat.reduceLeDiff, Nat.reduceLT, Nat.reduceSub, Int.reduceLT, Int.reduceLE, Int.reduceEq, Int.reduceToNat, Option.map_some, List.length_map, List.getElem?_map, Int.toNat_natCast, h0, h3, h6, hb2, b3]
      rw [wrap_succ (by omega)]
      and_intros <;> try trivial
      refine ⟨acc ++ [clipZ x (lenZ (a.take k)) y], by simp; omega, ?_, ?_⟩
      · have e : (clipZ x (lenZ (a.take k)) y).d = D.agg [.int .i64 (y.f + max x.f (lenZ (a.take k)) - lenZ (a.take k)), .int .i64 (y.f + min x.u (lenZ (a.take k) + y.u - y.f) - lenZ (a.take k))] := by
          have e1 : y.f + max 0 (x.f - lenZ (a.take k)) = y.f + max x.f (lenZ (a.take k)) - lenZ (a.take k) := by omega
          have e2 : min y.u (y.f + x.u - lenZ (a.take k)) = y.f + min x.u (lenZ (a.take k) + y.u - y.f) - lenZ (a.take k) := by omega
          simp only [clipZ, Span.d, e1, e2]
        rw [List.map_append, List.map_cons, List.map_nil, e]
        exact hb1
      · rw [if_pos (by simp only [clipZ]; omega)] at hb
        simpa using hb
    · simp (disch := omega) only [go_sem, reduceIte, Nat.reduceEqDiff, Nat.reduceAdd, Nat.reduceLeDiff, Nat.reduceLT, Nat.reduceSub, Int.reduceLT, Int.reduceLE, Int.reduceEq, Int.reduceToNat, Option.map_some, List.length_map, List.getElem?_map, Int.toNat_natCast, h0, h3, b3, h6]
      rw [wrap_succ (by omega)]
      rw [if_neg (by simp only [clipZ]; omega)] at hb
      and_intros <;> try trivial
      exact ⟨acc, by omega, h5, hb⟩
  · rintro σ bx ⟨h0, h3, b3, h6, acc, hacc, h5, hb⟩
    simp (disch := omega) only [go_sem, reduceIte, Nat.reduceEqDiff, Nat.reduceAdd, Nat.reduceLeDiff, Nat.reduceLT, Nat.reduceSub, Int.reduceLT, Int.reduceLE, Int.reduceEq, Int.reduceToNat, Option.map_some, List.length_map, List.getElem?_map, Int.toNat_natCast, h0, h6, spans]
    refine condD_no (by omega) ?_
    rw [List.drop_eq_nil_of_le (Nat.le_refl _), shownZ, List.append_nil] at hb
    obtain ⟨r, hr, hw⟩ := h5.out (pureL_spans _)
    simp (disch := omega) only [go_sem, reduceIte, Nat.reduceEqDiff, Nat.reduceAdd, Nat.reduceLeDiff, Nat.reduceLT, Nat.reduceSub, Int.reduceLT, Int.reduceLE, Int.reduceEq, Int.reduceToNat, Option.map_some, List.length_map, List.getElem?_map, Int.toNat_natCast, hr]
    rw [← hb]
    exact hw
theorem shown_c (a : List Span) (x : Span) (hg : Good a) (hx : x.good) : CallsTo Try.prog 28 [spans a, x.d] (spans (shownZ x 0 a)) := fn_calls mixed (shown_d a x hg hx) rfl (by kernel_rfl) rfl

theorem joinZ_take {l : List Span} {k : Nat} {x : Span} (hx : l[k]? = some x) : joinZ (l.take (k + 1)) = addZ (joinZ (l.take k)) x := by
  unfold joinZ
  rw [List.take_add_one, hx, List.foldl_append]
  rfl
theorem addZ_last (l : List Span) (x : Span) : ∃ p y, addZ l x = p ++ [y] ∧ y.u = x.u := by
  unfold addZ
  cases h : l.getLast? with
  | none => exact ⟨[], x, rfl, rfl⟩
  | some y =>
    simp only
    split
    · exact ⟨_, _, rfl, rfl⟩
    · exact ⟨_, _, rfl, rfl⟩
theorem joinZ_last {l : List Span} {k : Nat} {x : Span} (hx : l[k]? = some x) : ∃ p y, joinZ (l.take (k + 1)) = p ++ [y] ∧ y.u = x.u := by
  rw [joinZ_take hx]; exact addZ_last _ _
theorem joinZ_len (l : List Span) : (joinZ l).length ≤ l.length := by
  suffices h : ∀ (l acc : List Span), (l.foldl addZ acc).length ≤ acc.length + l.length by simpa [joinZ] using h l []
  intro l
  induction l with
  | nil => simp
  | cons x l ih =>
    intro acc
    have h1 := ih (addZ acc x)
    have h2 := (addZ_len acc x).2
    simp only [List.foldl_cons, List.length_cons]
    omega
theorem addZ_snoc (p : List Span) (y x : Span) : addZ (p ++ [y]) x = if y.u = x.f then p ++ [⟨y.f, x.u⟩] else p ++ [y] ++ [x] := by
  simp [addZ]

theorem joined_d (l : List Span) (hl : l.length ≤ 65536) : fnD Try.prog (orac Try.prog) [] Try.f29 [spans l] (spans (joinZ l)) := by
  refine fn_intro _ [.tmp 2] _ rfl rfl rfl (by kernel_rfl) ?_
  simp (disch := omega) only [go_sem, reduceIte, Nat.reduceEqDiff, Nat.reduceAdd, Nat.reduceLeDiff, Nat.reduceLT, Nat.reduceSub, Int.reduceLT, Int.reduceLE, Int.reduceEq, Int.reduceToNat, Option.map_some, List.length_map, List.getElem?_map, Int.toNat_natCast]
  refine cD_for l.length (fun k σ bx => σ 0 = spans l ∧ σ 4 = .int .i64 k ∧ OwnV bx [44] 41 2 (σ 3) ((joinZ (l.take k)).map Span.d))
    ⟨by simp [go_sem], by simp [go_sem], by simp (disch := omega) only [go_sem, reduceIte, Nat.reduceEqDiff, Nat.reduceAdd, Nat.reduceLeDiff, Nat.reduceLT, Nat.reduceSub, Int.reduceLT, Int.reduceLE, Int.reduceEq, Int.reduceToNat, Option.map_some, List.length_map, List.getElem?_map, Int.toNat_natCast]; exact OwnV.nil _ _ _ _⟩ ?_ ?_
  · rintro k σ bx hk ⟨h0, h4, h3⟩
    obtain ⟨x, hx⟩ := get_lt hk
    have hj := joinZ_len (l.take k)
    have hj2 := List.length_take_le' k l
    simp (disch := omega) only [go_sem, reduceIte, Nat.reduceEqDiff, Nat.reduceAdd, Nat.reduceLeDiff, Nat.reduceLT, Nat.reduceSub, Int.reduceLT, Int.reduceLE, Int.reduceEq, Int.reduceToNat, Option.map_some, List.length_map, List.getElem?_map, Int.toNat_natCast, h0, h4, spans]
    refine condD_yes (by omega) ?_
    match k, hk, h0, h4, h3, hx, hj, hj2 with
    | 0, hk, h0, h4, h3, hx, hj, hj2 =>
      simp (disch := omega) only [go_sem, reduceIte, Nat.reduceEqDiff, Nat.reduceAdd, Nat.reduceLeDiff, Nat.reduceLT, Nat.reduceSub, Int.reduceLT, Int.reduceLE, Int.reduceEq, Int.reduceToNat, Option.map_some, List.length_map, List.getElem?_map, Int.toNat_natCast, h0, h4, spans, hx, Span.d]
      refine append_all h3 (by simp [go_sem]) (by simp [joinZ]) (by omega) (by omega) (by omega) (fun x' bx' hb1 hb2 => ?_)
      simp (disch := omega) only [go_sem, reduceIte, Nat.reduceEqDiff, Nat.reduceAdd, Nat.reduceLeDiff, Nat.reduceLT, Nat.reduceSub, Int.reduceLT, Int.reduceLE, Int.reduceEq, Int.reduceToNat, Option.map_some, List.length_map, List.getElem?_map, Int.toNat_natCast, h0, h4]
      refine ⟨rfl, ?_⟩
      have e : joinZ (List.take 0 l) = [] := rfl
      rw [joinZ_take hx, e]
      rw [e] at hb1
      simpa [addZ, Span.d, wrap_i64] using hb1
    | k + 1, hk, h0, h4, h3, hx, hj, hj2 =>
      obtain ⟨x0, hx0⟩ := get_lt (l := l) (k := k) (by omega)
      obtain ⟨p, y, hp, hy⟩ := joinZ_last hx0
      have hw : IntKind.i64.wrap (((k + 1 : Nat) : Int) - 1) = (k : Int) := by rw [wrap_i64 (by omega) (by omega)]; omega
      have hn := joinZ_take hx
      rw [hp, addZ_snoc, hy] at hn
      rw [hp] at h3 hj
      simp at hj
      have hpos : (0 : Int) < ((k + 1 : Nat) : Int) := by omega
      simp (disch := omega) only [go_sem, reduceIte, Nat.reduceEqDiff, Nat.reduceAdd, Nat.reduceLeDiff, Nat.reduceLT, Nat.reduceSub, Int.reduceLT, Int.reduceLE, Int.reduceEq, Int.reduceToNat, Option.map_some, List.length_map, List.getElem?_map, Int.toNat_natCast, h0, h4, spans, hx, hx0, Span.d, hw, hpos]
      refine condD_dec (fun h5 => ?_) (fun h5 => ?_)
      · rw [if_pos h5] at hn
        rcases h3 with ⟨h3, hnil⟩ | ⟨t, e, ht, h3, b3⟩
        · simp at hnil
        simp only [List.mem_singleton] at ht
        subst ht
        have hl' : (List.map Span.d (p ++ [y])).length = p.length + 1 := by simp
        rw [hl'] at h3
        have hw2 : IntKind.i64.wrap (((p.length + 1 : Nat) : Int) - 1) = (p.length : Int) := by rw [wrap_i64 (by omega) (by omega)]; omega
        have hel : (p.map Span.d ++ [D.agg [.int .i64 y.f, .int .i64 y.u]])[p.length]? = some (.agg [.int .i64 y.f, .int .i64 y.u]) := by simp [Span.d]
        rw [List.map_append, List.map_cons, List.map_nil] at b3
        simp (disch := omega) only [go_sem, reduceIte, Nat.reduceEqDiff, Nat.reduceAdd, Nat.reduceLeDiff, Nat.reduceLT, Nat.reduceSub, Int.reduceLT, Int.reduceLE, Int.reduceEq, Int.reduceToNat, Option.map_some, List.length_map, List.getElem?_map, Int.toNat_natCast, h0, h4, h3, b3, spans, hx, hw2, hel, Span.d]
        rw [wrap_succ (by omega)]
        and_intros <;> try trivial
        rw [hn]
        refine .inr ⟨44, e, by simp, by simp, ?_⟩
        simp [Span.d, upd]
      · rw [if_neg h5] at hn
        simp (disch := omega) only [go_sem, reduceIte, Nat.reduceEqDiff, Nat.reduceAdd, Nat.reduceLeDiff, Nat.reduceLT, Nat.reduceSub, Int.reduceLT, Int.reduceLE, Int.reduceEq, Int.reduceToNat, Option.map_some, List.length_map, List.getElem?_map, Int.toNat_natCast, h0, h4, spans, hx, Span.d]
        refine append_all h3 (by simp [go_sem]) (by simp; omega) (by omega) (by omega) (by omega) (fun x' bx' hb1 hb2 => ?_)
        simp (disch := omega) only [go_sem, reduceIte, Nat.reduceEqDiff, Nat.reduceAdd, Nat.reduceLeDiff, Nat.reduceLT, Nat.reduceSub, Int.reduceLT, Int.reduceLE, Int.reduceEq, Int.reduceToNat, Option.map_some, List.length_map, List.getElem?_map, Int.toNat_natCast, h0, h4]
        rw [wrap_succ (by omega)]
        and_intros <;> try trivial
        rw [hn]
        simpa [Span.d] using hb1
  · rintro σ bx ⟨h0, h4, h3⟩
    simp (disch := omega) only [go_sem, reduceIte, Nat.reduceEqDiff, Nat.reduceAdd, Nat.reduceLeDiff, Nat.reduceLT, Nat.reduceSub, Int.reduceLT, Int.reduceLE, Int.reduceEq, Int.reduceToNat, Option.map_some, List.length_map, List.getElem?_map, Int.toNat_natCast, h0, h4, spans]
    refine condD_no (by omega) ?_
    obtain ⟨r, hr, hw⟩ := h3.out (pureL_spans _)
    simp (disch := omega) only [go_sem, reduceIte, Nat.reduceEqDiff, Nat.reduceAdd, Nat.reduceLeDiff, Nat.reduceLT, Nat.reduceSub, Int.reduceLT, Int.reduceLE, Int.reduceEq, Int.reduceToNat, Option.map_some, List.length_map, List.getElem?_map, Int.toNat_natCast, hr]
    rw [List.take_length] at hw
    exact hw
theorem joined_c (l : List Span) (hl : l.length ≤ 65536) : CallsTo Try.prog 29 [spans l] (spans (joinZ l)) := fn_calls mixed (joined_d l hl) rfl (by kernel_rfl) rfl

theorem flat_len (a b : List Span) : (b.flatMap fun x => shownZ x 0 a).length ≤ b.length * a.length := by
  induction b with
  | nil => simp
  | cons x b ih =>
    have := shownZ_len x 0 a
    simp only [List.flatMap_cons, List.length_append, List.length_cons, Nat.add_mul]
    omega
theorem rthen_d (a b : List Span) (ha : a.length ≤ 140737488351232) (hb : b.length ≤ 140737488351232) : fnD Try.prog (orac Try.prog) [] Try.f19 [spans a, spans b] (thenD (then_ a b)) := by
  refine fn_intro _ [.tmp 4, .tmp 5] _ rfl rfl rfl (by kernel_rfl) ?_
  simp (disch := omega) only [go_sem, reduceIte, Nat.reduceEqDiff, Nat.reduceAdd, Nat.reduceLeDiff, Nat.reduceLT, Nat.reduceSub, Int.reduceLT, Int.reduceLE, Int.reduceEq, Int.reduceToNat, Option.map_some, List.length_map, List.getElem?_map, Int.toNat_natCast]
  refine call_pure (rcheck_c a ha) (by simp [go_sem, spans]) ?_
  simp (disch := omega) only [go_sem, reduceIte, Nat.reduceEqDiff, Nat.reduceAdd, Nat.reduceLeDiff, Nat.reduceLT, Nat.reduceSub, Int.reduceLT, Int.reduceLE, Int.reduceEq, Int.reduceToNat, Option.map_some, List.length_map, List.getElem?_map, Int.toNat_natCast]
  refine condD_dec (fun h => ?_) (fun h => ?_)
  case refine_2 =>
    simp (disch := omega) only [go_sem, reduceIte, Nat.reduceEqDiff, Nat.reduceAdd, Nat.reduceLeDiff, Nat.reduceLT, Nat.reduceSub, Int.reduceLT, Int.reduceLE, Int.reduceEq, Int.reduceToNat, Option.map_some, List.length_map, List.getElem?_map, Int.toNat_natCast, h]
    simp only [then_, h, thenD, ne_eq, not_false_eq_true, if_true]
    exact weak_tup2 (.nil _) (.refl _)
  simp (disch := omega) only [go_sem, reduceIte, Nat.reduceEqDiff, Nat.reduceAdd, Nat.reduceLeDiff, Nat.reduceLT, Nat.reduceSub, Int.reduceLT, Int.reduceLE, Int.reduceEq, Int.reduceToNat, Option.map_some, List.length_map, List.getElem?_map, Int.toNat_natCast]
  refine call_pure (rcheck_c b hb) (by simp [go_sem, spans]) ?_
  simp (disch := omega) only [go_sem, reduceIte, Nat.reduceEqDiff, Nat.reduceAdd, Nat.reduceLeDiff, Nat.reduceLT, Nat.reduceSub, Int.reduceLT, Int.reduceLE, Int.reduceEq, Int.reduceToNat, Option.map_some, List.length_map, List.getElem?_map, Int.toNat_natCast]
  refine condD_dec (fun h2 => ?_) (fun h2 => ?_)
  case refine_2 =>
    simp (disch := omega) only [go_sem, reduceIte, Nat.reduceEqDiff, Nat.reduceAdd, Nat.reduceLeDiff, Nat.reduceLT, Nat.reduceSub, Int.reduceLT, Int.reduceLE, Int.reduceEq, Int.reduceToNat, Option.map_some, List.length_map, List.getElem?_map, Int.toNat_natCast, h2]
    simp only [then_, h, h2, thenD, ne_eq, not_true_eq_false, not_false_eq_true, if_false, if_true]
    exact weak_tup2 (.nil _) (.refl _)
  have ga := good_of_check h
  have gb := good_of_check h2
  have la := ga.1
  have lb := gb.1
  simp (disch := omega) only [go_sem, reduceIte, Nat.reduceEqDiff, Nat.reduceAdd, Nat.reduceLeDiff, Nat.reduceLT, Nat.reduceSub, Int.reduceLT, Int.reduceLE, Int.reduceEq, Int.reduceToNat, Option.map_some, List.length_map, List.getElem?_map, Int.toNat_natCast]
  refine cD_for b.length (fun k σ bx => σ 0 = spans a ∧ σ 1 = spans b ∧ σ 8 = .int .i64 k ∧ OwnV bx [32] 41 2 (σ 7) (((b.take k).flatMap fun x => shownZ x 0 a).map Span.d))
    ⟨by simp [go_sem], by simp [go_sem], by simp [go_sem], by simp (disch := omega) only [go_sem, reduceIte, Nat.reduceEqDiff, Nat.reduceAdd, Nat.reduceLeDiff, Nat.reduceLT, Nat.reduceSub, Int.reduceLT, Int.reduceLE, Int.reduceEq, Int.reduceToNat, Option.map_some, List.length_map, List.getElem?_map, Int.toNat_natCast]; exact OwnV.nil _ _ _ _⟩ ?_ ?_
  · rintro k σ bx hk ⟨h0, h1, h8, h7⟩
    obtain ⟨x, hx⟩ := get_lt hk
    simp (disch := omega) only [go_sem, reduceIte, Nat.reduceEqDiff, Nat.reduceAdd, Nat.reduceLeDiff, Nat.reduceLT, Nat.reduceSub, Int.reduceLT, Int.reduceLE, Int.reduceEq, Int.reduceToNat, Option.map_some, List.length_map, List.getElem?_map, Int.toNat_natCast, h0, h1, h8, spans]
    refine condD_yes (by omega) ?_
    simp (disch := omega) only [go_sem, reduceIte, Nat.reduceEqDiff, Nat.reduceAdd, Nat.reduceLeDiff, Nat.reduceLT, Nat.reduceSub, Int.reduceLT, Int.reduceLE, Int.reduceEq, Int.reduceToNat, Option.map_some, List.length_map, List.getElem?_map, Int.toNat_natCast, h0, h1, h8, spans, hx, Span.d]
    refine call_pure (shown_c a x ga (good_at gb hx)) (by simp [go_sem]) ?_
    simp (disch := omega) only [go_sem, reduceIte, Nat.reduceEqDiff, Nat.reduceAdd, Nat.reduceLeDiff, Nat.reduceLT, Nat.reduceSub, Int.reduceLT, Int.reduceLE, Int.reduceEq, Int.reduceToNat, Option.map_some, List.length_map, List.getElem?_map, Int.toNat_natCast, h0, h1, h8, spans]
    have h9 := flat_len a (b.take k)
    have h10 := shownZ_len x 0 a
    have h11 : (b.take k).length * a.length ≤ 256 * 256 := Nat.mul_le_mul (by have := List.length_take_le' k b; omega) la
    refine append_all h7 (by simp [go_sem]) (by rw [List.length_map, List.length_map]; omega) (by omega) (by omega) (by omega) (fun x' bx' hb1 hb2 => ?_)
    simp (disch := omega) only [go_sem, reduceIte, Nat.reduceEqDiff, Nat.reduceAdd, Nat.reduceLeDiff, Nat.reduceLT, Nat.reduceSub, Int.reduceLT, Int.reduceLE, Int.reduceEq, Int.reduceToNat, Option.map_some, List.length_map, List.getElem?_map, Int.toNat_natCast, h0, h1, h8]
    rw [wrap_succ (by omega)]
    and_intros <;> try trivial
    rw [List.take_add_one, hx, List.flatMap_append, List.map_append]
    simpa using hb1
  · rintro σ bx ⟨h0, h1, h8, h7⟩
    simp (disch := omega) only [go_sem, reduceIte, Nat.reduceEqDiff, Nat.reduceAdd, Nat.reduceLeDiff, Nat.reduceLT, Nat.reduceSub, Int.reduceLT, Int.reduceLE, Int.reduceEq, Int.reduceToNat, Option.map_some, List.length_map, List.getElem?_map, Int.toNat_natCast, h0, h1, h8, spans]
    refine condD_no (by omega) ?_
    rw [List.take_length] at h7
    have h9 := flat_len a b
    have h11 : b.length * a.length ≤ 256 * 256 := Nat.mul_le_mul lb la
    obtain ⟨r, hr, hw⟩ := h7.out (pureL_spans _)
    simp (disch := omega) only [go_sem, reduceIte, Nat.reduceEqDiff, Nat.reduceAdd, Nat.reduceLeDiff, Nat.reduceLT, Nat.reduceSub, Int.reduceLT, Int.reduceLE, Int.reduceEq, Int.reduceToNat, Option.map_some, List.length_map, List.getElem?_map, Int.toNat_natCast]
    refine call_frz (ds' := [r]) ((joined_c _ (by omega)).weak1 hw) (by simp (disch := omega) only [go_sem, reduceIte, Nat.reduceEqDiff, Nat.reduceAdd, Nat.reduceLeDiff, Nat.reduceLT, Nat.reduceSub, Int.reduceLT, Int.reduceLE, Int.reduceEq, Int.reduceToNat, Option.map_some, List.length_map, List.getElem?_map, Int.toNat_natCast, hr]) rfl ?_
    simp (disch := omega) only [go_sem, reduceIte, Nat.reduceEqDiff, Nat.reduceAdd, Nat.reduceLeDiff, Nat.reduceLT, Nat.reduceSub, Int.reduceLT, Int.reduceLE, Int.reduceEq, Int.reduceToNat, Option.map_some, List.length_map, List.getElem?_map, Int.toNat_natCast, spans]
    refine condD_dec (fun h3 => ?_) (fun h3 => ?_)
    · simp (disch := omega) only [go_sem, reduceIte, Nat.reduceEqDiff, Nat.reduceAdd, Nat.reduceLeDiff, Nat.reduceLT, Nat.reduceSub, Int.reduceLT, Int.reduceLE, Int.reduceEq, Int.reduceToNat, Option.map_some, List.length_map, List.getElem?_map, Int.toNat_natCast]
      have e : then_ a b = ([], 2) := by
        unfold then_
        rw [if_neg (by simp [h]), if_neg (by simp [h2]), if_pos (by unfold thenZ; omega)]
      rw [e]
      exact weak_tup2 (.nil _) (.refl _)
    · simp (disch := omega) only [go_sem, reduceIte, Nat.reduceEqDiff, Nat.reduceAdd, Nat.reduceLeDiff, Nat.reduceLT, Nat.reduceSub, Int.reduceLT, Int.reduceLE, Int.reduceEq, Int.reduceToNat, Option.map_some, List.length_map, List.getElem?_map, Int.toNat_natCast]
      have e : then_ a b = (thenZ a b, 0) := by
        unfold then_
        rw [if_neg (by simp [h]), if_neg (by simp [h2]), if_neg (by unfold thenZ; omega)]
      rw [e]
      exact weak_tup2 (.refl _) (.refl _)
theorem rthen_c (a b : List Span) (ha : a.length ≤ 140737488351232) (hb : b.length ≤ 140737488351232) : CallsTo Try.prog 19 [spans a, spans b] (thenD (then_ a b)) := fn_calls mixed (rthen_d a b ha hb) rfl (by kernel_rfl) rfl
end Go.V.Cu
