/-
  Cuts: the functions of the specification, on data.
-/
import Derived.Test.YtfhbndbngdglfaaCb
import Derived.Test.YtfhbndbngdglfaaVy
namespace Go.V.Cu
open Go.Proofs Go.RowKit
set_option linter.unusedSimpArgs false
set_option linter.unusedVariables false

theorem rcheck_d (l : List Span) (hl : l.length ≤ 140737488351232) : fnD Try.prog (orac Try.prog) [] Try.f16 [spans l] (.int .i64 (check l)) := by
  refine fn_intro _ [.tmp 2] _ rfl rfl rfl (by kernel_rfl) ?_
  simp (disch := omega) only [go_sem, reduceIte, Nat.reduceEqDiff, Nat.reduceAdd, Nat.reduceLeDiff, Nat.reduceLT, Nat.reduceSub, Int.reduceLT, Int.reduceLE, Int.reduceEq, Int.reduceToNat, Option.map_some, List.length_map, List.getElem?_map, Int.toNat_natCast, spans]
  refine condD_dec (fun h => ?_) (fun h => ?_)
  · simp (disch := omega) only [go_sem, reduceIte, Nat.reduceEqDiff, Nat.reduceAdd, Nat.reduceLeDiff, Nat.reduceLT, Nat.reduceSub, Int.reduceLT, Int.reduceLE, Int.reduceEq, Int.reduceToNat, Option.map_some, List.length_map, List.getElem?_map, Int.toNat_natCast]
    rw [check, if_pos (by omega)]; exact .refl _
  simp (disch := omega) only [go_sem, reduceIte, Nat.reduceEqDiff, Nat.reduceAdd, Nat.reduceLeDiff, Nat.reduceLT, Nat.reduceSub, Int.reduceLT, Int.reduceLE, Int.reduceEq, Int.reduceToNat, Option.map_some, List.length_map, List.getElem?_map, Int.toNat_natCast]
  refine cD_for l.length (fun k σ _ => σ 0 = spans l ∧ σ 3 = .int .i64 k ∧ (l.take k).any badSpan = false)
    ⟨by simp [go_sem, spans], by simp [go_sem], by simp⟩ ?_ ?_
  · rintro k σ bx hk ⟨h0, h3, hb⟩
    obtain ⟨x, hx⟩ := get_lt hk
    have bad : badSpan x = true → Weak (D.int .i64 150) (.int .i64 (check l)) := fun hp => by
      rw [check, if_neg (by omega), any_of badSpan hx hp]; exact .refl _
    simp (disch := omega) only [go_sem, reduceIte, Nat.reduceEqDiff, Nat.reduceAdd, Nat.reduceLeDiff, Nat.reduceLT, Nat.reduceSub, Int.reduceLT, Int.reduceLE, Int.reduceEq, Int.reduceToNat, Option.map_some, List.length_map, List.getElem?_map, Int.toNat_natCast, h0, h3, spans]
    refine condD_yes (by omega) ?_
    simp (disch := omega) only [go_sem, reduceIte, Nat.reduceEqDiff, Nat.reduceAdd, Nat.reduceLeDiff, Nat.reduceLT, Nat.reduceSub, Int.reduceLT, Int.reduceLE, Int.reduceEq, Int.reduceToNat, Option.map_some, List.length_map, List.getElem?_map, Int.toNat_natCast, h0, h3, spans, hx, Span.d]
    refine condD_dec (fun h1 => ?_) (fun h1 => ?_)
    · simp (disch := omega) only [go_sem, reduceIte, Nat.reduceEqDiff, Nat.reduceAdd, Nat.reduceLeDiff, Nat.reduceLT, Nat.reduceSub, Int.reduceLT, Int.reduceLE, Int.reduceEq, Int.reduceToNat, Option.map_some, List.length_map, List.getElem?_map, Int.toNat_natCast, h1]
      exact bad (by simp [badSpan, h1])
    · simp (disch := omega) only [go_sem, reduceIte, Nat.reduceEqDiff, Nat.reduceAdd, Nat.reduceLeDiff, Nat.reduceLT, Nat.reduceSub, Int.reduceLT, Int.reduceLE, Int.reduceEq, Int.reduceToNat, Option.map_some, List.length_map, List.getElem?_map, Int.toNat_natCast, h1, h0, h3, spans, hx, Span.d]
      refine condD_dec (fun h2 => ?_) (fun h2 => ?_)
      · simp (disch := omega) only [go_sem, reduceIte, Nat.reduceEqDiff, Nat.reduceAdd, Nat.reduceLeDiff, Nat.reduceLT, Nat.reduceSub, Int.reduceLT, Int.reduceLE, Int.reduceEq, Int.reduceToNat, Option.map_some, List.length_map, List.getElem?_map, Int.toNat_natCast, h1, h2]
        exact bad (by simp [badSpan, h2])
      · simp (disch := omega) only [go_sem, reduceIte, Nat.reduceEqDiff, Nat.reduceAdd, Nat.reduceLeDiff, Nat.reduceLT, Nat.reduceSub, Int.reduceLT, Int.reduceLE, Int.reduceEq, Int.reduceToNat, Option.map_some, List.length_map, List.getElem?_map, Int.toNat_natCast, h1, h2, h0, h3, spans, hx, Span.d]
        refine condD_dec (fun h4 => ?_) (fun h4 => ?_)
        · simp (disch := omega) only [go_sem, reduceIte, Nat.reduceEqDiff, Nat.reduceAdd, Nat.reduceLeDiff, Nat.reduceLT, Nat.reduceSub, Int.reduceLT, Int.reduceLE, Int.reduceEq, Int.reduceToNat, Option.map_some, List.length_map, List.getElem?_map, Int.toNat_natCast, h4]
          exact bad (by simp [badSpan, h4])
        · simp (disch := omega) only [go_sem, reduceIte, Nat.reduceEqDiff, Nat.reduceAdd, Nat.reduceLeDiff, Nat.reduceLT, Nat.reduceSub, Int.reduceLT, Int.reduceLE, Int.reduceEq, Int.reduceToNat, Option.map_some, List.length_map, List.getElem?_map, Int.toNat_natCast, h4, h0, h3, spans, hx, Span.d]
          rw [wrap_succ (by omega)]
          and_intros <;> try trivial
          rw [take_any badSpan hx hb]
          simp [badSpan, h1, h2, h4]
  · rintro σ bx ⟨h0, h3, hb⟩
    simp (disch := omega) only [go_sem, reduceIte, Nat.reduceEqDiff, Nat.reduceAdd, Nat.reduceLeDiff, Nat.reduceLT, Nat.reduceSub, Int.reduceLT, Int.reduceLE, Int.reduceEq, Int.reduceToNat, Option.map_some, List.length_map, List.getElem?_map, Int.toNat_natCast, h0, h3, spans]
    refine condD_no (by omega) ?_
    simp (disch := omega) only [go_sem, reduceIte, Nat.reduceEqDiff, Nat.reduceAdd, Nat.reduceLeDiff, Nat.reduceLT, Nat.reduceSub, Int.reduceLT, Int.reduceLE, Int.reduceEq, Int.reduceToNat, Option.map_some, List.length_map, List.getElem?_map, Int.toNat_natCast]
    rw [check, if_neg (by omega)]
    rw [List.take_length] at hb
    rw [hb]; exact .refl _
theorem rcheck_c (l : List Span) (hl : l.length ≤ 140737488351232) : CallsTo Try.prog 16 [spans l] (.int .i64 (check l)) :=
  fn_calls mixed (rcheck_d l hl) rfl (by kernel_rfl) rfl

theorem rtime_d (n : Int) : fnD Try.prog (orac Try.prog) [] Try.f25 [.int .i64 n] (.bool (isTime n)) := by
  refine fn_intro _ [.tmp 2] _ rfl rfl rfl (by kernel_rfl) ?_
  simp (disch := omega) only [go_sem, reduceIte, Nat.reduceEqDiff, Nat.reduceAdd, Nat.reduceLeDiff, Nat.reduceLT, Nat.reduceSub, Int.reduceLT, Int.reduceLE, Int.reduceEq, Int.reduceToNat, Option.map_some, List.length_map, List.getElem?_map, Int.toNat_natCast]
  refine condD_dec (fun h => ?_) (fun h => ?_)
  · simp (disch := omega) only [go_sem, reduceIte, Nat.reduceEqDiff, Nat.reduceAdd, Nat.reduceLeDiff, Nat.reduceLT, Nat.reduceSub, Int.reduceLT, Int.reduceLE, Int.reduceEq, Int.reduceToNat, Option.map_some, List.length_map, List.getElem?_map, Int.toNat_natCast, h]
    simp only [isTime, h, decide_true, Bool.true_and]
    exact .refl _
  · simp (disch := omega) only [go_sem, reduceIte, Nat.reduceEqDiff, Nat.reduceAdd, Nat.reduceLeDiff, Nat.reduceLT, Nat.reduceSub, Int.reduceLT, Int.reduceLE, Int.reduceEq, Int.reduceToNat, Option.map_some, List.length_map, List.getElem?_map, Int.toNat_natCast, h]
    simp only [isTime, h, decide_false, Bool.false_and]
    exact .refl _
theorem rtime_c (n : Int) : CallsTo Try.prog 25 [.int .i64 n] (.bool (isTime n)) := fn_calls mixed (rtime_d n) rfl (by kernel_rfl) rfl

theorem length_d (l : List Span) (hg : ∀ x, x ∈ l → x.good) (hl : l.length ≤ 65536) : fnD Try.prog (orac Try.prog) [] Try.f22 [spans l] (.int .i64 (lenZ l)) := by
  refine fn_intro _ [.tmp 2] _ rfl rfl rfl (by kernel_rfl) ?_
  simp (disch := omega) only [go_sem, reduceIte, Nat.reduceEqDiff, Nat.reduceAdd, Nat.reduceLeDiff, Nat.reduceLT, Nat.reduceSub, Int.reduceLT, Int.reduceLE, Int.reduceEq, Int.reduceToNat, Option.map_some, List.length_map, List.getElem?_map, Int.toNat_natCast, spans]
  refine cD_for l.length (fun k σ _ => σ 0 = spans l ∧ σ 4 = .int .i64 k ∧ σ 3 = .int .i64 (lenZ (l.take k)))
    ⟨by simp [go_sem, spans], by simp [go_sem], by simp [go_sem, lenZ]⟩ ?_ ?_
  · rintro k σ bx hk ⟨h0, h4, h3⟩
    obtain ⟨x, hx⟩ := get_lt hk
    have gx := hg x (List.mem_of_getElem? hx)
    have hb := lenZ_bound (l := l.take k) (fun x hx => hg x (List.mem_of_mem_take hx))
    have : (l.take k).length ≤ 65536 := by have := List.length_take_le' k l; omega
    unfold Span.good at gx
    simp (disch := omega) only [go_sem, reduceIte, Nat.reduceEqDiff, Nat.reduceAdd, Nat.reduceLeDiff, Nat.reduceLT, Nat.reduceSub, Int.reduceLT, Int.reduceLE, Int.reduceEq, Int.reduceToNat, Option.map_some, List.length_map, List.getElem?_map, Int.toNat_natCast, h0, h4, h3, spans]
    refine condD_yes (by omega) ?_
    simp (disch := omega) only [go_sem, reduceIte, Nat.reduceEqDiff, Nat.reduceAdd, Nat.reduceLeDiff, Nat.reduceLT, Nat.reduceSub, Int.reduceLT, Int.reduceLE, Int.reduceEq, Int.reduceToNat, Option.map_some, List.length_map, List.getElem?_map, Int.toNat_natCast, h0, h3, h4, spans, hx, Span.d]
    rw [wrap_succ (by omega), lenZ_take hx, wrap_i64 (n := _ + x.u) (by omega) (by omega), wrap_i64 (by omega) (by omega)]
    simp; omega
  · rintro σ bx ⟨h0, h4, h3⟩
    simp (disch := omega) only [go_sem, reduceIte, Nat.reduceEqDiff, Nat.reduceAdd, Nat.reduceLeDiff, Nat.reduceLT, Nat.reduceSub, Int.reduceLT, Int.reduceLE, Int.reduceEq, Int.reduceToNat, Option.map_some, List.length_map, List.getElem?_map, Int.toNat_natCast, h0, h4, h3, spans]
    refine condD_no (by omega) ?_
    simp (disch := omega) only [go_sem, reduceIte, Nat.reduceEqDiff, Nat.reduceAdd, Nat.reduceLeDiff, Nat.reduceLT, Nat.reduceSub, Int.reduceLT, Int.reduceLE, Int.reduceEq, Int.reduceToNat, Option.map_some, List.length_map, List.getElem?_map, Int.toNat_natCast, h3]
    rw [List.take_length]
    exact .refl _
theorem length_c (l : List Span) (hg : ∀ x, x ∈ l → x.good) (hl : l.length ≤ 65536) : CallsTo Try.prog 22 [spans l] (.int .i64 (lenZ l)) := fn_calls mixed (length_d l hg hl) rfl (by kernel_rfl) rfl
theorem length_take {l : List Span} (hg : Good l) (k : Nat) : CallsTo Try.prog 22 [spans (l.take k)] (.int .i64 (lenZ (l.take k))) :=
  length_c _ (fun x hx => hg.2 x (List.mem_of_mem_take hx)) (by have := hg.1; have := List.length_take_le' k l; omega)

theorem within_d (a b : List Span) (ha : Good a) (hb : b.length ≤ 65536) : fnD Try.prog (orac Try.prog) [(4, [(3, 1)])] Try.f21 [spans a, spans b] (.bool (within a b)) := by
  refine fn_intro _ [.tmp 4] _ rfl rfl rfl (by kernel_rfl) ?_
  simp (disch := omega) only [go_sem, reduceIte, Nat.reduceEqDiff, Nat.reduceAdd, Nat.reduceLeDiff, Nat.reduceLT, Nat.reduceSub, Int.reduceLT, Int.reduceLE, Int.reduceEq, Int.reduceToNat, Option.map_some, List.length_map, List.getElem?_map, Int.toNat_natCast]
  refine cD_for b.length (fun k σ _ => σ 0 = spans a ∧ σ 1 = spans b ∧ σ 5 = .int .i64 k ∧ (b.take k).any (fun x => decide (lenZ a < x.u)) = false)
    ⟨by simp [go_sem], by simp [go_sem], by simp [go_sem], by simp⟩ ?_ ?_
  · rintro k σ bx hk ⟨h0, h1, h5, hb⟩
    obtain ⟨x, hx⟩ := get_lt hk
    simp (disch := omega) only [go_sem, reduceIte, Nat.reduceEqDiff, Nat.reduceAdd, Nat.reduceLeDiff, Nat.reduceLT, Nat.reduceSub, Int.reduceLT, Int.reduceLE, Int.reduceEq, Int.reduceToNat, Option.map_some, List.length_map, List.getElem?_map, Int.toNat_natCast, h0, h1, h5, spans]
    refine condD_yes (by omega) ?_
    simp (disch := omega) only [go_sem, reduceIte, Nat.reduceEqDiff, Nat.reduceAdd, Nat.reduceLeDiff, Nat.reduceLT, Nat.reduceSub, Int.reduceLT, Int.reduceLE, Int.reduceEq, Int.reduceToNat, Option.map_some, List.length_map, List.getElem?_map, Int.toNat_natCast, h0, h1, h5, spans, hx, Span.d]
    refine call_pure (length_c a ha.2 (by have := ha.1; omega)) (by simp [go_sem]) ?_
    simp (disch := omega) only [go_sem, reduceIte, Nat.reduceEqDiff, Nat.reduceAdd, Nat.reduceLeDiff, Nat.reduceLT, Nat.reduceSub, Int.reduceLT, Int.reduceLE, Int.reduceEq, Int.reduceToNat, Option.map_some, List.length_map, List.getElem?_map, Int.toNat_natCast, h0, h1, h5]
    refine condD_dec (fun h2 => ?_) (fun h2 => ?_)
    · simp (disch := omega) only [go_sem, reduceIte, Nat.reduceEqDiff, Nat.reduceAdd, Nat.reduceLeDiff, Nat.reduceLT, Nat.reduceSub, Int.reduceLT, Int.reduceLE, Int.reduceEq, Int.reduceToNat, Option.map_some, List.length_map, List.getElem?_map, Int.toNat_natCast, h2]
      have : within a b = false := by
        rw [within, List.all_eq_false]
        exact ⟨x, List.mem_of_getElem? hx, by simp; omega⟩
      rw [this]; exact .refl _
    · simp (disch := omega) only [go_sem, reduceIte, Nat.reduceEqDiff, Nat.reduceAdd, Nat.reduceLeDiff, Nat.reduceLT, Nat.reduceSub, Int.reduceLT, Int.reduceLE, Int.reduceEq, Int.reduceToNat, Option.map_some, List.length_map, List.getElem?_map, Int.toNat_natCast, h2, h0, h1, h5]
      rw [wrap_succ (by omega)]
      and_intros <;> try trivial
      rw [take_any _ hx hb]
      simp; omega
  · rintro σ bx ⟨h0, h1, h5, hb⟩
    simp (disch := omega) only [go_sem, reduceIte, Nat.reduceEqDiff, Nat.reduceAdd, Nat.reduceLeDiff, Nat.reduceLT, Nat.reduceSub, Int.reduceLT, Int.reduceLE, Int.reduceEq, Int.reduceToNat, Option.map_some, List.length_map, List.getElem?_map, Int.toNat_natCast, h0, h1, h5, spans]
    refine condD_no (by omega) ?_
    simp (disch := omega) only [go_sem, reduceIte, Nat.reduceEqDiff, Nat.reduceAdd, Nat.reduceLeDiff, Nat.reduceLT, Nat.reduceSub, Int.reduceLT, Int.reduceLE, Int.reduceEq, Int.reduceToNat, Option.map_some, List.length_map, List.getElem?_map, Int.toNat_natCast]
    rw [List.take_length, List.any_eq_false] at hb
    have : within a b = true := by
      rw [within, List.all_eq_true]
      intro x hx
      have := hb x hx
      simp at this ⊢; omega
    rw [this]; exact .refl _
theorem within_c (a b : List Span) (ha : Good a) (hb : b.length ≤ 65536) : CallsTo Try.prog 21 [spans a, spans b] (.bool (within a b)) := fn_calls mixed (within_d a b ha hb) rfl (by kernel_rfl) rfl

theorem few_d (l : List Span) : fnD Try.prog (orac Try.prog) [] Try.f10 [spans l] (.bool (few l)) := by
  refine fn_intro _ [.tmp 2] _ rfl rfl rfl (by kernel_rfl) ?_
  simp (disch := omega) only [go_sem, reduceIte, Nat.reduceEqDiff, Nat.reduceAdd, Nat.reduceLeDiff, Nat.reduceLT, Nat.reduceSub, Int.reduceLT, Int.reduceLE, Int.reduceEq, Int.reduceToNat, Option.map_some, List.length_map, List.getElem?_map, Int.toNat_natCast, spans]
  refine condD_dec (fun h => ?_) (fun h => ?_)
  · simp (disch := omega) only [go_sem, reduceIte, Nat.reduceEqDiff, Nat.reduceAdd, Nat.reduceLeDiff, Nat.reduceLT, Nat.reduceSub, Int.reduceLT, Int.reduceLE, Int.reduceEq, Int.reduceToNat, Option.map_some, List.length_map, List.getElem?_map, Int.toNat_natCast, h]
    have : few l = true := by simp [few]; omega
    rw [this]; exact .refl _
  · simp (disch := omega) only [go_sem, reduceIte, Nat.reduceEqDiff, Nat.reduceAdd, Nat.reduceLeDiff, Nat.reduceLT, Nat.reduceSub, Int.reduceLT, Int.reduceLE, Int.reduceEq, Int.reduceToNat, Option.map_some, List.length_map, List.getElem?_map, Int.toNat_natCast, h]
    refine condD_dec (fun h2 => ?_) (fun h2 => ?_)
    · simp (disch := omega) only [go_sem, reduceIte, Nat.reduceEqDiff, Nat.reduceAdd, Nat.reduceLeDiff, Nat.reduceLT, Nat.reduceSub, Int.reduceLT, Int.reduceLE, Int.reduceEq, Int.reduceToNat, Option.map_some, List.length_map, List.getElem?_map, Int.toNat_natCast, h, h2]
      have : few l = decide ((l.length : Int) ≤ 400) := by
        have h3 : ¬ l.length ≤ 30 := by omega
        have h4 : 256 < l.length := by omega
        simp only [few, h3, h4, decide_true, decide_false, Bool.false_or, Bool.true_and]
        rw [Bool.eq_iff_iff]; simp; omega
      rw [this]; exact .refl _
    · simp (disch := omega) only [go_sem, reduceIte, Nat.reduceEqDiff, Nat.reduceAdd, Nat.reduceLeDiff, Nat.reduceLT, Nat.reduceSub, Int.reduceLT, Int.reduceLE, Int.reduceEq, Int.reduceToNat, Option.map_some, List.length_map, List.getElem?_map, Int.toNat_natCast, h, h2]
      have : few l = false := by simp [few]; omega
      rw [this]; exact .refl _
theorem few_c (l : List Span) : CallsTo Try.prog 10 [spans l] (.bool (few l)) := fn_calls mixed (few_d l) rfl (by kernel_rfl) rfl

theorem same_d (a b : List Span) (ha : a.length ≤ 140737488351232) : fnD Try.prog (orac Try.prog) [] Try.f20 [spans a, spans b] (.bool (decide (a = b))) := by
  refine fn_intro _ [.tmp 4] _ rfl rfl rfl (by kernel_rfl) ?_
  simp (disch := omega) only [go_sem, reduceIte, Nat.reduceEqDiff, Nat.reduceAdd, Nat.reduceLeDiff, Nat.reduceLT, Nat.reduceSub, Int.reduceLT, Int.reduceLE, Int.reduceEq, Int.reduceToNat, Option.map_some, List.length_map, List.getElem?_map, Int.toNat_natCast, spans]
  refine condD_dec (fun h => ?_) (fun h => ?_)
  case refine_2 =>
    simp (disch := omega) only [go_sem, reduceIte, Nat.reduceEqDiff, Nat.reduceAdd, Nat.reduceLeDiff, Nat.reduceLT, Nat.reduceSub, Int.reduceLT, Int.reduceLE, Int.reduceEq, Int.reduceToNat, Option.map_some, List.length_map, List.getElem?_map, Int.toNat_natCast]
    rw [decide_eq_false (by rintro rfl; exact h rfl)]; exact .refl _
  have h : a.length = b.length := by omega
  simp (disch := omega) only [go_sem, reduceIte, Nat.reduceEqDiff, Nat.reduceAdd, Nat.reduceLeDiff, Nat.reduceLT, Nat.reduceSub, Int.reduceLT, Int.reduceLE, Int.reduceEq, Int.reduceToNat, Option.map_some, List.length_map, List.getElem?_map, Int.toNat_natCast]
  refine cD_for a.length (fun k σ _ => σ 0 = spans a ∧ σ 1 = spans b ∧ σ 5 = .int .i64 k ∧ a.take k = b.take k)
    ⟨by simp [go_sem, spans], by simp [go_sem, spans], by simp [go_sem], by simp⟩ ?_ ?_
  · rintro k σ bx hk ⟨h0, h1, h5, hb⟩
    obtain ⟨x, hx⟩ := get_lt hk
    obtain ⟨y, hy⟩ := get_lt (l := b) (k := k) (by omega)
    simp (disch := omega) only [go_sem, reduceIte, Nat.reduceEqDiff, Nat.reduceAdd, Nat.reduceLeDiff, Nat.reduceLT, Nat.reduceSub, Int.reduceLT, Int.reduceLE, Int.reduceEq, Int.reduceToNat, Option.map_some, List.length_map, List.getElem?_map, Int.toNat_natCast, h0, h1, h5, spans]
    refine condD_yes (by omega) ?_
    simp (disch := omega) only [go_sem, reduceIte, Nat.reduceEqDiff, Nat.reduceAdd, Nat.reduceLeDiff, Nat.reduceLT, Nat.reduceSub, Int.reduceLT, Int.reduceLE, Int.reduceEq, Int.reduceToNat, Option.map_some, List.length_map, List.getElem?_map, Int.toNat_natCast, h0, h1, h5, spans, hx, hy, Span.d]
    refine condD_split (fun h2 => ?_) (fun h2 => ?_)
    · simp (disch := omega) only [go_sem, reduceIte, Nat.reduceEqDiff, Nat.reduceAdd, Nat.reduceLeDiff, Nat.reduceLT, Nat.reduceSub, Int.reduceLT, Int.reduceLE, Int.reduceEq, Int.reduceToNat, Option.map_some, List.length_map, List.getElem?_map, Int.toNat_natCast, h0, h1, h5]
      rw [wrap_succ (by omega)]
      and_intros <;> try trivial
      have : x = y := by
        cases x; cases y; simp at h2 ⊢; exact h2
      rw [List.take_add_one, List.take_add_one, hx, hy, hb, this]
    · simp (disch := omega) only [go_sem, reduceIte, Nat.reduceEqDiff, Nat.reduceAdd, Nat.reduceLeDiff, Nat.reduceLT, Nat.reduceSub, Int.reduceLT, Int.reduceLE, Int.reduceEq, Int.reduceToNat, Option.map_some, List.length_map, List.getElem?_map, Int.toNat_natCast]
      rw [decide_eq_false]
      · exact .refl _
      · intro e; subst e
        rw [hx] at hy; injection hy with hy; subst hy
        simp at h2
  · rintro σ bx ⟨h0, h1, h5, hb⟩
    simp (disch := omega) only [go_sem, reduceIte, Nat.reduceEqDiff, Nat.reduceAdd, Nat.reduceLeDiff, Nat.reduceLT, Nat.reduceSub, Int.reduceLT, Int.reduceLE, Int.reduceEq, Int.reduceToNat, Option.map_some, List.length_map, List.getElem?_map, Int.toNat_natCast, h0, h1, h5, spans]
    refine condD_no (by omega) ?_
    simp (disch := omega) only [go_sem, reduceIte, Nat.reduceEqDiff, Nat.reduceAdd, Nat.reduceLeDiff, Nat.reduceLT, Nat.reduceSub, Int.reduceLT, Int.reduceLE, Int.reduceEq, Int.reduceToNat, Option.map_some, List.length_map, List.getElem?_map, Int.toNat_natCast]
    rw [List.take_length, h, List.take_length] at hb
    rw [decide_eq_true hb]; exact .refl _
theorem same_c (a b : List Span) (ha : a.length ≤ 140737488351232) : CallsTo Try.prog 20 [spans a, spans b] (.bool (decide (a = b))) := fn_calls mixed (same_d a b ha) rfl (by kernel_rfl) rfl

theorem sameInts_d (a b : List Int) (ha : a.length ≤ 140737488351232) : fnD Try.prog (orac Try.prog) [] Try.f17 [ints a, ints b] (.bool (decide (a = b))) := by
  refine fn_intro _ [.tmp 4] _ rfl rfl rfl (by kernel_rfl) ?_
  simp (disch := omega) only [go_sem, reduceIte, Nat.reduceEqDiff, Nat.reduceAdd, Nat.reduceLeDiff, Nat.reduceLT, Nat.reduceSub, Int.reduceLT, Int.reduceLE, Int.reduceEq, Int.reduceToNat, Option.map_some, List.length_map, List.getElem?_map, Int.toNat_natCast, ints]
  refine condD_dec (fun h => ?_) (fun h => ?_)
  case refine_2 =>
    simp (disch := omega) only [go_sem, reduceIte, Nat.reduceEqDiff, Nat.reduceAdd, Nat.reduceLeDiff, Nat.reduceLT, Nat.reduceSub, Int.reduceLT, Int.reduceLE, Int.reduceEq, Int.reduceToNat, Option.map_some, List.length_map, List.getElem?_map, Int.toNat_natCast]
    rw [decide_eq_false (by rintro rfl; exact h rfl)]; exact .refl _
  have h : a.length = b.length := by omega
  simp (disch := omega) only [go_sem, reduceIte, Nat.reduceEqDiff, Nat.reduceAdd, Nat.reduceLeDiff, Nat.reduceLT, Nat.reduceSub, Int.reduceLT, Int.reduceLE, Int.reduceEq, Int.reduceToNat, Option.map_some, List.length_map, List.getElem?_map, Int.toNat_natCast]
  refine cD_for a.length (fun k σ _ => σ 0 = ints a ∧ σ 1 = ints b ∧ σ 5 = .int .i64 k ∧ a.take k = b.take k)
    ⟨by simp [go_sem, ints], by simp [go_sem, ints], by simp [go_sem], by simp⟩ ?_ ?_
  · rintro k σ bx hk ⟨h0, h1, h5, hb⟩
    obtain ⟨x, hx⟩ := get_lt hk
    obtain ⟨y, hy⟩ := get_lt (l := b) (k := k) (by omega)
    simp (disch := omega) only [go_sem, reduceIte, Nat.reduceEqDiff, Nat.reduceAdd, Nat.reduceLeDiff, Nat.reduceLT, Nat.reduceSub, Int.reduceLT, Int.reduceLE, Int.reduceEq, Int.reduceToNat, Option.map_some, List.length_map, List.getElem?_map, Int.toNat_natCast, h0, h1, h5, ints]
    refine condD_yes (by omega) ?_
    simp (disch := omega) only [go_sem, reduceIte, Nat.reduceEqDiff, Nat.reduceAdd, Nat.reduceLeDiff, Nat.reduceLT, Nat.reduceSub, Int.reduceLT, Int.reduceLE, Int.reduceEq, Int.reduceToNat, Option.map_some, List.length_map, List.getElem?_map, Int.toNat_natCast, h0, h1, h5, ints, hx, hy]
    refine condD_split (fun h2 => ?_) (fun h2 => ?_)
    · simp (disch := omega) only [go_sem, reduceIte, Nat.reduceEqDiff, Nat.reduceAdd, Nat.reduceLeDiff, Nat.reduceLT, Nat.reduceSub, Int.reduceLT, Int.reduceLE, Int.reduceEq, Int.reduceToNat, Option.map_some, List.length_map, List.getElem?_map, Int.toNat_natCast, h0, h1, h5]
      rw [wrap_succ (by omega)]
      and_intros <;> try trivial
      have : x = y := by simpa using h2
      rw [List.take_add_one, List.take_add_one, hx, hy, hb, this]
    · simp (disch := omega) only [go_sem, reduceIte, Nat.reduceEqDiff, Nat.reduceAdd, Nat.reduceLeDiff, Nat.reduceLT, Nat.reduceSub, Int.reduceLT, Int.reduceLE, Int.reduceEq, Int.reduceToNat, Option.map_some, List.length_map, List.getElem?_map, Int.toNat_natCast]
      rw [decide_eq_false]
      · exact .refl _
      · intro e; subst e
        rw [hx] at hy; injection hy with hy; subst hy
        simp at h2
  · rintro σ bx ⟨h0, h1, h5, hb⟩
    simp (disch := omega) only [go_sem, reduceIte, Nat.reduceEqDiff, Nat.reduceAdd, Nat.reduceLeDiff, Nat.reduceLT, Nat.reduceSub, Int.reduceLT, Int.reduceLE, Int.reduceEq, Int.reduceToNat, Option.map_some, List.length_map, List.getElem?_map, Int.toNat_natCast, h0, h1, h5, ints]
    refine condD_no (by omega) ?_
    simp (disch := omega) only [go_sem, reduceIte, Nat.reduceEqDiff, Nat.reduceAdd, Nat.reduceLeDiff, Nat.reduceLT, Nat.reduceSub, Int.reduceLT, Int.reduceLE, Int.reduceEq, Int.reduceToNat, Option.map_some, List.length_map, List.getElem?_map, Int.toNat_natCast]
    rw [List.take_length, h, List.take_length] at hb
    rw [decide_eq_true hb]; exact .refl _
theorem sameInts_c (a b : List Int) (ha : a.length ≤ 140737488351232) : CallsTo Try.prog 17 [ints a, ints b] (.bool (decide (a = b))) := fn_calls mixed (sameInts_d a b ha) rfl (by kernel_rfl) rfl
end Go.V.Cu
