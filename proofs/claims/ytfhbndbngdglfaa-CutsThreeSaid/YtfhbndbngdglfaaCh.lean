/-
  Cuts: the laws, on data.
-/
import Derived.Test.YtfhbndbngdglfaaCg
namespace Go.V.Cu
open Go.Proofs Go.RowKit
set_option linter.unusedSimpArgs false
set_option linter.unusedVariables false
set_option maxRecDepth 100000

theorem few_len {l : List Span} (h : few l = true) : l.length ≤ 400 := by
  simp only [few, Bool.or_eq_true, Bool.and_eq_true, decide_eq_true_eq] at h
  omega
theorem to_len (l : List Span) (t : Int) : (to l t).1.length ≤ l.length := by
  unfold to
  split
  · simp
  · split
    · simp
    · exact toZ_len _ _ _
theorem then_len1 (a b : List Span) : (then_ a b).1.length ≤ 256 := by
  unfold then_
  split
  · simp
  · split
    · simp
    · split
      · simp
      · simp only; omega
theorem to_ok {l : List Span} {t : Int} (h1 : check l = 0) (h2 : isTime t = true) : to l t = (toZ t 0 l, 0) := by simp [to, h1, h2]
theorem to_err {l : List Span} {t : Int} (h : (to l t).2 ≠ 0) : (to l t).1 = [] := by
  unfold to at h ⊢
  split
  · rfl
  · split
    · rfl
    · rename_i h1 h2; rw [if_neg h1, if_neg h2] at h; exact absurd rfl h
theorem to_fine {l : List Span} {t : Int} (h : (to l t).2 = 0) : check l = 0 ∧ isTime t = true := by
  unfold to at h
  split at h
  · rename_i h1; exact absurd h h1
  · rename_i h1
    split at h
    · cases h
    · rename_i h2; exact ⟨by omega, by simpa using h2⟩
theorem back_ok {l : List Span} {u : Int} (h1 : check l = 0) (h2 : isTime u = true) : back l u = ((backZ u 0 l).1, (backZ u 0 l).2, 0) := by simp [back, h1, h2]
theorem back_bad {l : List Span} {u : Int} (h1 : check l = 0) (h2 : isTime u = false) : back l u = (0, false, 1) := by simp [back, h1, h2]
theorem toZ_time {t v : Int} {l : List Span} : ∀ {b : Int}, v ∈ toZ t b l → isTime v = true := by
  induction l with
  | nil => intro b h; simp [toZ] at h
  | cons x l ih =>
    intro b h
    simp only [toZ, List.mem_append] at h
    rcases h with h | h
    · split at h
      · rename_i hc; simp only [List.mem_singleton] at h; rw [h]; exact hc.2.2
      · simp at h
    · exact ih h
theorem isTime_iff {n : Int} : isTime n = true ↔ 0 ≤ n ∧ n < 1099511627776 := by simp [isTime]
theorem then_fine {a b : List Span} (h : (then_ a b).2 = 0) : check a = 0 ∧ check b = 0 ∧ (thenZ a b).length ≤ 256 ∧ then_ a b = (thenZ a b, 0) := by
  unfold then_ at h ⊢
  split at h
  · rename_i h1; exact absurd h h1
  · rename_i h1
    split at h
    · rename_i h2; exact absurd h h2
    · rename_i h2
      split at h
      · cases h
      · rename_i h3
        rw [if_neg h1, if_neg h2, if_neg h3]
        exact ⟨by omega, by omega, by omega, rfl⟩
theorem then_err {a b : List Span} (h : (then_ a b).2 ≠ 0) : (then_ a b).1 = [] := by
  unfold then_ at h ⊢
  split
  · rfl
  · rename_i h1
    split
    · rfl
    · rename_i h2
      split
      · rfl
      · rename_i h3
        rw [if_neg h1, if_neg h2, if_neg h3] at h; exact absurd rfl h
theorem then_goods {a b : List Span} (ha : check a = 0) (hb : check b = 0) : Goods (thenZ a b) := joinZ_good (flatZ_good (good_of_check ha).2 (good_of_check hb).2)

theorem spec_d (l : List Span) (u t : Int) : fnD Try.prog (orac Try.prog) [] Try.f3 [spans l, .int .i64 u, .int .i64 t] (.bool true) := by
  refine fn_intro _ [.tmp 6] _ rfl rfl rfl (by kernel_rfl) ?_
  simp (maxSteps := 1000000) (disch := omega) only [go_sem, reduceIte, Nat.reduceEqDiff, Nat.reduceAdd, Nat.reduceLeDiff, Nat.reduceLT, Nat.reduceSub, Int.reduceLT, Int.reduceLE, Int.reduceEq, Int.reduceToNat, Option.map_some, List.length_map, List.getElem?_map, Int.toNat_natCast]
  refine call_pure sane_c (by simp [go_sem]) ?_
  simp (maxSteps := 1000000) (disch := omega) only [go_sem, reduceIte, Nat.reduceEqDiff, Nat.reduceAdd, Nat.reduceLeDiff, Nat.reduceLT, Nat.reduceSub, Int.reduceLT, Int.reduceLE, Int.reduceEq, Int.reduceToNat, Option.map_some, List.length_map, List.getElem?_map, Int.toNat_natCast]
  refine call_pure (few_c l) (by simp [go_sem, spans]) ?_
  simp (maxSteps := 1000000) (disch := omega) only [go_sem, reduceIte, Nat.reduceEqDiff, Nat.reduceAdd, Nat.reduceLeDiff, Nat.reduceLT, Nat.reduceSub, Int.reduceLT, Int.reduceLE, Int.reduceEq, Int.reduceToNat, Option.map_some, List.length_map, List.getElem?_map, Int.toNat_natCast]
  refine condD_split (fun h => ?_) (fun h => ?_)
  case refine_2 => simp (maxSteps := 1000000) (disch := omega) only [go_sem, reduceIte, Nat.reduceEqDiff, Nat.reduceAdd, Nat.reduceLeDiff, Nat.reduceLT, Nat.reduceSub, Int.reduceLT, Int.reduceLE, Int.reduceEq, Int.reduceToNat, Option.map_some, List.length_map, List.getElem?_map, Int.toNat_natCast]; exact .refl _
  have hl := few_len h
  have h2 := to_len l t
  simp (maxSteps := 1000000) (disch := omega) only [go_sem, reduceIte, Nat.reduceEqDiff, Nat.reduceAdd, Nat.reduceLeDiff, Nat.reduceLT, Nat.reduceSub, Int.reduceLT, Int.reduceLE, Int.reduceEq, Int.reduceToNat, Option.map_some, List.length_map, List.getElem?_map, Int.toNat_natCast]
  refine call_pure (back_c l u (by omega)) (by simp [go_sem, spans]) ?_
  simp (maxSteps := 1000000) (disch := omega) only [go_sem, reduceIte, Nat.reduceEqDiff, Nat.reduceAdd, Nat.reduceLeDiff, Nat.reduceLT, Nat.reduceSub, Int.reduceLT, Int.reduceLE, Int.reduceEq, Int.reduceToNat, Option.map_some, List.length_map, List.getElem?_map, Int.toNat_natCast, backD]
  refine call_pure (rback_c l u (by omega)) (by simp [go_sem, spans]) ?_
  simp (maxSteps := 1000000) (disch := omega) only [go_sem, reduceIte, Nat.reduceEqDiff, Nat.reduceAdd, Nat.reduceLeDiff, Nat.reduceLT, Nat.reduceSub, Int.reduceLT, Int.reduceLE, Int.reduceEq, Int.reduceToNat, Option.map_some, List.length_map, List.getElem?_map, Int.toNat_natCast, backD]
  refine call_pure (to_c l t (by omega)) (by simp [go_sem, spans]) ?_
  simp (maxSteps := 1000000) (disch := omega) only [go_sem, reduceIte, Nat.reduceEqDiff, Nat.reduceAdd, Nat.reduceLeDiff, Nat.reduceLT, Nat.reduceSub, Int.reduceLT, Int.reduceLE, Int.reduceEq, Int.reduceToNat, Option.map_some, List.length_map, List.getElem?_map, Int.toNat_natCast, toD]
  refine call_pure (rto_c l t (by omega)) (by simp [go_sem, spans]) ?_
  simp (maxSteps := 1000000) (disch := omega) only [go_sem, reduceIte, Nat.reduceEqDiff, Nat.reduceAdd, Nat.reduceLeDiff, Nat.reduceLT, Nat.reduceSub, Int.reduceLT, Int.reduceLE, Int.reduceEq, Int.reduceToNat, Option.map_some, List.length_map, List.getElem?_map, Int.toNat_natCast, toD]
  refine call_pure (check_c l (by omega)) (by simp [go_sem, spans]) ?_
  simp (maxSteps := 1000000) (disch := omega) only [go_sem, reduceIte, Nat.reduceEqDiff, Nat.reduceAdd, Nat.reduceLeDiff, Nat.reduceLT, Nat.reduceSub, Int.reduceLT, Int.reduceLE, Int.reduceEq, Int.reduceToNat, Option.map_some, List.length_map, List.getElem?_map, Int.toNat_natCast]
  refine call_pure (rcheck_c l (by omega)) (by simp [go_sem, spans]) ?_
  simp (maxSteps := 1000000) (disch := omega) only [go_sem, reduceIte, Nat.reduceEqDiff, Nat.reduceAdd, Nat.reduceLeDiff, Nat.reduceLT, Nat.reduceSub, Int.reduceLT, Int.reduceLE, Int.reduceEq, Int.reduceToNat, Option.map_some, List.length_map, List.getElem?_map, Int.toNat_natCast]
  refine call_pure (sameInts_c _ _ (by omega)) (by simp [go_sem, ints]) ?_
  simp (maxSteps := 1000000) (disch := omega) only [go_sem, reduceIte, Nat.reduceEqDiff, Nat.reduceAdd, Nat.reduceLeDiff, Nat.reduceLT, Nat.reduceSub, Int.reduceLT, Int.reduceLE, Int.reduceEq, Int.reduceToNat, Option.map_some, List.length_map, List.getElem?_map, Int.toNat_natCast]
  exact .refl _

theorem thenSpec_d (a b : List Span) : fnD Try.prog (orac Try.prog) [] Try.f4 [spans a, spans b] (.bool true) := by
  refine fn_intro _ [.tmp 4] _ rfl rfl rfl (by kernel_rfl) ?_
  simp (maxSteps := 1000000) (disch := omega) only [go_sem, reduceIte, Nat.reduceEqDiff, Nat.reduceAdd, Nat.reduceLeDiff, Nat.reduceLT, Nat.reduceSub, Int.reduceLT, Int.reduceLE, Int.reduceEq, Int.reduceToNat, Option.map_some, List.length_map, List.getElem?_map, Int.toNat_natCast]
  refine call_pure sane_c (by simp [go_sem]) ?_
  simp (maxSteps := 1000000) (disch := omega) only [go_sem, reduceIte, Nat.reduceEqDiff, Nat.reduceAdd, Nat.reduceLeDiff, Nat.reduceLT, Nat.reduceSub, Int.reduceLT, Int.reduceLE, Int.reduceEq, Int.reduceToNat, Option.map_some, List.length_map, List.getElem?_map, Int.toNat_natCast]
  refine call_pure (few_c a) (by simp [go_sem, spans]) ?_
  simp (maxSteps := 1000000) (disch := omega) only [go_sem, reduceIte, Nat.reduceEqDiff, Nat.reduceAdd, Nat.reduceLeDiff, Nat.reduceLT, Nat.reduceSub, Int.reduceLT, Int.reduceLE, Int.reduceEq, Int.reduceToNat, Option.map_some, List.length_map, List.getElem?_map, Int.toNat_natCast]
  refine condD_split (fun h => ?_) (fun h => ?_)
  case refine_2 => simp (maxSteps := 1000000) (disch := omega) only [go_sem, reduceIte, Nat.reduceEqDiff, Nat.reduceAdd, Nat.reduceLeDiff, Nat.reduceLT, Nat.reduceSub, Int.reduceLT, Int.reduceLE, Int.reduceEq, Int.reduceToNat, Option.map_some, List.length_map, List.getElem?_map, Int.toNat_natCast, h]; exact .refl _
  simp (maxSteps := 1000000) (disch := omega) only [go_sem, reduceIte, Nat.reduceEqDiff, Nat.reduceAdd, Nat.reduceLeDiff, Nat.reduceLT, Nat.reduceSub, Int.reduceLT, Int.reduceLE, Int.reduceEq, Int.reduceToNat, Option.map_some, List.length_map, List.getElem?_map, Int.toNat_natCast, h]
  refine call_pure (few_c b) (by simp [go_sem, spans]) ?_
  simp (maxSteps := 1000000) (disch := omega) only [go_sem, reduceIte, Nat.reduceEqDiff, Nat.reduceAdd, Nat.reduceLeDiff, Nat.reduceLT, Nat.reduceSub, Int.reduceLT, Int.reduceLE, Int.reduceEq, Int.reduceToNat, Option.map_some, List.length_map, List.getElem?_map, Int.toNat_natCast, h]
  refine condD_split (fun h2 => ?_) (fun h2 => ?_)
  case refine_2 => simp (maxSteps := 1000000) (disch := omega) only [go_sem, reduceIte, Nat.reduceEqDiff, Nat.reduceAdd, Nat.reduceLeDiff, Nat.reduceLT, Nat.reduceSub, Int.reduceLT, Int.reduceLE, Int.reduceEq, Int.reduceToNat, Option.map_some, List.length_map, List.getElem?_map, Int.toNat_natCast, h2]; exact .refl _
  have ha := few_len h
  have hb := few_len h2
  have h3 := then_len1 a b
  simp (maxSteps := 1000000) (disch := omega) only [go_sem, reduceIte, Nat.reduceEqDiff, Nat.reduceAdd, Nat.reduceLeDiff, Nat.reduceLT, Nat.reduceSub, Int.reduceLT, Int.reduceLE, Int.reduceEq, Int.reduceToNat, Option.map_some, List.length_map, List.getElem?_map, Int.toNat_natCast, h2]
  refine call_pure (then_c a b (by omega) (by omega)) (by simp [go_sem, spans]) ?_
  simp (maxSteps := 1000000) (disch := omega) only [go_sem, reduceIte, Nat.reduceEqDiff, Nat.reduceAdd, Nat.reduceLeDiff, Nat.reduceLT, Nat.reduceSub, Int.reduceLT, Int.reduceLE, Int.reduceEq, Int.reduceToNat, Option.map_some, List.length_map, List.getElem?_map, Int.toNat_natCast, thenD]
  refine call_pure (rthen_c a b (by omega) (by omega)) (by simp [go_sem, spans]) ?_
  simp (maxSteps := 1000000) (disch := omega) only [go_sem, reduceIte, Nat.reduceEqDiff, Nat.reduceAdd, Nat.reduceLeDiff, Nat.reduceLT, Nat.reduceSub, Int.reduceLT, Int.reduceLE, Int.reduceEq, Int.reduceToNat, Option.map_some, List.length_map, List.getElem?_map, Int.toNat_natCast, thenD]
  refine call_pure (same_c _ _ (by omega)) (by simp [go_sem, spans]) ?_
  simp (maxSteps := 1000000) (disch := omega) only [go_sem, reduceIte, Nat.reduceEqDiff, Nat.reduceAdd, Nat.reduceLeDiff, Nat.reduceLT, Nat.reduceSub, Int.reduceLT, Int.reduceLE, Int.reduceEq, Int.reduceToNat, Option.map_some, List.length_map, List.getElem?_map, Int.toNat_natCast]
  exact .refl _

theorem backLaw_d (l : List Span) (u t : Int) : fnD Try.prog (orac Try.prog) [] Try.f5 [spans l, .int .i64 u, .int .i64 t] (.bool true) := by
  refine fn_intro _ [.tmp 6] _ rfl rfl rfl (by kernel_rfl) ?_
  simp (maxSteps := 1000000) (disch := omega) only [go_sem, reduceIte, Nat.reduceEqDiff, Nat.reduceAdd, Nat.reduceLeDiff, Nat.reduceLT, Nat.reduceSub, Int.reduceLT, Int.reduceLE, Int.reduceEq, Int.reduceToNat, Option.map_some, List.length_map, List.getElem?_map, Int.toNat_natCast]
  refine call_pure sane_c (by simp [go_sem]) ?_
  simp (maxSteps := 1000000) (disch := omega) only [go_sem, reduceIte, Nat.reduceEqDiff, Nat.reduceAdd, Nat.reduceLeDiff, Nat.reduceLT, Nat.reduceSub, Int.reduceLT, Int.reduceLE, Int.reduceEq, Int.reduceToNat, Option.map_some, List.length_map, List.getElem?_map, Int.toNat_natCast]
  refine call_pure (few_c l) (by simp [go_sem, spans]) ?_
  simp (maxSteps := 1000000) (disch := omega) only [go_sem, reduceIte, Nat.reduceEqDiff, Nat.reduceAdd, Nat.reduceLeDiff, Nat.reduceLT, Nat.reduceSub, Int.reduceLT, Int.reduceLE, Int.reduceEq, Int.reduceToNat, Option.map_some, List.length_map, List.getElem?_map, Int.toNat_natCast]
  refine condD_split (fun h => ?_) (fun h => ?_)
  case refine_2 => simp (maxSteps := 1000000) (disch := omega) only [go_sem, reduceIte, Nat.reduceEqDiff, Nat.reduceAdd, Nat.reduceLeDiff, Nat.reduceLT, Nat.reduceSub, Int.reduceLT, Int.reduceLE, Int.reduceEq, Int.reduceToNat, Option.map_some, List.length_map, List.getElem?_map, Int.toNat_natCast]; exact .refl _
  have hl := few_len h
  simp (maxSteps := 1000000) (disch := omega) only [go_sem, reduceIte, Nat.reduceEqDiff, Nat.reduceAdd, Nat.reduceLeDiff, Nat.reduceLT, Nat.reduceSub, Int.reduceLT, Int.reduceLE, Int.reduceEq, Int.reduceToNat, Option.map_some, List.length_map, List.getElem?_map, Int.toNat_natCast]
  refine call_pure (to_c l t (by omega)) (by simp [go_sem, spans]) ?_
  simp (maxSteps := 1000000) (disch := omega) only [go_sem, reduceIte, Nat.reduceEqDiff, Nat.reduceAdd, Nat.reduceLeDiff, Nat.reduceLT, Nat.reduceSub, Int.reduceLT, Int.reduceLE, Int.reduceEq, Int.reduceToNat, Option.map_some, List.length_map, List.getElem?_map, Int.toNat_natCast, toD]
  refine condD_dec (fun h2 => ?_) (fun h2 => ?_)
  case refine_2 =>
    have h3 := to_err h2
    simp (maxSteps := 1000000) (disch := omega) only [go_sem, reduceIte, Nat.reduceEqDiff, Nat.reduceAdd, Nat.reduceLeDiff, Nat.reduceLT, Nat.reduceSub, Int.reduceLT, Int.reduceLE, Int.reduceEq, Int.reduceToNat, Option.map_some, List.length_map, List.getElem?_map, Int.toNat_natCast, ints, h3]
    exact .refl _
  obtain ⟨hc, ht⟩ := to_fine h2
  have hg := (good_of_check hc).2
  have hz := toZ_len t 0 l
  rw [to_ok hc ht]
  generalize hall : toZ t 0 l = all at hz
  have hmem : ∀ v, v ∈ all → 0 ≤ v ∧ backZ v 0 l = (t, true) ∧ isTime v = true := fun v hv => by
    rw [← hall] at hv
    exact ⟨(toZ_back hg hv).1, (toZ_back hg hv).2, toZ_time hv⟩
  have hsort : all.Pairwise (· < ·) := by rw [← hall]; exact toZ_sorted hg 0
  simp (maxSteps := 1000000) (disch := omega) only [go_sem, reduceIte, Nat.reduceEqDiff, Nat.reduceAdd, Nat.reduceLeDiff, Nat.reduceLT, Nat.reduceSub, Int.reduceLT, Int.reduceLE, Int.reduceEq, Int.reduceToNat, Option.map_some, List.length_map, List.getElem?_map, Int.toNat_natCast]
  refine cD_for all.length (fun k σ _ => σ 0 = spans l ∧ σ 1 = .int .i64 u ∧ σ 2 = .int .i64 t ∧ σ 7 = ints all ∧ σ 9 = .int .i64 k)
    ⟨by simp [go_sem], by simp [go_sem], by simp [go_sem], by simp [go_sem], by simp [go_sem]⟩ ?_ ?_
  · rintro k σ bx hk ⟨h0, h1, h2, h7, h9⟩
    obtain ⟨v, hv⟩ := get_lt hk
    obtain ⟨m1, m2, m3⟩ := hmem v (List.mem_of_getElem? hv)
    simp (maxSteps := 1000000) (disch := omega) only [go_sem, reduceIte, Nat.reduceEqDiff, Nat.reduceAdd, Nat.reduceLeDiff, Nat.reduceLT, Nat.reduceSub, Int.reduceLT, Int.reduceLE, Int.reduceEq, Int.reduceToNat, Option.map_some, List.length_map, List.getElem?_map, Int.toNat_natCast, h0, h1, h2, h7, h9, ints]
    refine condD_yes (by omega) ?_
    simp (maxSteps := 1000000) (disch := omega) only [go_sem, reduceIte, Nat.reduceEqDiff, Nat.reduceAdd, Nat.reduceLeDiff, Nat.reduceLT, Nat.reduceSub, Int.reduceLT, Int.reduceLE, Int.reduceEq, Int.reduceToNat, Option.map_some, List.length_map, List.getElem?_map, Int.toNat_natCast, h0, h1, h2, h7, h9, ints, hv]
    refine call_pure (back_c l v (by omega)) (by simp [go_sem, spans]) ?_
    rw [back_ok hc m3, m2]
    match k, hk, h9, hv with
    | 0, hk, h9, hv =>
      simp (maxSteps := 1000000) (disch := omega) only [go_sem, reduceIte, Nat.reduceEqDiff, Nat.reduceAdd, Nat.reduceLeDiff, Nat.reduceLT, Nat.reduceSub, Int.reduceLT, Int.reduceLE, Int.reduceEq, Int.reduceToNat, Option.map_some, List.length_map, List.getElem?_map, Int.toNat_natCast, h0, h1, h2, h7, h9, ints, hv, backD]
      simp [wrap_i64]
    | k + 1, hk, h9, hv =>
      obtain ⟨v0, hv0⟩ := get_lt (l := all) (k := k) (by omega)
      have hpos : (0 : Int) < ((k + 1 : Nat) : Int) := by omega
      have hw : IntKind.i64.wrap (((k + 1 : Nat) : Int) - 1) = (k : Int) := by rw [wrap_i64 (by omega) (by omega)]; omega
      have hlt : v0 < v := by
        have := List.pairwise_iff_getElem.1 hsort k (k + 1) (by omega) hk (by omega)
        have e1 := (List.getElem?_eq_some_iff.1 hv0).2
        have e2 := (List.getElem?_eq_some_iff.1 hv).2
        rw [← e1, ← e2]; exact this
      have hn : ¬ v ≤ v0 := by omega
      simp (maxSteps := 1000000) (disch := omega) only [go_sem, reduceIte, Nat.reduceEqDiff, Nat.reduceAdd, Nat.reduceLeDiff, Nat.reduceLT, Nat.reduceSub, Int.reduceLT, Int.reduceLE, Int.reduceEq, Int.reduceToNat, Option.map_some, List.length_map, List.getElem?_map, Int.toNat_natCast, h0, h1, h2, h7, h9, ints, hv, hv0, backD, hpos, hw, hn]
      rw [wrap_succ (by omega)]
  · rintro σ bx ⟨h0, h1, h2, h7, h9⟩
    simp (maxSteps := 1000000) (disch := omega) only [go_sem, reduceIte, Nat.reduceEqDiff, Nat.reduceAdd, Nat.reduceLeDiff, Nat.reduceLT, Nat.reduceSub, Int.reduceLT, Int.reduceLE, Int.reduceEq, Int.reduceToNat, Option.map_some, List.length_map, List.getElem?_map, Int.toNat_natCast, h0, h1, h2, h7, h9, ints]
    refine condD_no (by omega) ?_
    simp (maxSteps := 1000000) (disch := omega) only [go_sem, reduceIte, Nat.reduceEqDiff, Nat.reduceAdd, Nat.reduceLeDiff, Nat.reduceLT, Nat.reduceSub, Int.reduceLT, Int.reduceLE, Int.reduceEq, Int.reduceToNat, Option.map_some, List.length_map, List.getElem?_map, Int.toNat_natCast, h0, h1, h2, h7, h9]
    refine call_pure (back_c l u (by omega)) (by simp [go_sem, spans]) ?_
    by_cases hu : isTime u = true
    · have hu' := isTime_iff.1 hu
      rw [back_ok hc hu]
      simp (maxSteps := 1000000) (disch := omega) only [go_sem, reduceIte, Nat.reduceEqDiff, Nat.reduceAdd, Nat.reduceLeDiff, Nat.reduceLT, Nat.reduceSub, Int.reduceLT, Int.reduceLE, Int.reduceEq, Int.reduceToNat, Option.map_some, List.length_map, List.getElem?_map, Int.toNat_natCast, h0, h1, h2, h7, h9, backD]
      refine condD_split (fun h3 => ?_) (fun h3 => ?_)
      case refine_2 => simp (maxSteps := 1000000) (disch := omega) only [go_sem, reduceIte, Nat.reduceEqDiff, Nat.reduceAdd, Nat.reduceLeDiff, Nat.reduceLT, Nat.reduceSub, Int.reduceLT, Int.reduceLE, Int.reduceEq, Int.reduceToNat, Option.map_some, List.length_map, List.getElem?_map, Int.toNat_natCast]; exact .refl _
      obtain ⟨x, hx⟩ : ∃ x, backZ u 0 l = (x, true) := ⟨_, Prod.ext rfl h3⟩
      obtain ⟨hin, htx⟩ := back_toZ hg hu'.1 hu hx
      have hz2 := toZ_len x 0 l
      rw [hx]
      simp (maxSteps := 1000000) (disch := omega) only [go_sem, reduceIte, Nat.reduceEqDiff, Nat.reduceAdd, Nat.reduceLeDiff, Nat.reduceLT, Nat.reduceSub, Int.reduceLT, Int.reduceLE, Int.reduceEq, Int.reduceToNat, Option.map_some, List.length_map, List.getElem?_map, Int.toNat_natCast, h0, h1]
      refine call_pure (to_c l x (by omega)) (by simp [go_sem, spans]) ?_
      rw [to_ok hc htx]
      simp (maxSteps := 1000000) (disch := omega) only [go_sem, reduceIte, Nat.reduceEqDiff, Nat.reduceAdd, Nat.reduceLeDiff, Nat.reduceLT, Nat.reduceSub, Int.reduceLT, Int.reduceLE, Int.reduceEq, Int.reduceToNat, Option.map_some, List.length_map, List.getElem?_map, Int.toNat_natCast, toD, h0, h1]
      refine cD_for (toZ x 0 l).length (fun k σ _ => σ 1 = .int .i64 u ∧ σ 16 = ints (toZ x 0 l) ∧ σ 17 = .int .i64 0 ∧ σ 19 = .int .i64 k ∧ σ 18 = .bool (decide (u ∈ (toZ x 0 l).take k)))
        ⟨by simp [go_sem, h1], by simp [go_sem], by simp [go_sem], by simp [go_sem], by simp [go_sem]⟩ ?_ ?_
      · rintro k σ bx hk ⟨h1, h16, h17, h19, h18⟩
        obtain ⟨v, hv⟩ := get_lt hk
        have htk : (toZ x 0 l).take (k + 1) = (toZ x 0 l).take k ++ [v] := by rw [List.take_add_one, hv]; rfl
        simp (maxSteps := 1000000) (disch := omega) only [go_sem, reduceIte, Nat.reduceEqDiff, Nat.reduceAdd, Nat.reduceLeDiff, Nat.reduceLT, Nat.reduceSub, Int.reduceLT, Int.reduceLE, Int.reduceEq, Int.reduceToNat, Option.map_some, List.length_map, List.getElem?_map, Int.toNat_natCast, h1, h16, h17, h18, h19, ints]
        refine condD_yes (by omega) ?_
        simp (maxSteps := 1000000) (disch := omega) only [go_sem, reduceIte, Nat.reduceEqDiff, Nat.reduceAdd, Nat.reduceLeDiff, Nat.reduceLT, Nat.reduceSub, Int.reduceLT, Int.reduceLE, Int.reduceEq, Int.reduceToNat, Option.map_some, List.length_map, List.getElem?_map, Int.toNat_natCast, h1, h16, h17, h18, h19]
        refine condD_dec (fun h4 => ?_) (fun h4 => ?_)
        · simp (maxSteps := 1000000) (disch := omega) only [go_sem, reduceIte, Nat.reduceEqDiff, Nat.reduceAdd, Nat.reduceLeDiff, Nat.reduceLT, Nat.reduceSub, Int.reduceLT, Int.reduceLE, Int.reduceEq, Int.reduceToNat, Option.map_some, List.length_map, List.getElem?_map, Int.toNat_natCast, h1, h16, h17, h18, h19, h4]
          rw [wrap_succ (by omega)]
          refine ⟨rfl, ?_⟩
          rw [htk]; simp [h4]
        · simp (maxSteps := 1000000) (disch := omega) only [go_sem, reduceIte, Nat.reduceEqDiff, Nat.reduceAdd, Nat.reduceLeDiff, Nat.reduceLT, Nat.reduceSub, Int.reduceLT, Int.reduceLE, Int.reduceEq, Int.reduceToNat, Option.map_some, List.length_map, List.getElem?_map, Int.toNat_natCast, h1, h16, h17, h18, h19, h4, ints, hv]
          rw [wrap_succ (by omega)]
          refine ⟨rfl, ?_⟩
          rw [htk]; simp [h4, eq_comm]
      · rintro σ bx ⟨h1, h16, h17, h19, h18⟩
        simp (maxSteps := 1000000) (disch := omega) only [go_sem, reduceIte, Nat.reduceEqDiff, Nat.reduceAdd, Nat.reduceLeDiff, Nat.reduceLT, Nat.reduceSub, Int.reduceLT, Int.reduceLE, Int.reduceEq, Int.reduceToNat, Option.map_some, List.length_map, List.getElem?_map, Int.toNat_natCast, h1, h16, h17, h18, h19, ints]
        refine condD_no (by omega) ?_
        have : u ∈ (toZ x 0 l).take (toZ x 0 l).length := by rw [List.take_length]; exact hin
        simp (maxSteps := 1000000) (disch := omega) only [go_sem, reduceIte, Nat.reduceEqDiff, Nat.reduceAdd, Nat.reduceLeDiff, Nat.reduceLT, Nat.reduceSub, Int.reduceLT, Int.reduceLE, Int.reduceEq, Int.reduceToNat, Option.map_some, List.length_map, List.getElem?_map, Int.toNat_natCast, h1, h16, h17, h18, h19, this]
        exact .refl _
    · have hu := Bool.eq_false_iff.2 hu
      rw [back_bad hc hu]
      simp (maxSteps := 1000000) (disch := omega) only [go_sem, reduceIte, Nat.reduceEqDiff, Nat.reduceAdd, Nat.reduceLeDiff, Nat.reduceLT, Nat.reduceSub, Int.reduceLT, Int.reduceLE, Int.reduceEq, Int.reduceToNat, Option.map_some, List.length_map, List.getElem?_map, Int.toNat_natCast, h0, h1, h2, h7, h9, backD]
      refine condD_dec (fun h3 => ?_) (fun h3 => ?_)
      · simp (maxSteps := 1000000) (disch := omega) only [go_sem, reduceIte, Nat.reduceEqDiff, Nat.reduceAdd, Nat.reduceLeDiff, Nat.reduceLT, Nat.reduceSub, Int.reduceLT, Int.reduceLE, Int.reduceEq, Int.reduceToNat, Option.map_some, List.length_map, List.getElem?_map, Int.toNat_natCast, h1, h3]; exact .refl _
      · have h4 : 1099511627776 ≤ u := by
          simp only [isTime, Bool.and_eq_false_iff, decide_eq_false_iff_not] at hu; omega
        simp (maxSteps := 1000000) (disch := omega) only [go_sem, reduceIte, Nat.reduceEqDiff, Nat.reduceAdd, Nat.reduceLeDiff, Nat.reduceLT, Nat.reduceSub, Int.reduceLT, Int.reduceLE, Int.reduceEq, Int.reduceToNat, Option.map_some, List.length_map, List.getElem?_map, Int.toNat_natCast, h1, h3, h4]
        exact .refl _
end Go.V.Cu
