/-
  Types: the reference's small functions.
-/
import Derived.Test.YtjeeajcllokafaaDoorTy
namespace Go.V.Ty
open Go.Proofs Go.RowKit Go.V.Lx Go.V.Gr
set_option linter.unusedSimpArgs false
set_option linter.unusedVariables false
set_option maxRecDepth 100000

theorem letter_d (c : UInt8) : fnD Tryd.prog (orac Tryd.prog) [] Tryd.f81 [.int .u8 (c.toNat : Int)] (.bool (isLt c.toNat)) := by
  refine fn_intro _ [.tmp 2] _ rfl rfl rfl (by kernel_rfl) ?_
  repeat' (first | with_reducible refine condD_dec (fun _ => ?_) (fun _ => ?_) | with_reducible refine condD_split (fun _ => ?_) (fun _ => ?_) | simp (maxSteps := 1000000) (disch := omega) only [go_sem, *])
  all_goals
    refine weak_eq (congrArg D.bool ?_)
    rw [Bool.eq_iff_iff]
    simp [isLt, *] <;> omega
theorem letter_c (c : UInt8) : CallsTo Tryd.prog 81 [.int .u8 (c.toNat : Int)] (.bool (isLt c.toNat)) := fn_calls mixed (letter_d c) rfl (by kernel_rfl) rfl
theorem figure_d (c : UInt8) : fnD Tryd.prog (orac Tryd.prog) [] Tryd.f86 [.int .u8 (c.toNat : Int)] (.bool (isFg c.toNat)) := by
  refine fn_intro _ [.tmp 2] _ rfl rfl rfl (by kernel_rfl) ?_
  repeat' (first | with_reducible refine condD_dec (fun _ => ?_) (fun _ => ?_) | with_reducible refine condD_split (fun _ => ?_) (fun _ => ?_) | simp (maxSteps := 1000000) (disch := omega) only [go_sem, *])
  all_goals
    refine weak_eq (congrArg D.bool ?_)
    rw [Bool.eq_iff_iff]
    simp [isFg, *] <;> omega
theorem figure_c (c : UInt8) : CallsTo Tryd.prog 86 [.int .u8 (c.toNat : Int)] (.bool (isFg c.toNat)) := fn_calls mixed (figure_d c) rfl (by kernel_rfl) rfl
theorem part_d (c : UInt8) : fnD Tryd.prog (orac Tryd.prog) [] Tryd.f82 [.int .u8 (c.toNat : Int)] (.bool (isPart c)) := by
  refine fn_intro _ [.tmp 2] _ rfl rfl rfl (by kernel_rfl) ?_
  repeat' (first | with_reducible refine condD_dec (fun _ => ?_) (fun _ => ?_) | with_reducible refine condD_split (fun _ => ?_) (fun _ => ?_) | with_reducible refine pureO (letter_c c) (by simp [go_sem]) ?_ | with_reducible refine pureT (letter_c c) (by simp [go_sem]) ?_ | with_reducible refine pureO (figure_c c) (by simp [go_sem]) ?_ | with_reducible refine pureT (figure_c c) (by simp [go_sem]) ?_ | simp (maxSteps := 1000000) (disch := omega) only [go_sem, *])
  all_goals
    refine weak_eq (congrArg D.bool ?_)
    rw [Bool.eq_iff_iff]
    simp [isPart, *] <;> omega
theorem part_c (c : UInt8) : CallsTo Tryd.prog 82 [.int .u8 (c.toNat : Int)] (.bool (isPart c)) := fn_calls mixed (part_d c) rfl (by kernel_rfl) rfl
theorem nameR_d (s : List UInt8) (hs : s.length ≤ 140737488355328) : fnD Tryd.prog (orac Tryd.prog) [] Tryd.f66 [.str s] (.bool (nameB s)) := by
  refine fn_intro _ [.tmp 2] _ rfl rfl rfl (by kernel_rfl) ?_
  match s, hs with
  | [], hs =>
    repeat' (first | with_reducible refine condD_dec (fun _ => ?_) (fun _ => ?_) | with_reducible refine condD_split (fun _ => ?_) (fun _ => ?_) | simp (maxSteps := 1000000) (disch := omega) only [go_sem, *])
    all_goals exact weak_eq (by simp_all [nameB])
  | c :: r, hs =>
    have hx : (c :: r)[0]? = some c := rfl
    have hl : (c :: r).length = r.length + 1 := rfl
    by_cases h32 : 32 < (((c :: r).length : Nat) : Int)
    · have hb : nameB (c :: r) = false := by
        have : ¬ (c :: r).length ≤ 32 := by omega
        simp only [nameB, this, decide_false, Bool.false_and]
      have h1 : ¬ (((c :: r).length : Nat) : Int) < 1 := by omega
      generalize hz : c :: r = z at *
      rw [hb]
      have h1' : decide (((z.length : Nat) : Int) < 1) = false := by simp; omega
      have h32' : decide (32 < ((z.length : Nat) : Int)) = true := by simp; omega
      simp (maxSteps := 1000000) (disch := omega) only [go_sem, h1', h32']
      exact weak_eq rfl
    · have h1 : ¬ (((c :: r).length : Nat) : Int) < 1 := by omega
      have hlt := letter_c c
      by_cases hc : isLt c.toNat = true
      · rw [hc] at hlt
        have hnb : nameB (c :: r) = (c :: r).all isPart := by
          have : (c :: r).length ≤ 32 := by omega
          simp only [nameB, this, decide_true, hc, Bool.true_and]
        rw [hnb]
        clear hnb
        generalize hz : c :: r = z at *
        have h1' : decide (((z.length : Nat) : Int) < 1) = false := by simp; omega
        have h32' : decide (32 < ((z.length : Nat) : Int)) = false := by simp; omega
        simp (maxSteps := 1000000) (disch := omega) only [go_sem, h1', h32', hx]
        refine call_pure hlt (by simp [go_sem]) ?_
        simp (maxSteps := 1000000) (disch := omega) only [go_sem, h1', h32', hx]
        refine cD_for z.length (fun k σ _ => σ 0 = .str z ∧ σ 3 = .int .i64 k ∧ (z.take k).all isPart = true)
          ⟨by simp [go_sem, argsF], by simp [go_sem], by simp⟩ ?_ ?_
        · rintro k σ bx hk ⟨h0, h3, hb⟩
          obtain ⟨x, hx⟩ := get_lt hk
          simp (maxSteps := 1000000) (disch := omega) only [go_sem, h0, h3]
          refine condD_yes (by omega) ?_
          simp (maxSteps := 1000000) (disch := omega) only [go_sem, h0, h3, hx]
          refine call_pure (part_c x) (by simp [go_sem]) ?_
          simp (maxSteps := 1000000) (disch := omega) only [go_sem, h0, h3, hx]
          refine condD_split (fun hp => ?_) (fun hp => ?_)
          · simp (maxSteps := 1000000) (disch := omega) only [go_sem, h0, h3, hx]
            rw [wrap_succ (by omega)]
            exact ⟨rfl, take_all isPart hx hb hp⟩
          · simp (maxSteps := 1000000) (disch := omega) only [go_sem, h0, h3, hx]
            exact weak_eq (by rw [all_of isPart hx hp])
        · rintro σ bx ⟨h0, h3, hb⟩
          simp (maxSteps := 1000000) (disch := omega) only [go_sem, h0, h3]
          refine condD_no (by omega) ?_
          simp (maxSteps := 1000000) (disch := omega) only [go_sem, h0, h3]
          rw [List.take_length] at hb
          exact weak_eq (by rw [hb])
      · have hc : isLt c.toNat = false := by simpa using hc
        rw [hc] at hlt
        have hb : nameB (c :: r) = false := by simp only [nameB, hc, Bool.and_false, Bool.false_and]
        rw [hb]
        clear hb
        generalize hz : c :: r = z at *
        have h1' : decide (((z.length : Nat) : Int) < 1) = false := by simp; omega
        have h32' : decide (32 < ((z.length : Nat) : Int)) = false := by simp; omega
        simp (maxSteps := 1000000) (disch := omega) only [go_sem, h1', h32', hx]
        refine call_pure hlt (by simp [go_sem]) ?_
        simp (maxSteps := 1000000) (disch := omega) only [go_sem, h1', h32', hx]
        exact weak_eq rfl
theorem nameR_c (s : List UInt8) (hs : s.length ≤ 140737488355328) : CallsTo Tryd.prog 66 [.str s] (.bool (nameB s)) := fn_calls mixed (nameR_d s hs) rfl (by kernel_rfl) rfl

theorem word_c (s : Str) : CallsTo Tryd.prog 67 [.str s] (.bool (words8.contains s)) := by
  refine fn_calls mixed (fn := Tryd.f67) (tab := []) ?_ rfl (by kernel_rfl) rfl
  refine fn_intro _ [.tmp 2] _ rfl rfl rfl (by kernel_rfl) ?_
  repeat' (first | with_reducible refine condD_dec (fun _ => ?_) (fun _ => ?_) | with_reducible refine condD_split (fun _ => ?_) (fun _ => ?_) | simp (maxSteps := 1000000) (disch := omega) only [go_sem, *])
  all_goals
    refine weak_eq (congrArg D.bool ?_)
    rw [Bool.eq_iff_iff, List.contains_iff_mem]
    simp [words8, wGrammar, wCategory, wStart, wWord, wIs, wGives, wCost, wRule, *]
theorem freeR_c (s : Str) (hs : s.length ≤ 140737488355328) : CallsTo Tryd.prog 48 [.str s] (.bool (freeB s)) := by
  refine fn_calls mixed (fn := Tryd.f48) (tab := []) ?_ rfl (by kernel_rfl) rfl
  refine fn_intro _ [.tmp 2] _ rfl rfl rfl (by kernel_rfl) ?_
  simp (maxSteps := 1000000) (disch := omega) only [go_sem]
  refine call_pure (nameR_c s hs) (by simp [go_sem]) ?_
  cases h : nameB s
  · simp (maxSteps := 1000000) (disch := omega) only [go_sem, h]
    exact weak_eq (by simp [freeB, h])
  · simp (maxSteps := 1000000) (disch := omega) only [go_sem, h]
    refine call_pure (word_c s) (by simp [go_sem]) ?_
    simp (maxSteps := 1000000) (disch := omega) only [go_sem, h]
    exact weak_eq (by simp [freeB, h])
def idxR (l : List Str) (t : Str) : Int := if l.contains t then (l.idxOf t : Int) else -1
theorem indexR_c (l : List Str) (t : Str) (hl : l.length ≤ 140737488355328) : CallsTo Tryd.prog 26 [strs l, .str t] (.int .i64 (idxR l t)) := by
  refine fn_calls mixed (fn := Tryd.f26) (tab := []) ?_ rfl (by kernel_rfl) rfl
  refine fn_intro _ [.tmp 4] _ rfl rfl rfl (by kernel_rfl) ?_
  simp (maxSteps := 1000000) (disch := omega) only [go_sem, strs]
  refine cD_for l.length (fun k σ bx => σ 0 = strs l ∧ σ 1 = .str t ∧ σ 5 = .int .i64 k ∧ ¬ t ∈ l.take k) ?_ ?_ ?_
  · simp [go_sem, argsF, strs]
  · rintro k σ bx hk ⟨h0, h1, h5, hn⟩
    obtain ⟨x, hx⟩ := get_lt hk
    have hlt : (k : Int) < (l.length : Int) := by omega
    have hk1 : IntKind.i64.wrap ((k : Int) + 1) = ((k + 1 : Nat) : Int) := wrap_succ (by omega)
    simp (maxSteps := 1000000) (disch := omega) only [go_sem, h0, h1, h5, hlt, strs, hx]
    refine condD_dec (fun h2 => ?_) (fun h2 => ?_)
    · simp (maxSteps := 1000000) (disch := omega) only [go_sem, h5]
      subst h2
      obtain ⟨g1, g2⟩ := idx_at l k _ hx hn
      exact weak_eq (by rw [idxR, if_pos (by simpa using g2), g1])
    · simp (maxSteps := 1000000) (disch := omega) only [go_sem, h0, h1, h5, hk1, strs]
      intro hm
      rw [List.take_add_one, hx] at hm
      simp at hm
      rcases hm with hm | hm
      · exact hn hm
      · exact h2 hm.symm
  · rintro σ bx ⟨h0, h1, h5, hn⟩
    have hlt : ¬ (l.length : Int) < (l.length : Int) := by omega
    simp (maxSteps := 1000000) (disch := omega) only [go_sem, h0, h1, h5, hlt, strs]
    rw [List.take_length] at hn
    exact weak_eq (by rw [idxR, if_neg (by simpa using hn)])
theorem idxR_ge (l : List Str) (t : Str) : decide (0 ≤ idxR l t) = l.contains t := by
  unfold idxR; split
  · rename_i h; rw [h]; simp
  · rename_i h; simp at h; simp [h]
theorem catR_c (g : Gram) (s : Str) (hg : g.cats.length ≤ 140737488355328) : CallsTo Tryd.prog 49 [g.d, .str s] (.bool (g.cats.contains s)) := by
  refine fn_calls mixed (fn := Tryd.f49) (tab := []) ?_ rfl (by kernel_rfl) rfl
  refine fn_intro _ [.tmp 4] _ rfl rfl rfl (by kernel_rfl) ?_
  simp (maxSteps := 1000000) (disch := omega) only [go_sem, Gram.d, strs]
  refine call_pure (indexR_c g.cats s hg) (by simp [go_sem, strs, pureL_strs]) ?_
  simp (maxSteps := 1000000) (disch := omega) only [go_sem]
  exact weak_eq (by rw [idxR_ge])
theorem costR_c (n : Int) : CallsTo Tryd.prog 68 [.int .i64 n] (.bool (inB 0 1000 n)) := by
  refine fn_calls mixed (fn := Tryd.f68) (tab := []) ?_ rfl (by kernel_rfl) rfl
  refine fn_intro _ [.tmp 2] _ rfl rfl rfl (by kernel_rfl) ?_
  repeat' (first | with_reducible refine condD_dec (fun _ => ?_) (fun _ => ?_) | with_reducible refine condD_split (fun _ => ?_) (fun _ => ?_) | simp (maxSteps := 1000000) (disch := omega) only [go_sem, *])
  all_goals
    refine weak_eq (congrArg D.bool ?_)
    rw [Bool.eq_iff_iff]
    simp [inB, *] <;> omega
theorem chainR_c (x : Rule) (hx : x.parts.length ≤ 140737488355328) : CallsTo Tryd.prog 52 [x.d] (.bool (edge x).isSome) := by
  refine fn_calls mixed (fn := Tryd.f52) (tab := []) ?_ rfl (by kernel_rfl) rfl
  refine fn_intro _ [.tmp 2] _ rfl rfl rfl (by kernel_rfl) ?_
  simp (maxSteps := 1000000) (disch := omega) only [go_sem, Rule.d]
  by_cases h1 : (x.parts.length : Int) = 1
  · obtain ⟨q, hq⟩ := List.length_eq_one_iff.1 (show x.parts.length = 1 by omega)
    have hq0 : x.parts[0]? = some q := by rw [hq]; rfl
    have hqd : q.d = .agg [.str q.cat, .int .i64 q.no, .str q.text] := rfl
    simp (maxSteps := 1000000) (disch := omega) only [go_sem, h1, decide_true, hq0, hqd]
    exact weak_eq (by simp only [edge, hq]; by_cases ht : q.text = [] <;> simp [ht])
  · simp (maxSteps := 1000000) (disch := omega) only [go_sem, h1, decide_false]
    refine weak_eq (congrArg D.bool ?_)
    unfold edge; split
    · rename_i q hq; rw [hq] at h1; exact (h1 rfl).elim
    · rfl
def partR (g : Gram) (x : Part) : Bool := if x.text = [] then g.cats.contains x.cat else decide (x.cat = []) && freeB x.text
theorem partR_eq (g : Gram) (x : Part) : partR g x = partB g.cats.contains x := by
  unfold partR partB
  by_cases h : x.text = [] <;> simp [h]
theorem partR_c (g : Gram) (x : Part) (hg : g.cats.length ≤ 140737488355328) (hx : SmP x) : CallsTo Tryd.prog 69 [g.d, x.d] (.bool (partR g x)) := by
  refine fn_calls mixed (fn := Tryd.f69) (tab := []) ?_ rfl (by kernel_rfl) rfl
  refine fn_intro _ [.tmp 4] _ rfl rfl rfl (by kernel_rfl) ?_
  simp (maxSteps := 1000000) (disch := omega) only [go_sem, Gram.d, strs, Part.d]
  refine condD_dec (fun h => ?_) (fun h => ?_)
  · simp (maxSteps := 1000000) (disch := omega) only [go_sem, h, Gram.d, strs, Part.d]
    refine call_pure (catR_c g x.cat hg) (show D.pureL [g.d, .str x.cat] = true by simp [D.pureL, D.pure, pure_gram]) ?_
    simp (maxSteps := 1000000) (disch := omega) only [go_sem]
    exact weak_eq (by simp [partR, h])
  · simp (maxSteps := 1000000) (disch := omega) only [go_sem, h, Part.d]
    refine condD_dec (fun h2 => ?_) (fun h2 => ?_)
    · simp (maxSteps := 1000000) (disch := omega) only [go_sem, h, h2, decide_true, Part.d]
      refine call_pure (freeR_c x.text hx.text) (by simp [go_sem]) ?_
      simp (maxSteps := 1000000) (disch := omega) only [go_sem, h2, decide_true]
      exact weak_eq (by simp [partR, h, h2])
    · simp (maxSteps := 1000000) (disch := omega) only [go_sem, h2, decide_false]
      exact weak_eq (by simp [partR, h, h2])
end Go.V.Ty
