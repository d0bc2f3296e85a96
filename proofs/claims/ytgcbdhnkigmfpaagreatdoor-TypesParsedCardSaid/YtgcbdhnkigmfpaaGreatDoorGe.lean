/-
  Grammar: what is equal.
-/
import Derived.Test.YtgcbdhnkigmfpaaGreatDoorGs
namespace Go.V.Gr
open Go.Proofs Go.RowKit Go.V.Lx
set_option linter.unusedSimpArgs false
set_option linter.unusedVariables false
set_option maxRecDepth 100000

theorem equalS_d (l m : List Str) (hl : l.length ≤ 140737488355328) (hm : m.length ≤ 140737488355328) : fnD Tryz.prog (orac Tryz.prog) [] Tryz.f43 [strs l, strs m] (.bool (decide (l = m))) := by
  refine fn_intro _ [.tmp 4] _ rfl rfl rfl (by kernel_rfl) ?_
  simp (maxSteps := 1000000) (disch := omega) only [go_sem, strs]
  refine condD_dec (fun h1 => ?_) (fun h1 => ?_)
  · have h1 : l.length = m.length := by omega
    simp (maxSteps := 1000000) (disch := omega) only [go_sem]
    refine cD_for l.length (fun k σ bx => σ 0 = strs l ∧ σ 1 = strs m ∧ σ 12 = .int .i64 l.length ∧ σ 13 = .int .i64 k ∧ l.take k = m.take k) ?_ ?_ ?_
    · simp [go_sem, argsF, strs]
    · rintro k σ bx hk ⟨h0, h1', h7, h8, hn⟩
      obtain ⟨x, hx⟩ := get_lt hk
      obtain ⟨y, hy⟩ := get_lt (show k < m.length by omega)
      have hlt : (k : Int) < (l.length : Int) := by omega
      have hlt2 : (k : Int) < (m.length : Int) := by omega
      repeat' (first | with_reducible refine condD_dec (fun _ => ?_) (fun _ => ?_) | with_reducible refine condD_split (fun _ => ?_) (fun _ => ?_) | simp (maxSteps := 1000000) (disch := omega) only [go_sem, *, h0, h1', h7, h8, hlt, hlt2, strs, hx, hy])
      · rename_i hxy
        rw [wrap_succ (by omega)]
        exact ⟨rfl, take_eq hx hy hn hxy⟩
      · rename_i hxy
        refine weak_eq (congrArg D.bool ?_)
        refine (decide_eq_false fun e => hxy ?_).symm
        rw [e, hy] at hx
        exact (Option.some.inj hx).symm
    · rintro σ bx ⟨h0, h1', h7, h8, hn⟩
      have hlt : ¬ (l.length : Int) < (l.length : Int) := by omega
      simp (maxSteps := 1000000) (disch := omega) only [go_sem, h0, h1', h7, h8, hlt]
      rw [List.take_length, h1, List.take_length] at hn
      exact weak_eq (congrArg D.bool (decide_eq_true hn).symm)
  · have : ¬ l = m := fun e => h1 (by rw [e])
    exact weak_eq (congrArg D.bool (decide_eq_false this).symm)
theorem equalS_c (l m : List Str) (hl : l.length ≤ 140737488355328) (hm : m.length ≤ 140737488355328) : CallsTo Tryz.prog 43 [strs l, strs m] (.bool (decide (l = m))) := fn_calls mixed (equalS_d l m hl hm) rfl (by kernel_rfl) rfl
theorem sameE_d (x y : Entry) (hx : x.gives.length ≤ 140737488355328) (hy : y.gives.length ≤ 140737488355328) : fnD Tryz.prog (orac Tryz.prog) [] Tryz.f42 [x.d, y.d] (.bool (decide (x = y))) := by
  refine fn_intro _ [.tmp 4] _ rfl rfl rfl (by kernel_rfl) ?_
  have hq := equalS_c x.gives y.gives hx hy
  simp only [strs] at hq
  obtain ⟨a, b, c, d, e⟩ := x
  obtain ⟨a', b', c', d', e'⟩ := y
  simp only at hq hx hy
  repeat' (first | with_reducible refine condD_dec (fun _ => ?_) (fun _ => ?_) | with_reducible refine condD_split (fun _ => ?_) (fun _ => ?_) | with_reducible refine pureO (hq) (by simp [go_sem]) ?_ | with_reducible refine pureT (hq) (by simp [go_sem]) ?_ | simp (maxSteps := 1000000) (disch := omega) only [go_sem, *, Entry.d, strs])
  all_goals (refine weak_eq (congrArg D.bool ?_); simp [*]; done)
theorem sameE_c (x y : Entry) (hx : x.gives.length ≤ 140737488355328) (hy : y.gives.length ≤ 140737488355328) : CallsTo Tryz.prog 42 [x.d, y.d] (.bool (decide (x = y))) := fn_calls mixed (sameE_d x y hx hy) rfl (by kernel_rfl) rfl
theorem equalG_d (l m : List Give) (hl : l.length ≤ 140737488355328) (hm : m.length ≤ 140737488355328) : fnD Tryz.prog (orac Tryz.prog) [] Tryz.f45 [.sl 2 (l.map Give.d), .sl 2 (m.map Give.d)] (.bool (decide (l = m))) := by
  refine fn_intro _ [.tmp 4] _ rfl rfl rfl (by kernel_rfl) ?_
  simp (maxSteps := 1000000) (disch := omega) only [go_sem]
  refine condD_dec (fun h1 => ?_) (fun h1 => ?_)
  · have h1 : l.length = m.length := by omega
    simp (maxSteps := 1000000) (disch := omega) only [go_sem]
    refine cD_for l.length (fun k σ bx => σ 0 = .sl 2 (l.map Give.d) ∧ σ 1 = .sl 2 (m.map Give.d) ∧ σ 12 = .int .i64 l.length ∧ σ 13 = .int .i64 k ∧ l.take k = m.take k) ?_ ?_ ?_
    · simp [go_sem, argsF]
    · rintro k σ bx hk ⟨h0, h1', h7, h8, hn⟩
      obtain ⟨x, hx⟩ := get_lt hk
      obtain ⟨y, hy⟩ := get_lt (show k < m.length by omega)
      have hlt : (k : Int) < (l.length : Int) := by omega
      have hlt2 : (k : Int) < (m.length : Int) := by omega
      obtain ⟨a, b⟩ := x
      obtain ⟨a', b'⟩ := y
      repeat' (first | with_reducible refine condD_dec (fun _ => ?_) (fun _ => ?_) | with_reducible refine condD_split (fun _ => ?_) (fun _ => ?_) | simp (maxSteps := 1000000) (disch := omega) only [go_sem, *, h0, h1', h7, h8, hlt, hlt2, hx, hy, Give.d])
      all_goals first
        | (rename_i hxy; rw [wrap_succ (by omega)]; exact ⟨rfl, take_eq hx hy hn (by simpa using hxy)⟩)
        | (rename_i hxy
           refine weak_eq (congrArg D.bool ?_)
           refine (decide_eq_false fun e => ?_).symm
           rw [e, hy] at hx
           injection hx with hx
           injection hx
           subst_vars
           simp at hxy)
    · rintro σ bx ⟨h0, h1', h7, h8, hn⟩
      have hlt : ¬ (l.length : Int) < (l.length : Int) := by omega
      simp (maxSteps := 1000000) (disch := omega) only [go_sem, h0, h1', h7, h8, hlt]
      rw [List.take_length, h1, List.take_length] at hn
      exact weak_eq (congrArg D.bool (decide_eq_true hn).symm)
  · have : ¬ l = m := fun e => h1 (by rw [e])
    exact weak_eq (congrArg D.bool (decide_eq_false this).symm)
theorem equalG_c (l m : List Give) (hl : l.length ≤ 140737488355328) (hm : m.length ≤ 140737488355328) : CallsTo Tryz.prog 45 [.sl 2 (l.map Give.d), .sl 2 (m.map Give.d)] (.bool (decide (l = m))) := fn_calls mixed (equalG_d l m hl hm) rfl (by kernel_rfl) rfl
theorem sameR_d (x y : Rule) (hx : x.parts.length ≤ 140737488355328 ∧ x.gives.length ≤ 140737488355328) (hy : y.parts.length ≤ 140737488355328 ∧ y.gives.length ≤ 140737488355328) : fnD Tryz.prog (orac Tryz.prog) [] Tryz.f44 [x.d, y.d] (.bool (decide (x = y))) := by
  refine fn_intro _ [.tmp 4] _ rfl rfl rfl (by kernel_rfl) ?_
  have hq := equalP_c x.parts y.parts hx.1 hy.1
  have hq' := equalG_c x.gives y.gives hx.2 hy.2
  obtain ⟨a, b, c, d, e⟩ := x
  obtain ⟨a', b', c', d', e'⟩ := y
  simp only at hq hq' hx hy
  have p1 : ∀ l : List Part, D.pureL (l.map Part.d) = true := fun l => pureL_map _ _ fun _ => rfl
  have p2 : ∀ l : List Give, D.pureL (l.map Give.d) = true := fun l => pureL_map _ _ fun _ => rfl
  have p3 : ∀ (l : List Part) (m : List Part), D.pureL [.sl 3 (l.map Part.d), .sl 3 (m.map Part.d)] = true := fun l m => by simp [D.pureL, D.pure, p1]
  have p4 : ∀ (l : List Give) (m : List Give), D.pureL [.sl 2 (l.map Give.d), .sl 2 (m.map Give.d)] = true := fun l m => by simp [D.pureL, D.pure, p2]
  repeat' (first | with_reducible refine condD_dec (fun _ => ?_) (fun _ => ?_) | with_reducible refine condD_split (fun _ => ?_) (fun _ => ?_) | with_reducible refine pureO (hq) (by simp [go_sem]) ?_ | with_reducible refine pureT (hq) (by simp [go_sem]) ?_ | with_reducible refine pureO (hq') (by simp [go_sem]) ?_ | with_reducible refine pureT (hq') (by simp [go_sem]) ?_ | simp (maxSteps := 1000000) (disch := omega) only [go_sem, *, Rule.d, p3, p4])
  all_goals (refine weak_eq (congrArg D.bool ?_); simp [*]; done)
theorem sameR_c (x y : Rule) (hx : x.parts.length ≤ 140737488355328 ∧ x.gives.length ≤ 140737488355328) (hy : y.parts.length ≤ 140737488355328 ∧ y.gives.length ≤ 140737488355328) : CallsTo Tryz.prog 44 [x.d, y.d] (.bool (decide (x = y))) := fn_calls mixed (sameR_d x y hx hy) rfl (by kernel_rfl) rfl
theorem eqfE_d (a b : List Entry) (ha : a.length ≤ 140737488355328) (hb : b.length ≤ 140737488355328) (hs : ∀ x ∈ a, x.gives.length ≤ 140737488355328) (hs2 : ∀ x ∈ b, x.gives.length ≤ 140737488355328) : fnD Tryz.prog (orac Tryz.prog) [] Tryz.f28 [.sl 5 (a.map Entry.d), .sl 5 (b.map Entry.d), .fn (.func 42) []] (.bool (decide (a = b))) := by
  refine fn_intro _ [.tmp 6] _ rfl rfl rfl (by kernel_rfl) ?_
  simp (maxSteps := 1000000) (disch := omega) only [go_sem]
  refine condD_dec (fun he => ?_) (fun hn => ?_)
  · have he : a.length = b.length := by omega
    simp (maxSteps := 1000000) (disch := omega) only [go_sem]
    refine cD_for a.length (fun k σ _ => σ 0 = .sl 5 (a.map Entry.d) ∧ σ 1 = .sl 5 (b.map Entry.d) ∧ σ 2 = .fn (.func 42) [] ∧ σ 15 = .sl 5 (a.map Entry.d) ∧ σ 16 = .int .i64 a.length ∧ σ 17 = .int .i64 k ∧ a.take k = b.take k)
      ⟨by simp [go_sem, argsF], by simp [go_sem, argsF], by simp [go_sem, argsF], by simp [go_sem], by simp [go_sem], by simp [go_sem], by simp⟩ ?_ ?_
    · rintro k σ bx hk ⟨h0, h1, h2, h15, h16, h17, hs'⟩
      obtain ⟨x, hx⟩ := get_lt hk
      obtain ⟨y, hy⟩ := get_lt (l := b) (k := k) (by omega)
      have hlt : (k : Int) < (a.length : Int) := by omega
      have hxd : x.d = .agg [.str x.text, .str x.cat, .int .i64 x.no, strs x.gives, .int .i64 x.cost] := rfl
      have hyd : y.d = .agg [.str y.text, .str y.cat, .int .i64 y.no, strs y.gives, .int .i64 y.cost] := rfl
      have hc := sameE_c x y (hs x (List.mem_of_getElem? hx)) (hs2 y (List.mem_of_getElem? hy))
      have hpp : D.pureL [x.d, y.d] = true := by simp [D.pureL, D.pure, Entry.d, strs, pureL_strs, pureL_map _ _ (fun _ : Part => (rfl : D.pure (Part.d _) = true)), pureL_map _ _ (fun _ : Give => (rfl : D.pure (Give.d _) = true))]
      rw [hxd, hyd] at hc hpp
      simp only [strs] at hxd hyd hc hpp
      simp (maxSteps := 1000000) (disch := omega) only [go_sem, h0, h1, h2, h15, h16, h17, hlt, hx, hy, hxd, hyd]
      refine call_pure hc hpp ?_
      simp (maxSteps := 1000000) (disch := omega) only [go_sem, h0, h1, h2, h15, h16, h17, hx, hy, hxd, hyd]
      refine condD_dec (fun hv => ?_) (fun hv => ?_)
      · simp (maxSteps := 1000000) (disch := omega) only [go_sem, h0, h1, h2, h15, h16, h17]
        rw [wrap_succ (by omega)]
        exact ⟨rfl, take_eq hx hy hs' hv⟩
      · simp (maxSteps := 1000000) (disch := omega) only [go_sem, h0, h1, h2, h15, h16, h17]
        refine weak_eq (congrArg D.bool (decide_eq_false fun e => hv ?_).symm)
        rw [e, hy] at hx
        injection hx with hx
        exact hx.symm
    · rintro σ bx ⟨h0, h1, h2, h15, h16, h17, hs'⟩
      have hlt : ¬ (a.length : Int) < (a.length : Int) := by omega
      simp (maxSteps := 1000000) (disch := omega) only [go_sem, h0, h1, h2, h15, h16, h17, hlt]
      rw [List.take_length, he, List.take_length] at hs'
      exact weak_eq (congrArg D.bool (decide_eq_true hs').symm)
  · simp (maxSteps := 1000000) (disch := omega) only [go_sem]
    exact weak_eq (congrArg D.bool (decide_eq_false fun e => hn (by rw [e])).symm)
theorem eqfE_c (a b : List Entry) (ha : a.length ≤ 140737488355328) (hb : b.length ≤ 140737488355328) (hs : ∀ x ∈ a, x.gives.length ≤ 140737488355328) (hs2 : ∀ x ∈ b, x.gives.length ≤ 140737488355328) : CallsTo Tryz.prog 28 [.sl 5 (a.map Entry.d), .sl 5 (b.map Entry.d), .fn (.func 42) []] (.bool (decide (a = b))) := fn_calls mixed (eqfE_d a b ha hb hs hs2) rfl (by kernel_rfl) rfl
theorem eqfR_d (a b : List Rule) (ha : a.length ≤ 140737488355328) (hb : b.length ≤ 140737488355328) (hs : ∀ x ∈ a, x.parts.length ≤ 140737488355328 ∧ x.gives.length ≤ 140737488355328) (hs2 : ∀ x ∈ b, x.parts.length ≤ 140737488355328 ∧ x.gives.length ≤ 140737488355328) : fnD Tryz.prog (orac Tryz.prog) [] Tryz.f30 [.sl 5 (a.map Rule.d), .sl 5 (b.map Rule.d), .fn (.func 44) []] (.bool (decide (a = b))) := by
  refine fn_intro _ [.tmp 6] _ rfl rfl rfl (by kernel_rfl) ?_
  simp (maxSteps := 1000000) (disch := omega) only [go_sem]
  refine condD_dec (fun he => ?_) (fun hn => ?_)
  · have he : a.length = b.length := by omega
    simp (maxSteps := 1000000) (disch := omega) only [go_sem]
    refine cD_for a.length (fun k σ _ => σ 0 = .sl 5 (a.map Rule.d) ∧ σ 1 = .sl 5 (b.map Rule.d) ∧ σ 2 = .fn (.func 44) [] ∧ σ 15 = .sl 5 (a.map Rule.d) ∧ σ 16 = .int .i64 a.length ∧ σ 17 = .int .i64 k ∧ a.take k = b.take k)
      ⟨by simp [go_sem, argsF], by simp [go_sem, argsF], by simp [go_sem, argsF], by simp [go_sem], by simp [go_sem], by simp [go_sem], by simp⟩ ?_ ?_
    · rintro k σ bx hk ⟨h0, h1, h2, h15, h16, h17, hs'⟩
      obtain ⟨x, hx⟩ := get_lt hk
      obtain ⟨y, hy⟩ := get_lt (l := b) (k := k) (by omega)
      have hlt : (k : Int) < (a.length : Int) := by omega
      have hxd : x.d = .agg [.str x.cat, .int .i64 x.no, .sl 3 (x.parts.map Part.d), .sl 2 (x.gives.map Give.d), .int .i64 x.cost] := rfl
      have hyd : y.d = .agg [.str y.cat, .int .i64 y.no, .sl 3 (y.parts.map Part.d), .sl 2 (y.gives.map Give.d), .int .i64 y.cost] := rfl
      have hc := sameR_c x y (hs x (List.mem_of_getElem? hx)) (hs2 y (List.mem_of_getElem? hy))
      have hpp : D.pureL [x.d, y.d] = true := by simp [D.pureL, D.pure, Rule.d, strs, pureL_strs, pureL_map _ _ (fun _ : Part => (rfl : D.pure (Part.d _) = true)), pureL_map _ _ (fun _ : Give => (rfl : D.pure (Give.d _) = true))]
      rw [hxd, hyd] at hc hpp
      simp (maxSteps := 1000000) (disch := omega) only [go_sem, h0, h1, h2, h15, h16, h17, hlt, hx, hy, hxd, hyd]
      refine call_pure hc hpp ?_
      simp (maxSteps := 1000000) (disch := omega) only [go_sem, h0, h1, h2, h15, h16, h17, hx, hy, hxd, hyd]
      refine condD_dec (fun hv => ?_) (fun hv => ?_)
      · simp (maxSteps := 1000000) (disch := omega) only [go_sem, h0, h1, h2, h15, h16, h17]
        rw [wrap_succ (by omega)]
        exact ⟨rfl, take_eq hx hy hs' hv⟩
      · simp (maxSteps := 1000000) (disch := omega) only [go_sem, h0, h1, h2, h15, h16, h17]
        refine weak_eq (congrArg D.bool (decide_eq_false fun e => hv ?_).symm)
        rw [e, hy] at hx
        injection hx with hx
        exact hx.symm
    · rintro σ bx ⟨h0, h1, h2, h15, h16, h17, hs'⟩
      have hlt : ¬ (a.length : Int) < (a.length : Int) := by omega
      simp (maxSteps := 1000000) (disch := omega) only [go_sem, h0, h1, h2, h15, h16, h17, hlt]
      rw [List.take_length, he, List.take_length] at hs'
      exact weak_eq (congrArg D.bool (decide_eq_true hs').symm)
  · simp (maxSteps := 1000000) (disch := omega) only [go_sem]
    exact weak_eq (congrArg D.bool (decide_eq_false fun e => hn (by rw [e])).symm)
theorem eqfR_c (a b : List Rule) (ha : a.length ≤ 140737488355328) (hb : b.length ≤ 140737488355328) (hs : ∀ x ∈ a, x.parts.length ≤ 140737488355328 ∧ x.gives.length ≤ 140737488355328) (hs2 : ∀ x ∈ b, x.parts.length ≤ 140737488355328 ∧ x.gives.length ≤ 140737488355328) : CallsTo Tryz.prog 30 [.sl 5 (a.map Rule.d), .sl 5 (b.map Rule.d), .fn (.func 44) []] (.bool (decide (a = b))) := fn_calls mixed (eqfR_d a b ha hb hs hs2) rfl (by kernel_rfl) rfl
/-- no list is longer than a machine's memory -/
theorem same_d (x y : Gram) (hx : Sz x) (hy : Sz y) : fnD Tryz.prog (orac Tryz.prog) [] Tryz.f17 [x.d, y.d] (.bool (decide (x = y))) := by
  refine fn_intro _ [.tmp 4] _ rfl rfl rfl (by kernel_rfl) ?_
  have hq := equalS_c x.cats y.cats hx.cats hy.cats
  have hq1 := eqfE_c x.entries y.entries hx.ents hy.ents hx.ent hy.ent
  have hq2 := eqfR_c x.rules y.rules hx.ruls hy.ruls hx.rul hy.rul
  have p1 : D.pureL [.sl 5 (x.entries.map Entry.d), .sl 5 (y.entries.map Entry.d), .fn (.func 42) []] = true := by simp [D.pureL, D.pure, pure_ent]
  have p2 : D.pureL [.sl 5 (x.rules.map Rule.d), .sl 5 (y.rules.map Rule.d), .fn (.func 44) []] = true := by simp [D.pureL, D.pure, pure_rls]
  obtain ⟨a, b, c, d, e, f⟩ := x
  obtain ⟨a', b', c', d', e', f'⟩ := y
  simp only at hq hq1 hq2 hx hy p1 p2
  simp only [strs] at hq
  repeat' (first | with_reducible refine condD_dec (fun _ => ?_) (fun _ => ?_) | with_reducible refine condD_split (fun _ => ?_) (fun _ => ?_) | with_reducible refine pureO (hq) (by simp [go_sem]) ?_ | with_reducible refine pureT (hq) (by simp [go_sem]) ?_ | with_reducible refine pureO (hq1) (by simp [go_sem]) ?_ | with_reducible refine pureT (hq1) (by simp [go_sem]) ?_ | with_reducible refine pureO (hq2) (by simp [go_sem]) ?_ | with_reducible refine pureT (hq2) (by simp [go_sem]) ?_ | simp (maxSteps := 1000000) (disch := omega) only [go_sem, *, Gram.d, strs])
  all_goals (refine weak_eq (congrArg D.bool ?_); simp [*]; done)
theorem same_c (x y : Gram) (hx : Sz x) (hy : Sz y) : CallsTo Tryz.prog 17 [x.d, y.d] (.bool (decide (x = y))) := fn_calls mixed (same_d x y hx hy) rfl (by kernel_rfl) rfl
end Go.V.Gr
