/-
  Types: the reference's equality and smallness.
-/
import Derived.Test.YtgcbdhnkigmfpaaGreatDoorTi
namespace Go.V.Ty
open Go.Proofs Go.RowKit Go.V.Lx Go.V.Gr
set_option linter.unusedSimpArgs false
set_option linter.unusedVariables false
set_option maxRecDepth 100000

theorem take_ne {α : Type} {l m : List α} {k : Nat} {x y : α} (hx : l[k]? = some x) (hy : m[k]? = some y) (h : ¬ x = y) : ¬ l = m := fun e => by
  rw [e, hy] at hx
  exact h (Option.some.inj hx).symm
theorem equalR_d (l m : List Str) (hl : l.length ≤ 140737488355328) (hm : m.length ≤ 140737488355328) : fnD Tryz.prog (orac Tryz.prog) [] Tryz.f25 [strs l, strs m] (.bool (decide (l = m))) := by
  refine fn_intro _ [.tmp 4] _ rfl rfl rfl (by kernel_rfl) ?_
  simp (maxSteps := 1000000) (disch := omega) only [go_sem, strs]
  refine condD_dec (fun h1 => ?_) (fun h1 => ?_)
  · have h1 : l.length = m.length := by omega
    simp (maxSteps := 1000000) (disch := omega) only [go_sem]
    refine cD_for l.length (fun k σ bx => σ 0 = strs l ∧ σ 1 = strs m ∧ σ 5 = .int .i64 k ∧ l.take k = m.take k) ?_ ?_ ?_
    · simp [go_sem, argsF, strs]
    · rintro k σ bx hk ⟨h0, h1', h8, hn⟩
      obtain ⟨x, hx⟩ := get_lt hk
      obtain ⟨y, hy⟩ := get_lt (show k < m.length by omega)
      have hlt : (k : Int) < (l.length : Int) := by omega
      have hlt2 : (k : Int) < (m.length : Int) := by omega
      repeat' (first | with_reducible refine condD_dec (fun _ => ?_) (fun _ => ?_) | with_reducible refine condD_split (fun _ => ?_) (fun _ => ?_) | simp (maxSteps := 1000000) (disch := omega) only [go_sem, *, h0, h1', h8, hlt, hlt2, strs, hx, hy])
      · rename_i hxy
        rw [wrap_succ (by omega)]
        exact ⟨rfl, take_eq hx hy hn hxy⟩
      · rename_i hxy
        exact weak_eq (congrArg D.bool (decide_eq_false (take_ne hx hy hxy)).symm)
    · rintro σ bx ⟨h0, h1', h8, hn⟩
      have hlt : ¬ (l.length : Int) < (l.length : Int) := by omega
      simp (maxSteps := 1000000) (disch := omega) only [go_sem, h0, h1', h8, hlt, strs]
      rw [List.take_length, h1, List.take_length] at hn
      exact weak_eq (congrArg D.bool (decide_eq_true hn).symm)
  · have : ¬ l = m := fun e => h1 (by rw [e])
    exact weak_eq (congrArg D.bool (decide_eq_false this).symm)
theorem equalR_c (l m : List Str) (hl : l.length ≤ 140737488355328) (hm : m.length ≤ 140737488355328) : CallsTo Tryz.prog 25 [strs l, strs m] (.bool (decide (l = m))) := fn_calls mixed (equalR_d l m hl hm) rfl (by kernel_rfl) rfl
theorem sameER_d (x y : Entry) (hx : x.gives.length ≤ 140737488355328) (hy : y.gives.length ≤ 140737488355328) : fnD Tryz.prog (orac Tryz.prog) [] Tryz.f26 [x.d, y.d] (.bool (decide (x = y))) := by
  refine fn_intro _ [.tmp 4] _ rfl rfl rfl (by kernel_rfl) ?_
  have hq := equalR_c x.gives y.gives hx hy
  simp only [strs] at hq
  obtain ⟨a, b, c, d, e⟩ := x
  obtain ⟨a', b', c', d', e'⟩ := y
  simp only at hq hx hy
  repeat' (first | with_reducible refine condD_dec (fun _ => ?_) (fun _ => ?_) | with_reducible refine condD_split (fun _ => ?_) (fun _ => ?_) | with_reducible refine pureO (hq) (by simp [go_sem]) ?_ | with_reducible refine pureT (hq) (by simp [go_sem]) ?_ | simp (maxSteps := 1000000) (disch := omega) only [go_sem, *, Entry.d, strs])
  all_goals (refine weak_eq (congrArg D.bool ?_); simp [*]; done)
theorem sameER_c (x y : Entry) (hx : x.gives.length ≤ 140737488355328) (hy : y.gives.length ≤ 140737488355328) : CallsTo Tryz.prog 26 [x.d, y.d] (.bool (decide (x = y))) := fn_calls mixed (sameER_d x y hx hy) rfl (by kernel_rfl) rfl
theorem sameRR_d (x y : Rule) (hx : x.parts.length ≤ 140737488355328 ∧ x.gives.length ≤ 140737488355328) (hy : y.parts.length ≤ 140737488355328 ∧ y.gives.length ≤ 140737488355328) : fnD Tryz.prog (orac Tryz.prog) [] Tryz.f27 [x.d, y.d] (.bool (decide (x = y))) := by
  refine fn_intro _ [.tmp 4] _ rfl rfl rfl (by kernel_rfl) ?_
  obtain ⟨a, b, c, d, e⟩ := x
  obtain ⟨a', b', c', d', e'⟩ := y
  simp only at hx hy
  repeat' (first | with_reducible refine condD_dec (fun _ => ?_) (fun _ => ?_) | with_reducible refine condD_split (fun _ => ?_) (fun _ => ?_) | simp (maxSteps := 1000000) (disch := omega) only [go_sem, *, Rule.d])
  case refine_1.refine_1.refine_1.refine_1.refine_1 =>
    rename_i e1 e2 e3 e4 e5
    have e4 : c.length = c'.length := by omega
    have e5 : d.length = d'.length := by omega
    refine cD_for c.length (fun k σ bx => σ 2 = .loc 2 1 0 0 ∧ σ 3 = .loc 3 1 0 0 ∧ σ 5 = .int .i64 k ∧ bx 2 = ⟨1, 1, 5, 42, [.agg [.str a, .int .i64 b, .sl 3 (c.map Part.d), .sl 2 (d.map Give.d), .int .i64 e]]⟩ ∧ bx 3 = ⟨1, 1, 5, 42, [.agg [.str a', .int .i64 b', .sl 3 (c'.map Part.d), .sl 2 (d'.map Give.d), .int .i64 e']]⟩ ∧ c.take k = c'.take k) ?_ ?_ ?_
    · simp [go_sem, argsF, upd, Bx.none]
    · rintro k σ bx hk ⟨h2, h3, h5, b2, b3, hn⟩
      obtain ⟨x, hx⟩ := get_lt hk
      obtain ⟨y, hy⟩ := get_lt (show k < c'.length by omega)
      have hlt : (k : Int) < (c.length : Int) := by omega
      have hlt2 : (k : Int) < (c'.length : Int) := by omega
      obtain ⟨x1, x2, x3⟩ := x
      obtain ⟨y1, y2, y3⟩ := y
      repeat' (first | with_reducible refine condD_dec (fun _ => ?_) (fun _ => ?_) | with_reducible refine condD_split (fun _ => ?_) (fun _ => ?_) | simp (maxSteps := 1000000) (disch := omega) only [go_sem, *, h2, h3, h5, b2, b3, hlt, hx, hy, Part.d])
      · rename_i hxy
        rw [wrap_succ (by omega)]
        exact ⟨rfl, take_eq hx hy hn (by simpa using hxy)⟩
      · rename_i hxy
        refine weak_eq (congrArg D.bool (decide_eq_false fun e => take_ne hx hy (fun h => ?_) (by injection e)).symm)
        injection h
        subst_vars
        simp at hxy
    · rintro σ bx ⟨h2, h3, h5, b2, b3, hn⟩
      have hlt : ¬ (c.length : Int) < (c.length : Int) := by omega
      rw [List.take_length, e4, List.take_length] at hn
      simp (maxSteps := 1000000) (disch := omega) only [go_sem, h2, h3, h5, b2, b3, hlt]
      refine cD_for d.length (fun k σ bx => σ 2 = .loc 2 1 0 0 ∧ σ 3 = .loc 3 1 0 0 ∧ σ 6 = .int .i64 k ∧ bx 2 = ⟨1, 1, 5, 42, [.agg [.str a, .int .i64 b, .sl 3 (c.map Part.d), .sl 2 (d.map Give.d), .int .i64 e]]⟩ ∧ bx 3 = ⟨1, 1, 5, 42, [.agg [.str a', .int .i64 b', .sl 3 (c'.map Part.d), .sl 2 (d'.map Give.d), .int .i64 e']]⟩ ∧ d.take k = d'.take k) ?_ ?_ ?_
      · simp [go_sem, argsF, upd, Bx.none, h2, h3, b2, b3]
      · rintro k σ bx hk ⟨h2, h3, h5, b2, b3, hn'⟩
        obtain ⟨x, hx⟩ := get_lt hk
        obtain ⟨y, hy⟩ := get_lt (show k < d'.length by omega)
        have hlt : (k : Int) < (d.length : Int) := by omega
        have hlt2 : (k : Int) < (d'.length : Int) := by omega
        obtain ⟨x1, x2⟩ := x
        obtain ⟨y1, y2⟩ := y
        repeat' (first | with_reducible refine condD_dec (fun _ => ?_) (fun _ => ?_) | with_reducible refine condD_split (fun _ => ?_) (fun _ => ?_) | simp (maxSteps := 1000000) (disch := omega) only [go_sem, *, h2, h3, h5, b2, b3, hlt, hx, hy, Give.d])
        · rename_i hxy
          rw [wrap_succ (by omega)]
          exact ⟨rfl, take_eq hx hy hn' (by simpa using hxy)⟩
        · rename_i hxy
          refine weak_eq (congrArg D.bool (decide_eq_false fun e => take_ne hx hy (fun h => ?_) (by injection e)).symm)
          injection h
          subst_vars
          simp at hxy
      · rintro σ bx ⟨h2, h3, h5, b2, b3, hn'⟩
        have hlt : ¬ (d.length : Int) < (d.length : Int) := by omega
        rw [List.take_length, e5, List.take_length] at hn'
        simp (maxSteps := 1000000) (disch := omega) only [go_sem, h2, h3, h5, b2, b3, hlt]
        exact weak_eq (congrArg D.bool (decide_eq_true (by rw [e1, e2, e3, hn, hn'])).symm)
  all_goals
    refine weak_eq (congrArg D.bool (decide_eq_false ?_).symm)
    intro e
    injection e
    simp_all
theorem sameRR_c (x y : Rule) (hx : x.parts.length ≤ 140737488355328 ∧ x.gives.length ≤ 140737488355328) (hy : y.parts.length ≤ 140737488355328 ∧ y.gives.length ≤ 140737488355328) : CallsTo Tryz.prog 27 [x.d, y.d] (.bool (decide (x = y))) := fn_calls mixed (sameRR_d x y hx hy) rfl (by kernel_rfl) rfl
set_option maxHeartbeats 4000000 in
theorem sameG_d (x y : Gram) (hx : Sz x) (hy : Sz y) : fnD Tryz.prog (orac Tryz.prog) [] Tryz.f10 [x.d, y.d] (.bool (decide (x = y))) := by
  refine fn_intro _ [.tmp 4] _ rfl rfl rfl (by kernel_rfl) ?_
  have hq := equalR_c x.cats y.cats hx.cats hy.cats
  simp only [strs] at hq
  obtain ⟨a, b, c, d, e, f⟩ := x
  obtain ⟨a', b', c', d', e', f'⟩ := y
  obtain ⟨u1, u2, u3, u4, u5⟩ := hx
  obtain ⟨v1, v2, v3, v4, v5⟩ := hy
  simp only at hq u1 u2 u3 u4 u5 v1 v2 v3 v4 v5
  repeat' (first | with_reducible refine condD_dec (fun _ => ?_) (fun _ => ?_) | with_reducible refine condD_split (fun _ => ?_) (fun _ => ?_) | with_reducible refine pureO (hq) (by simp [go_sem]) ?_ | with_reducible refine pureT (hq) (by simp [go_sem]) ?_ | simp (maxSteps := 1000000) (disch := omega) only [go_sem, *, Gram.d, strs])
  case refine_1.refine_1.refine_1.refine_1.refine_1.refine_1 =>
    rename_i e1 e2 e3 e4 e5 e6
    have e5 : e.length = e'.length := by omega
    have e6 : f.length = f'.length := by omega
    refine cD_for e.length (fun k σ bx => σ 2 = .loc 2 1 0 0 ∧ σ 3 = .loc 3 1 0 0 ∧ σ 5 = .int .i64 k ∧ bx 2 = ⟨1, 1, 6, 26, [.agg [.str a, .sl 1 (b.map D.str), .str c, .int .i64 d, .sl 5 (e.map Entry.d), .sl 5 (f.map Rule.d)]]⟩ ∧ bx 3 = ⟨1, 1, 6, 26, [.agg [.str a', .sl 1 (b'.map D.str), .str c', .int .i64 d', .sl 5 (e'.map Entry.d), .sl 5 (f'.map Rule.d)]]⟩ ∧ e.take k = e'.take k) ?_ ?_ ?_
    · simp [go_sem, argsF, upd, Bx.none]
    · rintro k σ bx hk ⟨h2, h3, h5, b2, b3, hn⟩
      obtain ⟨x, hx⟩ := get_lt hk
      obtain ⟨y, hy⟩ := get_lt (show k < e'.length by omega)
      have hlt : (k : Int) < (e.length : Int) := by omega
      have hc := sameER_c x y (u4 x (List.mem_of_getElem? hx)) (v4 y (List.mem_of_getElem? hy))
      have hxd : x.d = .agg [.str x.text, .str x.cat, .int .i64 x.no, strs x.gives, .int .i64 x.cost] := rfl
      have hyd : y.d = .agg [.str y.text, .str y.cat, .int .i64 y.no, strs y.gives, .int .i64 y.cost] := rfl
      rw [hxd, hyd] at hc
      simp only [strs] at hxd hyd hc
      simp (maxSteps := 1000000) (disch := omega) only [go_sem, h2, h3, h5, b2, b3, hlt, hx, hy, hxd, hyd]
      refine call_pure hc (by simp [go_sem]) ?_
      simp (maxSteps := 1000000) (disch := omega) only [go_sem, h2, h3, h5, b2, b3]
      refine condD_dec (fun hv => ?_) (fun hv => ?_)
      · simp (maxSteps := 1000000) (disch := omega) only [go_sem, h2, h3, h5, b2, b3]
        rw [wrap_succ (by omega)]
        exact ⟨rfl, take_eq hx hy hn hv⟩
      · simp (maxSteps := 1000000) (disch := omega) only [go_sem, h2, h3, h5, b2, b3]
        exact weak_eq (congrArg D.bool (decide_eq_false fun e => take_ne hx hy hv (by injection e)).symm)
    · rintro σ bx ⟨h2, h3, h5, b2, b3, hn⟩
      have hlt : ¬ (e.length : Int) < (e.length : Int) := by omega
      rw [List.take_length, e5, List.take_length] at hn
      simp (maxSteps := 1000000) (disch := omega) only [go_sem, h2, h3, h5, b2, b3, hlt]
      refine cD_for f.length (fun k σ bx => σ 2 = .loc 2 1 0 0 ∧ σ 3 = .loc 3 1 0 0 ∧ σ 6 = .int .i64 k ∧ bx 2 = ⟨1, 1, 6, 26, [.agg [.str a, .sl 1 (b.map D.str), .str c, .int .i64 d, .sl 5 (e.map Entry.d), .sl 5 (f.map Rule.d)]]⟩ ∧ bx 3 = ⟨1, 1, 6, 26, [.agg [.str a', .sl 1 (b'.map D.str), .str c', .int .i64 d', .sl 5 (e'.map Entry.d), .sl 5 (f'.map Rule.d)]]⟩ ∧ f.take k = f'.take k) ?_ ?_ ?_
      · simp [go_sem, argsF, upd, Bx.none, h2, h3, b2, b3]
      · rintro k σ bx hk ⟨h2, h3, h5, b2, b3, hn'⟩
        obtain ⟨x, hx⟩ := get_lt hk
        obtain ⟨y, hy⟩ := get_lt (show k < f'.length by omega)
        have hlt : (k : Int) < (f.length : Int) := by omega
        have hc := sameRR_c x y (u5 x (List.mem_of_getElem? hx)) (v5 y (List.mem_of_getElem? hy))
        have hxd : x.d = .agg [.str x.cat, .int .i64 x.no, .sl 3 (x.parts.map Part.d), .sl 2 (x.gives.map Give.d), .int .i64 x.cost] := rfl
        have hyd : y.d = .agg [.str y.cat, .int .i64 y.no, .sl 3 (y.parts.map Part.d), .sl 2 (y.gives.map Give.d), .int .i64 y.cost] := rfl
        rw [hxd, hyd] at hc
        simp (maxSteps := 1000000) (disch := omega) only [go_sem, h2, h3, h5, b2, b3, hlt, hx, hy, hxd, hyd]
        refine call_pure hc (by simp [D.pureL, D.pure, pure_part, pure_give]) ?_
        simp (maxSteps := 1000000) (disch := omega) only [go_sem, h2, h3, h5, b2, b3]
        refine condD_dec (fun hv => ?_) (fun hv => ?_)
        · simp (maxSteps := 1000000) (disch := omega) only [go_sem, h2, h3, h5, b2, b3]
          rw [wrap_succ (by omega)]
          exact ⟨rfl, take_eq hx hy hn' hv⟩
        · simp (maxSteps := 1000000) (disch := omega) only [go_sem, h2, h3, h5, b2, b3]
          exact weak_eq (congrArg D.bool (decide_eq_false fun e => take_ne hx hy hv (by injection e)).symm)
      · rintro σ bx ⟨h2, h3, h5, b2, b3, hn'⟩
        have hlt : ¬ (f.length : Int) < (f.length : Int) := by omega
        rw [List.take_length, e6, List.take_length] at hn'
        simp (maxSteps := 1000000) (disch := omega) only [go_sem, h2, h3, h5, b2, b3, hlt]
        exact weak_eq (congrArg D.bool (decide_eq_true (by rw [e1, e2, e3, e4, hn, hn'])).symm)
  all_goals
    refine weak_eq (congrArg D.bool (decide_eq_false ?_).symm)
    intro e
    injection e
    simp_all
theorem sameG_c (x y : Gram) (hx : Sz x) (hy : Sz y) : CallsTo Tryz.prog 10 [x.d, y.d] (.bool (decide (x = y))) := fn_calls mixed (sameG_d x y hx hy) rfl (by kernel_rfl) rfl
def fewE (x : Entry) : Bool := decide (x.gives.length ≤ 10)
def fewR (x : Rule) : Bool := decide (x.parts.length ≤ 10) && decide (x.gives.length ≤ 20)
def Big (g : Gram) : Prop := 40 < g.cats.length ∨ (40 < g.entries.length ∧ g.entries.length ≤ 512) ∨ 600 < g.entries.length ∨ (20 < g.rules.length ∧ g.rules.length ≤ 128) ∨ 200 < g.rules.length
instance (g : Gram) : Decidable (Big g) := by unfold Big; infer_instance
def fewG (g : Gram) : Bool := !decide (Big g) && (g.entries.all fewE && g.rules.all fewR)
set_option maxHeartbeats 4000000 in
theorem few_d (g : Gram) : fnD Tryz.prog (orac Tryz.prog) [] Tryz.f5 [g.d] (.bool (fewG g)) := by
  refine fn_intro _ [.tmp 2] _ rfl rfl rfl (by kernel_rfl) ?_
  have hgd : g.d = .agg [.str g.name, strs g.cats, .str g.start, .int .i64 g.no, .sl 5 (g.entries.map Entry.d), .sl 5 (g.rules.map Rule.d)] := rfl
  rw [hgd]
  by_cases hbig : Big g
  · have hf : fewG g = false := by unfold fewG; rw [decide_eq_true hbig]; rfl
    rw [hf]
    unfold Big at hbig
    repeat' (first | with_reducible refine condD_dec (fun _ => ?_) (fun _ => ?_) | with_reducible refine condD_split (fun _ => ?_) (fun _ => ?_) | simp (maxSteps := 1000000) (disch := omega) only [go_sem, *, strs])
    all_goals first
      | exact .refl _
      | (exfalso; omega)
  · have hf : fewG g = (g.entries.all fewE && g.rules.all fewR) := by unfold fewG; rw [decide_eq_false hbig]; rfl
    rw [hf]
    unfold Big at hbig
    repeat' (first | with_reducible refine condD_dec (fun _ => ?_) (fun _ => ?_) | with_reducible refine condD_split (fun _ => ?_) (fun _ => ?_) | simp (maxSteps := 1000000) (disch := omega) only [go_sem, *, strs])
    all_goals first
      | (exfalso; omega)
      | skip
    all_goals
      refine cD_for g.entries.length (fun k σ bx => σ 1 = .loc 1 1 0 0 ∧ σ 3 = .int .i64 k ∧ bx 1 = ⟨1, 1, 6, 26, [.agg [.str g.name, .sl 1 (g.cats.map D.str), .str g.start, .int .i64 g.no, .sl 5 (g.entries.map Entry.d), .sl 5 (g.rules.map Rule.d)]]⟩ ∧ (g.entries.take k).all fewE = true) ?_ ?_ ?_
      · simp [go_sem, argsF, upd, Bx.none]
      · rintro k σ bx hk ⟨h1, h3, b1, hn⟩
        obtain ⟨x, hx⟩ := get_lt hk
        have hlt : (k : Int) < (g.entries.length : Int) := by omega
        have hxd : x.d = .agg [.str x.text, .str x.cat, .int .i64 x.no, .sl 1 (x.gives.map D.str), .int .i64 x.cost] := rfl
        simp (maxSteps := 1000000) (disch := omega) only [go_sem, h1, h3, b1, hlt, hx, hxd]
        refine condD_dec (fun hv => ?_) (fun hv => ?_)
        · simp (maxSteps := 1000000) (disch := omega) only [go_sem, h1, h3, b1]
          rw [all_of fewE hx (by simp [fewE]; omega)]
          exact .refl _
        · simp (maxSteps := 1000000) (disch := omega) only [go_sem, h1, h3, b1]
          rw [wrap_succ (by omega)]
          exact ⟨rfl, take_all fewE hx hn (by simp [fewE]; omega)⟩
      · rintro σ bx ⟨h1, h3, b1, hn⟩
        have hlt : ¬ (g.entries.length : Int) < (g.entries.length : Int) := by omega
        rw [List.take_length] at hn
        rw [hn, Bool.true_and]
        simp (maxSteps := 1000000) (disch := omega) only [go_sem, h1, h3, b1, hlt]
        refine cD_for g.rules.length (fun k σ bx => σ 1 = .loc 1 1 0 0 ∧ σ 4 = .int .i64 k ∧ bx 1 = ⟨1, 1, 6, 26, [.agg [.str g.name, .sl 1 (g.cats.map D.str), .str g.start, .int .i64 g.no, .sl 5 (g.entries.map Entry.d), .sl 5 (g.rules.map Rule.d)]]⟩ ∧ (g.rules.take k).all fewR = true) ?_ ?_ ?_
        · simp [go_sem, argsF, upd, Bx.none, h1, b1]
        · rintro k σ bx hk ⟨h1, h3, b1, hn⟩
          obtain ⟨x, hx⟩ := get_lt hk
          have hlt : (k : Int) < (g.rules.length : Int) := by omega
          have hxd : x.d = .agg [.str x.cat, .int .i64 x.no, .sl 3 (x.parts.map Part.d), .sl 2 (x.gives.map Give.d), .int .i64 x.cost] := rfl
          repeat' (first | with_reducible refine condD_dec (fun _ => ?_) (fun _ => ?_) | with_reducible refine condD_split (fun _ => ?_) (fun _ => ?_) | simp (maxSteps := 1000000) (disch := omega) only [go_sem, *, h1, h3, b1, hlt, hx, hxd])
          all_goals first
            | (rw [all_of fewR hx (by simp only [fewR, Bool.and_eq_false_iff, decide_eq_false_iff_not]; omega)]; exact .refl _)
            | (rw [wrap_succ (by omega)]; exact ⟨rfl, take_all fewR hx hn (by simp only [fewR, Bool.and_eq_true, decide_eq_true_eq]; omega)⟩)
        · rintro σ bx ⟨h1, h3, b1, hn⟩
          have hlt : ¬ (g.rules.length : Int) < (g.rules.length : Int) := by omega
          rw [List.take_length] at hn
          rw [hn]
          simp (maxSteps := 1000000) (disch := omega) only [go_sem, h1, h3, b1, hlt]
          exact .refl _
theorem few_c (g : Gram) (h : Sz g) (hn : g.name.length ≤ 140737488355328) (hs : g.start.length ≤ 140737488355328) : CallsTo Tryz.prog 5 [g.d] (.bool (fewG g)) := fn_calls mixed (few_d g) rfl (by kernel_rfl) rfl
end Go.V.Ty
