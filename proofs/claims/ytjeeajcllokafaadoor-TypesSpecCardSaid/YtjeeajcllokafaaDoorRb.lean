/-
  Types: the reference's entry, give, given, rule.
-/
import Derived.Test.YtjeeajcllokafaaDoorRa
namespace Go.V.Ty
open Go.Proofs Go.RowKit Go.V.Lx Go.V.Gr
set_option linter.unusedSimpArgs false
set_option linter.unusedVariables false
set_option maxRecDepth 100000

def giveR (x : Rule) (y : Give) : Bool := if y.text = [] then decide (0 ≤ y.part ∧ y.part < x.parts.length) && (x.parts[y.part.toNat]?).any (fun q => decide (q.text = [])) else decide (y.part = 0) && freeB y.text
theorem giveR_c (x : Rule) (y : Give) (hy : small y.text) (hx : x.parts.length ≤ 140737488355328) : CallsTo Tryd.prog 70 [x.d, y.d] (.bool (giveR x y)) := by
  refine fn_calls mixed (fn := Tryd.f70) (tab := []) ?_ rfl (by kernel_rfl) rfl
  refine fn_intro _ [.tmp 4] _ rfl rfl rfl (by kernel_rfl) ?_
  simp (maxSteps := 1000000) (disch := omega) only [go_sem, Rule.d, Give.d]
  refine condD_dec (fun h => ?_) (fun h => ?_)
  · simp (maxSteps := 1000000) (disch := omega) only [go_sem]
    refine condD_dec (fun h1 => ?_) (fun h1 => ?_)
    rotate_left
    · simp (maxSteps := 1000000) (disch := omega) only [go_sem, h1, decide_false]
      exact weak_eq (by simp [giveR, h, h1])
    simp (maxSteps := 1000000) (disch := omega) only [go_sem, h1, decide_true]
    refine condD_dec (fun h2 => ?_) (fun h2 => ?_)
    rotate_left
    · simp (maxSteps := 1000000) (disch := omega) only [go_sem, h1, h2, decide_true, decide_false]
      exact weak_eq (by simp [giveR, h, h2])
    obtain ⟨k, hk⟩ : ∃ k : Nat, y.part = k := ⟨y.part.toNat, by omega⟩
    obtain ⟨q, hq⟩ := get_lt (show k < x.parts.length by omega)
    have hqd : q.d = .agg [.str q.cat, .int .i64 q.no, .str q.text] := rfl
    rw [hk] at h1 h2
    simp (maxSteps := 1000000) (disch := omega) only [go_sem, hk, h1, h2, decide_true, hq, hqd]
    exact weak_eq (by simp [giveR, h, hk, h2, hq])
  · simp (maxSteps := 1000000) (disch := omega) only [go_sem]
    refine condD_dec (fun h1 => ?_) (fun h1 => ?_)
    · simp (maxSteps := 1000000) (disch := omega) only [go_sem, h1, decide_true]
      refine call_pure (freeR_c y.text hy) (by simp [go_sem]) ?_
      simp (maxSteps := 1000000) (disch := omega) only [go_sem, h1, decide_true]
      exact weak_eq (by simp [giveR, h, h1])
    · simp (maxSteps := 1000000) (disch := omega) only [go_sem, h1, decide_false]
      exact weak_eq (by simp [giveR, h, h1])
theorem givenR_c (x : Rule) (k : Nat) (hx : x.gives.length ≤ 140737488355328) : CallsTo Tryd.prog 71 [x.d, .int .i64 k] (.int .i64 (cnt x.gives k)) := by
  refine fn_calls mixed (fn := Tryd.f71) (tab := []) ?_ rfl (by kernel_rfl) rfl
  refine fn_intro _ [.tmp 4] _ rfl rfl rfl (by kernel_rfl) ?_
  have hxd : x.d = .agg [.str x.cat, .int .i64 x.no, .sl 3 (x.parts.map Part.d), .sl 2 (x.gives.map Give.d), .int .i64 x.cost] := rfl
  simp (maxSteps := 1000000) (disch := omega) only [go_sem, hxd]
  refine cD_for x.gives.length (fun i σ bx => σ 1 = .int .i64 k ∧ σ 2 = .loc 2 1 0 0 ∧ σ 6 = .int .i64 i ∧ σ 5 = .int .i64 (cnt (x.gives.take i) k) ∧ bx 2 = ⟨1, 1, 5, 40, [x.d]⟩) ?_ ?_ ?_
  · simp (maxSteps := 1000000) (disch := omega) only [go_sem, hxd, List.take_zero]
    rfl
  · rintro i σ bx hi ⟨q1, q2, q6, q5, b2⟩
    obtain ⟨y, hy⟩ := get_lt hi
    have hlt : (i : Int) < (x.gives.length : Int) := by omega
    have hi1 : IntKind.i64.wrap ((i : Int) + 1) = ((i + 1 : Nat) : Int) := wrap_succ (by omega)
    have htk : x.gives.take (i + 1) = x.gives.take i ++ [y] := by rw [List.take_add_one, hy]; rfl
    have hyd : y.d = .agg [.int .i64 y.part, .str y.text] := rfl
    have hle := cnt_le (x.gives.take i) k
    have hle2 : (x.gives.take i).length ≤ x.gives.length := List.length_take_le' ..
    have hc1 : IntKind.i64.wrap ((cnt (x.gives.take i) k : Int) + 1) = ((cnt (x.gives.take i) k + 1 : Nat) : Int) := wrap_succ (by omega)
    by_cases ht : y.text = []
    · by_cases hp : y.part = (k : Int)
      · have : cnt (x.gives.take (i + 1)) k = cnt (x.gives.take i) k + 1 := by rw [htk, cnt_snoc, if_pos ⟨ht, hp⟩]
        simp (maxSteps := 1000000) (disch := omega) only [go_sem, q1, q2, q5, q6, hlt, hi1, hy, hyd, b2, hxd, ht, hp, decide_true, hc1, this]
      · have : cnt (x.gives.take (i + 1)) k = cnt (x.gives.take i) k := by rw [htk, cnt_snoc, if_neg (by simp [hp])]; rfl
        simp (maxSteps := 1000000) (disch := omega) only [go_sem, q1, q2, q5, q6, hlt, hi1, hy, hyd, b2, hxd, ht, hp, decide_true, decide_false, this]
    · have : cnt (x.gives.take (i + 1)) k = cnt (x.gives.take i) k := by rw [htk, cnt_snoc, if_neg (by simp [ht])]; rfl
      simp (maxSteps := 1000000) (disch := omega) only [go_sem, q1, q2, q5, q6, hlt, hi1, hy, hyd, b2, hxd, ht, decide_true, decide_false, this]
  · rintro σ bx ⟨q1, q2, q6, q5, b2⟩
    have hlt : ¬ (x.gives.length : Int) < (x.gives.length : Int) := by omega
    simp (maxSteps := 1000000) (disch := omega) only [go_sem, q1, q2, q5, q6, hlt, b2, hxd]
    rw [List.take_length]
    exact .refl _
theorem pgs (g : Gram) (s : Str) : D.pureL [g.d, .str s] = true := by simp [D.pureL, D.pure, pure_gram]
theorem entryR_c (g : Gram) (x : Entry) (hg : g.cats.length ≤ 140737488355328) (hx : SmE x) : CallsTo Tryd.prog 50 [g.d, x.d] (.bool (entryB g.cats.contains x)) := by
  refine fn_calls mixed (fn := Tryd.f50) (tab := []) ?_ rfl (by kernel_rfl) rfl
  refine fn_intro _ [.tmp 4] _ rfl rfl rfl (by kernel_rfl) ?_
  have hxd : x.d = .agg [.str x.text, .str x.cat, .int .i64 x.no, .sl 1 (x.gives.map D.str), .int .i64 x.cost] := rfl
  have hgd : g.d = .agg [.str g.name, .sl 1 (g.cats.map D.str), .str g.start, .int .i64 g.no, .sl 5 (g.entries.map Entry.d), .sl 5 (g.rules.map Rule.d)] := rfl
  have hgl := hx.len
  simp (maxSteps := 1000000) (disch := omega) only [go_sem, hxd, hgd]
  refine call_pure (freeR_c x.text hx.text) (by simp [go_sem]) ?_
  cases h1 : freeB x.text
  · simp (maxSteps := 1000000) (disch := omega) only [go_sem, Bool.not_false]
    exact weak_eq (by simp [entryB, h1])
  simp (maxSteps := 1000000) (disch := omega) only [go_sem, Bool.not_true, hgd]
  refine call_pure (catR_c g x.cat hg) (pgs g x.cat) ?_
  cases h2 : g.cats.contains x.cat
  · simp (maxSteps := 1000000) (disch := omega) only [go_sem, Bool.not_false, Bool.not_true]
    exact weak_eq (by simp only [entryB, h1, h2, Bool.false_and, Bool.and_false])
  simp (maxSteps := 1000000) (disch := omega) only [go_sem, Bool.not_true]
  by_cases h3 : (x.gives.length : Int) < 1
  · simp (maxSteps := 1000000) (disch := omega) only [go_sem, h3, decide_true, Bool.not_true]
    exact weak_eq (by have : inB 1 4 x.gives.length = false := by simp [inB]; omega
                      simp only [entryB, this, Bool.false_and, Bool.and_false])
  by_cases h4 : (4 : Int) < (x.gives.length : Int)
  · simp (maxSteps := 1000000) (disch := omega) only [go_sem, h3, h4, decide_true, decide_false, Bool.not_true]
    exact weak_eq (by have : inB 1 4 x.gives.length = false := by simp [inB]; omega
                      simp only [entryB, this, Bool.false_and, Bool.and_false])
  have h34 : inB 1 4 x.gives.length = true := by simp [inB]; omega
  simp (maxSteps := 1000000) (disch := omega) only [go_sem, h3, h4, decide_false, Bool.not_true]
  refine call_pure (costR_c x.cost) (by simp [go_sem]) ?_
  cases h5 : inB 0 1000 x.cost
  · simp (maxSteps := 1000000) (disch := omega) only [go_sem, h3, h4, decide_false, Bool.not_true, Bool.not_false]
    exact weak_eq (by simp only [entryB, h5, Bool.false_and, Bool.and_false])
  have he : entryB g.cats.contains x = x.gives.all freeB := by simp only [entryB, h1, h2, h34, h5, Bool.true_and, Bool.and_true]
  rw [he]
  simp (maxSteps := 1000000) (disch := omega) only [go_sem, h3, h4, decide_false, Bool.not_true]
  refine cD_for x.gives.length (fun i σ bx => σ 3 = .loc 3 1 0 0 ∧ σ 5 = .int .i64 i ∧ bx 3 = ⟨1, 1, 5, 36, [x.d]⟩ ∧ (x.gives.take i).all freeB = true) ?_ ?_ ?_
  · simp (maxSteps := 1000000) (disch := omega) only [go_sem, hxd, List.take_zero, List.all_nil]
  · rintro i σ bx hi ⟨q3, q5, b3, hb⟩
    obtain ⟨y, hy⟩ := get_lt hi
    have hlt : (i : Int) < (x.gives.length : Int) := by omega
    have hi1 : IntKind.i64.wrap ((i : Int) + 1) = ((i + 1 : Nat) : Int) := wrap_succ (by omega)
    simp (maxSteps := 1000000) (disch := omega) only [go_sem, q3, q5, hlt, b3, hxd, hy]
    refine call_pure (freeR_c y (hx.gives y (List.mem_of_getElem? hy))) (by simp [go_sem]) ?_
    cases hf : freeB y
    · simp (maxSteps := 1000000) (disch := omega) only [go_sem, Bool.not_false]
      exact weak_eq (by rw [all_of freeB hy hf])
    · simp (maxSteps := 1000000) (disch := omega) only [go_sem, Bool.not_true, q3, q5, hi1, b3]
      exact take_all freeB hy hb hf
  · rintro σ bx ⟨q3, q5, b3, hb⟩
    have hlt : ¬ (x.gives.length : Int) < (x.gives.length : Int) := by omega
    rw [List.take_length] at hb
    simp (maxSteps := 1000000) (disch := omega) only [go_sem, q3, q5, hlt, b3, hxd]
    exact weak_eq (by rw [hb])
end Go.V.Ty
