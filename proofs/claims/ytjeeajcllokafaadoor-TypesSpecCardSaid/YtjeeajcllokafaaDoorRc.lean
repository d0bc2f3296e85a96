/-
  Types: the reference's rule and typed.
-/
import Derived.Test.YtjeeajcllokafaaDoorRb
namespace Go.V.Ty
open Go.Proofs Go.RowKit Go.V.Lx Go.V.Gr
set_option linter.unusedSimpArgs false
set_option linter.unusedVariables false
set_option maxRecDepth 100000

def cR (x : Rule) (i : Nat) : Bool := (x.parts[i]?).all fun q => !decide (q.text = []) || decide (cnt x.gives i = 1)
def ruleR (g : Gram) (x : Rule) : Bool := g.cats.contains x.cat && (inB 1 4 x.parts.length && (inB 1 8 x.gives.length && (inB 0 1000 x.cost && (x.parts.all (partR g) && (x.gives.all (giveR x) && (List.range x.parts.length).all (cR x))))))
theorem pp {a b : D} (ha : a.pure = true) (hb : b.pure = true) : D.pureL [a, b] = true := by simp [D.pureL, ha, hb]
theorem pure_r (x : Rule) : x.d.pure = true := by simp [Rule.d, D.pure, D.pureL, pure_part, pure_give]
theorem pure_e (x : Entry) : x.d.pure = true := by simp [Entry.d, D.pure, D.pureL, strs, pureL_strs]
set_option maxHeartbeats 4000000 in
theorem ruleR_c (g : Gram) (x : Rule) (hg : g.cats.length ≤ 140737488355328) (hx : SmR x) : CallsTo Tryd.prog 51 [g.d, x.d] (.bool (ruleR g x)) := by
  refine fn_calls mixed (fn := Tryd.f51) (tab := []) ?_ rfl (by kernel_rfl) rfl
  refine fn_intro _ [.tmp 4] _ rfl rfl rfl (by kernel_rfl) ?_
  have hxd : x.d = .agg [.str x.cat, .int .i64 x.no, .sl 3 (x.parts.map Part.d), .sl 2 (x.gives.map Give.d), .int .i64 x.cost] := rfl
  have hgd : g.d = .agg [.str g.name, .sl 1 (g.cats.map D.str), .str g.start, .int .i64 g.no, .sl 5 (g.entries.map Entry.d), .sl 5 (g.rules.map Rule.d)] := rfl
  have hpl := hx.plen
  have hgl := hx.glen
  simp (maxSteps := 1000000) (disch := omega) only [go_sem, hxd, hgd]
  refine call_pure (catR_c g x.cat hg) (pgs g x.cat) ?_
  cases h1 : g.cats.contains x.cat
  · simp (maxSteps := 1000000) (disch := omega) only [go_sem, Bool.not_false]
    exact weak_eq (by simp only [ruleR, h1, Bool.false_and])
  simp (maxSteps := 1000000) (disch := omega) only [go_sem, Bool.not_true]
  by_cases h2 : (x.parts.length : Int) < 1
  · simp (maxSteps := 1000000) (disch := omega) only [go_sem, h2, decide_true, Bool.not_true]
    exact weak_eq (by have : inB 1 4 x.parts.length = false := by simp [inB]; omega
                      simp only [ruleR, this, Bool.false_and, Bool.and_false])
  by_cases h3 : (4 : Int) < (x.parts.length : Int)
  · simp (maxSteps := 1000000) (disch := omega) only [go_sem, h2, h3, decide_true, decide_false, Bool.not_true]
    exact weak_eq (by have : inB 1 4 x.parts.length = false := by simp [inB]; omega
                      simp only [ruleR, this, Bool.false_and, Bool.and_false])
  have h23 : inB 1 4 x.parts.length = true := by simp [inB]; omega
  by_cases h4 : (x.gives.length : Int) < 1
  · simp (maxSteps := 1000000) (disch := omega) only [go_sem, h2, h3, h4, decide_true, decide_false, Bool.not_true]
    exact weak_eq (by have : inB 1 8 x.gives.length = false := by simp [inB]; omega
                      simp only [ruleR, this, Bool.false_and, Bool.and_false])
  by_cases h5 : (8 : Int) < (x.gives.length : Int)
  · simp (maxSteps := 1000000) (disch := omega) only [go_sem, h2, h3, h4, h5, decide_true, decide_false, Bool.not_true]
    exact weak_eq (by have : inB 1 8 x.gives.length = false := by simp [inB]; omega
                      simp only [ruleR, this, Bool.false_and, Bool.and_false])
  have h45 : inB 1 8 x.gives.length = true := by simp [inB]; omega
  simp (maxSteps := 1000000) (disch := omega) only [go_sem, h2, h3, h4, h5, decide_false, Bool.not_true]
  refine call_pure (costR_c x.cost) (by simp [go_sem]) ?_
  cases h6 : inB 0 1000 x.cost
  · simp (maxSteps := 1000000) (disch := omega) only [go_sem, h2, h3, h4, h5, decide_false, Bool.not_true, Bool.not_false]
    exact weak_eq (by simp only [ruleR, h6, Bool.false_and, Bool.and_false])
  have he : ruleR g x = (x.parts.all (partR g) && (x.gives.all (giveR x) && (List.range x.parts.length).all (cR x))) := by simp only [ruleR, h1, h23, h45, h6, Bool.true_and]
  rw [he]
  simp (maxSteps := 1000000) (disch := omega) only [go_sem, h2, h3, h4, h5, decide_false, Bool.not_true]
  refine cD_for x.parts.length (fun i σ bx => σ 2 = .loc 2 1 0 0 ∧ σ 3 = .loc 3 1 0 0 ∧ σ 5 = .int .i64 i ∧ bx 2 = ⟨1, 1, 6, 26, [g.d]⟩ ∧ bx 3 = ⟨1, 1, 5, 40, [x.d]⟩ ∧ (x.parts.take i).all (partR g) = true) ?_ ?_ ?_
  · simp (maxSteps := 1000000) (disch := omega) only [go_sem, hxd, hgd, List.take_zero, List.all_nil]
  · rintro i σ bx hi ⟨q2, q3, q5, b2, b3, hb⟩
    obtain ⟨y, hy⟩ := get_lt hi
    have hlt : (i : Int) < (x.parts.length : Int) := by omega
    have hi1 : IntKind.i64.wrap ((i : Int) + 1) = ((i + 1 : Nat) : Int) := wrap_succ (by omega)
    have hyd : y.d = .agg [.str y.cat, .int .i64 y.no, .str y.text] := rfl
    simp (maxSteps := 1000000) (disch := omega) only [go_sem, q2, q3, q5, hlt, b2, b3, hxd, hgd, hy, hyd]
    refine call_pure (partR_c g y hg (hx.parts y (List.mem_of_getElem? hy))) (pp (pure_gram g) rfl) ?_
    cases hf : partR g y
    · simp (maxSteps := 1000000) (disch := omega) only [go_sem, Bool.not_false]
      exact weak_eq (by rw [all_of (partR g) hy hf, Bool.false_and])
    · simp (maxSteps := 1000000) (disch := omega) only [go_sem, Bool.not_true, q2, q3, q5, hi1, b2, b3]
      exact take_all (partR g) hy hb hf
  · rintro σ bx ⟨q2, q3, q5, b2, b3, hb⟩
    have hlt : ¬ (x.parts.length : Int) < (x.parts.length : Int) := by omega
    rw [List.take_length] at hb
    rw [hb, Bool.true_and]
    simp (maxSteps := 1000000) (disch := omega) only [go_sem, q2, q3, q5, hlt, b3, hxd]
    refine cD_for x.gives.length (fun i σ bx => σ 3 = .loc 3 1 0 0 ∧ σ 6 = .int .i64 i ∧ bx 3 = ⟨1, 1, 5, 40, [x.d]⟩ ∧ (x.gives.take i).all (giveR x) = true) ?_ ?_ ?_
    · simp (maxSteps := 1000000) (disch := omega) only [go_sem, q3, b3, hxd, List.take_zero, List.all_nil]
    · rintro i σ bx hi ⟨q3, q6, b3, hb⟩
      obtain ⟨y, hy⟩ := get_lt hi
      have hlt : (i : Int) < (x.gives.length : Int) := by omega
      have hi1 : IntKind.i64.wrap ((i : Int) + 1) = ((i + 1 : Nat) : Int) := wrap_succ (by omega)
      have hyd : y.d = .agg [.int .i64 y.part, .str y.text] := rfl
      simp (maxSteps := 1000000) (disch := omega) only [go_sem, q3, q6, hlt, b3, hxd, hy, hyd]
      refine call_pure (giveR_c x y (hx.gives y (List.mem_of_getElem? hy)) hpl) (pp (pure_r x) rfl) ?_
      cases hf : giveR x y
      · simp (maxSteps := 1000000) (disch := omega) only [go_sem, Bool.not_false]
        exact weak_eq (by rw [all_of (giveR x) hy hf, Bool.false_and])
      · simp (maxSteps := 1000000) (disch := omega) only [go_sem, Bool.not_true, q3, q6, hi1, b3]
        exact take_all (giveR x) hy hb hf
    · rintro σ bx ⟨q3, q6, b3, hb⟩
      have hlt : ¬ (x.gives.length : Int) < (x.gives.length : Int) := by omega
      rw [List.take_length] at hb
      rw [hb, Bool.true_and]
      simp (maxSteps := 1000000) (disch := omega) only [go_sem, q3, q6, hlt, b3, hxd]
      refine cD_for x.parts.length (fun i σ bx => σ 3 = .loc 3 1 0 0 ∧ σ 7 = .int .i64 i ∧ bx 3 = ⟨1, 1, 5, 40, [x.d]⟩ ∧ ∀ k, k < i → cR x k = true) ?_ ?_ ?_
      · simp (maxSteps := 1000000) (disch := omega) only [go_sem, q3, b3, hxd]
        exact fun k hk => by omega
      · rintro i σ bx hi ⟨q3, q7, b3, hb⟩
        obtain ⟨y, hy⟩ := get_lt hi
        have hlt : (i : Int) < (x.parts.length : Int) := by omega
        have hi1 : IntKind.i64.wrap ((i : Int) + 1) = ((i + 1 : Nat) : Int) := wrap_succ (by omega)
        have hyd : y.d = .agg [.str y.cat, .int .i64 y.no, .str y.text] := rfl
        have hno : cR x i = false → (List.range x.parts.length).all (cR x) = false := fun h => by
          rw [List.all_eq_false]; exact ⟨i, List.mem_range.2 hi, by simp [h]⟩
        have hyes : cR x i = true → ∀ k, k < i + 1 → cR x k = true := fun h k hk => by
          by_cases e : k = i
          · rw [e]; exact h
          · exact hb k (by omega)
        by_cases ht : y.text = []
        · simp (maxSteps := 1000000) (disch := omega) only [go_sem, q3, q7, hlt, b3, hxd, hy, hyd, ht, decide_true]
          refine call_pure (givenR_c x i hgl) (pp (pure_r x) rfl) ?_
          by_cases hc : (cnt x.gives i : Int) = 1
          · have hcr : cR x i = true := by simp only [cR, hy, Option.all_some, ht]; simp; omega
            simp (maxSteps := 1000000) (disch := omega) only [go_sem, hc, ht, decide_true, Bool.not_true, q3, q7, hi1, b3]
            exact hyes hcr
          · have hcr : cR x i = false := by simp only [cR, hy, Option.all_some, ht]; simp; omega
            simp (maxSteps := 1000000) (disch := omega) only [go_sem, hc, ht, decide_true, decide_false, Bool.not_false]
            exact weak_eq (by rw [hno hcr])
        · have hcr : cR x i = true := by simp [cR, hy, ht]
          simp (maxSteps := 1000000) (disch := omega) only [go_sem, q3, q7, hlt, b3, hxd, hy, hyd, ht, decide_false, hi1]
          exact hyes hcr
      · rintro σ bx ⟨q3, q7, b3, hb⟩
        have hlt : ¬ (x.parts.length : Int) < (x.parts.length : Int) := by omega
        simp (maxSteps := 1000000) (disch := omega) only [go_sem, q3, q7, hlt, b3, hxd]
        exact weak_eq (by rw [List.all_eq_true.2 fun k hk => hb k (List.mem_range.1 hk)])
theorem ruleR_eq (g : Gram) (x : Rule) : ruleR g x = ruleB g.cats.contains x := by
  have h1 : x.parts.all (partR g) = x.parts.all (partB g.cats.contains) := by congr 1; funext q; exact partR_eq g q
  have h2 : (x.gives.all (giveR x) && (List.range x.parts.length).all (cR x)) = (x.gives.all (giveOk x.parts.length) && countsOk x) := by
    rw [Bool.eq_iff_iff]
    simp only [Bool.and_eq_true, List.all_eq_true, countsOk, List.mem_range]
    constructor
    · rintro ⟨a, b⟩
      refine ⟨fun y hy => ?_, fun i hi => ?_⟩
      · have := a y hy
        unfold giveR at this
        unfold giveOk
        split
        · rename_i ht
          rw [if_pos ht] at this
          simp [inB] at this ⊢; omega
        · rename_i ht; rw [if_neg ht] at this; exact this
      · obtain ⟨q, hq⟩ := get_lt hi
        have hb := b i hi
        simp only [cR, hq, Option.all_some] at hb
        rw [cOk_at hq]
        by_cases ht : q.text = []
        · simp [ht] at hb
          simp [ht, hb]
        · have : cnt x.gives i = 0 := by
            rw [cnt, List.countP_eq_zero]
            intro y hy hc
            simp only [Bool.and_eq_true, decide_eq_true_eq] at hc
            have := a y hy
            rw [giveR, if_pos hc.1, hc.2, Int.toNat_natCast, hq] at this
            simp [ht] at this
          simp [ht, this]
    · rintro ⟨a, b⟩
      refine ⟨fun y hy => ?_, fun i hi => ?_⟩
      · have := a y hy
        unfold giveOk at this
        unfold giveR
        split
        · rename_i ht
          rw [if_pos ht] at this
          simp [inB] at this
          obtain ⟨k, hk⟩ : ∃ k : Nat, y.part = k := ⟨y.part.toNat, by omega⟩
          have hkl : k < x.parts.length := by omega
          obtain ⟨q, hq⟩ := get_lt hkl
          have hb := b k hkl
          rw [cOk_at hq] at hb
          have hpos : 0 < cnt x.gives k := List.countP_pos_iff.2 ⟨y, hy, by simp [ht, hk]⟩
          simp only [Bool.and_eq_true, decide_eq_true_eq, beq_iff_eq, decide_eq_decide] at hb
          have hqt := hb.2.1 (by omega)
          rw [hk, Int.toNat_natCast, hq]
          simp [hqt, hkl]
        · rename_i ht; rw [if_neg ht] at this; exact this
      · obtain ⟨q, hq⟩ := get_lt hi
        have hb := b i hi
        rw [cOk_at hq] at hb
        simp only [Bool.and_eq_true, decide_eq_true_eq, beq_iff_eq, decide_eq_decide] at hb
        simp only [cR, hq, Option.all_some]
        by_cases ht : q.text = []
        · have := hb.2.2 ht
          simp [ht]; omega
        · simp [ht]
  simp only [ruleR, ruleB, h1, h2]
end Go.V.Ty
