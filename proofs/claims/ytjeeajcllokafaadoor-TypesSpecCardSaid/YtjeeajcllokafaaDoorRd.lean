/-
  Types: the reference's typed.
-/
import Derived.Test.YtjeeajcllokafaaDoorRc
namespace Go.V.Ty
open Go.Proofs Go.RowKit Go.V.Lx Go.V.Gr
set_option linter.unusedSimpArgs false
set_option linter.unusedVariables false
set_option maxRecDepth 100000

def cat1 (l : List Str) (i : Nat) : Bool := (l[i]?).all fun c => freeB c && decide (idxR l c = (i : Int))
def typedR (g : Gram) : Bool := freeB g.name && (decide (0 < g.cats.length) && (g.cats.contains g.start && ((List.range g.cats.length).all (cat1 g.cats) && (g.entries.all (entryB g.cats.contains) && g.rules.all (ruleR g)))))
set_option maxHeartbeats 4000000 in
theorem typedR_c (g : Gram) (hg : SmG g) : CallsTo Tryd.prog 25 [g.d] (.bool (typedR g)) := by
  refine fn_calls mixed (fn := Tryd.f25) (tab := []) ?_ rfl (by kernel_rfl) rfl
  refine fn_intro _ [.tmp 2] _ rfl rfl rfl (by kernel_rfl) ?_
  have hgd : g.d = .agg [.str g.name, .sl 1 (g.cats.map D.str), .str g.start, .int .i64 g.no, .sl 5 (g.entries.map Entry.d), .sl 5 (g.rules.map Rule.d)] := rfl
  have hcl := hg.clen
  have hel := hg.elen
  have hrl := hg.rlen
  simp (maxSteps := 1000000) (disch := omega) only [go_sem, hgd]
  refine call_pure (freeR_c g.name hg.name) (by simp [go_sem]) ?_
  cases h1 : freeB g.name
  · simp (maxSteps := 1000000) (disch := omega) only [go_sem, Bool.not_false]
    exact weak_eq (by simp only [typedR, h1, Bool.false_and])
  simp (maxSteps := 1000000) (disch := omega) only [go_sem, Bool.not_true, hgd]
  by_cases h2 : (g.cats.length : Int) < 1
  · simp (maxSteps := 1000000) (disch := omega) only [go_sem, h2, decide_true, Bool.not_true]
    exact weak_eq (by rw [typedR, decide_eq_false (show ¬ 0 < g.cats.length by omega), Bool.false_and, Bool.and_false])
  have h2' : decide (0 < g.cats.length) = true := decide_eq_true (by omega)
  simp (maxSteps := 1000000) (disch := omega) only [go_sem, h2, decide_false, Bool.not_true, hgd]
  refine call_pure (catR_c g g.start hcl) (pgs g g.start) ?_
  cases h3 : g.cats.contains g.start
  · simp (maxSteps := 1000000) (disch := omega) only [go_sem, h2, decide_false, Bool.not_true, Bool.not_false]
    exact weak_eq (by simp only [typedR, h3, Bool.false_and, Bool.and_false])
  have he : typedR g = ((List.range g.cats.length).all (cat1 g.cats) && (g.entries.all (entryB g.cats.contains) && g.rules.all (ruleR g))) := by simp only [typedR, h1, h2', h3, Bool.true_and]
  rw [he]
  simp (maxSteps := 1000000) (disch := omega) only [go_sem, h2, decide_false, Bool.not_true]
  refine cD_for g.cats.length (fun i σ bx => σ 1 = .loc 1 1 0 0 ∧ σ 3 = .int .i64 i ∧ bx 1 = ⟨1, 1, 6, 26, [g.d]⟩ ∧ ∀ k, k < i → cat1 g.cats k = true) ?_ ?_ ?_
  · simp (maxSteps := 1000000) (disch := omega) only [go_sem, hgd]
    exact fun k hk => by omega
  · rintro i σ bx hi ⟨q1, q3, b1, hb⟩
    obtain ⟨y, hy⟩ := get_lt hi
    have hlt : (i : Int) < (g.cats.length : Int) := by omega
    have hi1 : IntKind.i64.wrap ((i : Int) + 1) = ((i + 1 : Nat) : Int) := wrap_succ (by omega)
    have hno : cat1 g.cats i = false → (List.range g.cats.length).all (cat1 g.cats) = false := fun h => by
      rw [List.all_eq_false]; exact ⟨i, List.mem_range.2 hi, by simp [h]⟩
    simp (maxSteps := 1000000) (disch := omega) only [go_sem, q1, q3, hlt, b1, hgd, hy]
    refine call_pure (freeR_c y (hg.cats y (List.mem_of_getElem? hy))) (by simp [go_sem]) ?_
    cases hf : freeB y
    · simp (maxSteps := 1000000) (disch := omega) only [go_sem, Bool.not_false]
      exact weak_eq (by rw [hno (by simp [cat1, hy, hf]), Bool.false_and])
    simp (maxSteps := 1000000) (disch := omega) only [go_sem, Bool.not_true, q1, q3, hlt, b1, hgd, hy]
    refine call_pure (indexR_c g.cats y hcl) (by simp [go_sem, strs, pureL_strs]) ?_
    by_cases hx : idxR g.cats y = (i : Int)
    · simp (maxSteps := 1000000) (disch := omega) only [go_sem, hx, decide_true, Bool.not_true, q1, q3, hi1, b1, hgd]
      intro k hk
      by_cases e : k = i
      · rw [e]; simp [cat1, hy, hf, hx]
      · exact hb k (by omega)
    · simp (maxSteps := 1000000) (disch := omega) only [go_sem, hx, q3, decide_false, Bool.not_false, Bool.not_true]
      exact weak_eq (by rw [hno (by simp [cat1, hy, hf, hx]), Bool.false_and])
  · rintro σ bx ⟨q1, q3, b1, hb⟩
    have hlt : ¬ (g.cats.length : Int) < (g.cats.length : Int) := by omega
    rw [List.all_eq_true.2 fun k hk => hb k (List.mem_range.1 hk), Bool.true_and]
    simp (maxSteps := 1000000) (disch := omega) only [go_sem, q1, q3, hlt, b1, hgd]
    refine cD_for g.entries.length (fun i σ bx => σ 1 = .loc 1 1 0 0 ∧ σ 4 = .int .i64 i ∧ bx 1 = ⟨1, 1, 6, 26, [g.d]⟩ ∧ (g.entries.take i).all (entryB g.cats.contains) = true) ?_ ?_ ?_
    · simp (maxSteps := 1000000) (disch := omega) only [go_sem, q1, b1, hgd, List.take_zero, List.all_nil]
    · rintro i σ bx hi ⟨q1, q4, b1, hb⟩
      obtain ⟨y, hy⟩ := get_lt hi
      have hlt : (i : Int) < (g.entries.length : Int) := by omega
      have hi1 : IntKind.i64.wrap ((i : Int) + 1) = ((i + 1 : Nat) : Int) := wrap_succ (by omega)
      have hyd : y.d = .agg [.str y.text, .str y.cat, .int .i64 y.no, .sl 1 (y.gives.map D.str), .int .i64 y.cost] := rfl
      simp (maxSteps := 1000000) (disch := omega) only [go_sem, q1, q4, hlt, b1, hgd, hy, hyd]
      refine call_pure (entryR_c g y hcl (hg.ents y (List.mem_of_getElem? hy))) (pp (pure_gram g) (pure_e y)) ?_
      cases hf : entryB g.cats.contains y
      · simp (maxSteps := 1000000) (disch := omega) only [go_sem, Bool.not_false]
        exact weak_eq (by rw [all_of (entryB g.cats.contains) hy hf, Bool.false_and])
      · simp (maxSteps := 1000000) (disch := omega) only [go_sem, Bool.not_true, q1, q4, hi1, b1, hgd]
        exact take_all (entryB g.cats.contains) hy hb hf
    · rintro σ bx ⟨q1, q4, b1, hb⟩
      have hlt : ¬ (g.entries.length : Int) < (g.entries.length : Int) := by omega
      rw [List.take_length] at hb
      rw [hb, Bool.true_and]
      simp (maxSteps := 1000000) (disch := omega) only [go_sem, q1, q4, hlt, b1, hgd]
      refine cD_for g.rules.length (fun i σ bx => σ 1 = .loc 1 1 0 0 ∧ σ 5 = .int .i64 i ∧ bx 1 = ⟨1, 1, 6, 26, [g.d]⟩ ∧ (g.rules.take i).all (ruleR g) = true) ?_ ?_ ?_
      · simp (maxSteps := 1000000) (disch := omega) only [go_sem, q1, b1, hgd, List.take_zero, List.all_nil]
      · rintro i σ bx hi ⟨q1, q5, b1, hb⟩
        obtain ⟨y, hy⟩ := get_lt hi
        have hlt : (i : Int) < (g.rules.length : Int) := by omega
        have hi1 : IntKind.i64.wrap ((i : Int) + 1) = ((i + 1 : Nat) : Int) := wrap_succ (by omega)
        have hyd : y.d = .agg [.str y.cat, .int .i64 y.no, .sl 3 (y.parts.map Part.d), .sl 2 (y.gives.map Give.d), .int .i64 y.cost] := rfl
        simp (maxSteps := 1000000) (disch := omega) only [go_sem, q1, q5, hlt, b1, hgd, hy, hyd]
        refine call_pure (ruleR_c g y hcl (hg.rules y (List.mem_of_getElem? hy))) (pp (pure_gram g) (pure_r y)) ?_
        cases hf : ruleR g y
        · simp (maxSteps := 1000000) (disch := omega) only [go_sem, Bool.not_false]
          exact weak_eq (by rw [all_of (ruleR g) hy hf])
        · simp (maxSteps := 1000000) (disch := omega) only [go_sem, Bool.not_true, q1, q5, hi1, b1, hgd]
          exact take_all (ruleR g) hy hb hf
      · rintro σ bx ⟨q1, q5, b1, hb⟩
        have hlt : ¬ (g.rules.length : Int) < (g.rules.length : Int) := by omega
        rw [List.take_length] at hb
        simp (maxSteps := 1000000) (disch := omega) only [go_sem, q1, q5, hlt, b1, hgd]
        exact weak_eq (by rw [hb])
theorem cats_eq (l : List Str) : (List.range l.length).all (cat1 l) = (decide l.Nodup && l.all freeB) := by
  rw [Bool.eq_iff_iff]
  simp only [Bool.and_eq_true, List.all_eq_true, decide_eq_true_eq, List.mem_range]
  constructor
  · intro h
    have hi : ∀ (i : Nat) c, l[i]? = some c → freeB c = true ∧ l.idxOf c = i := fun i c hc => by
      have := h i (List.getElem?_eq_some_iff.1 hc).1
      simp only [cat1, hc, Option.all_some, Bool.and_eq_true, decide_eq_true_eq, idxR, List.contains_iff_mem.2 (List.mem_of_getElem? hc), if_true] at this
      exact ⟨this.1, by omega⟩
    refine ⟨?_, fun c hc => ?_⟩
    · refine List.pairwise_iff_getElem.2 fun i j hil hjl hij he => ?_
      have h1 := (hi j l[j] (List.getElem?_eq_getElem hjl)).2
      have h2 := (hi i l[i] (List.getElem?_eq_getElem hil)).2
      rw [he] at h2
      omega
    · obtain ⟨i, hc⟩ := List.mem_iff_getElem?.1 hc
      exact (hi i c hc).1
  · rintro ⟨h1, h2⟩ i hi
    obtain ⟨c, hc⟩ := get_lt hi
    have := (idx_at l i c hc (not_take h1 hc)).1
    simp only [cat1, hc, Option.all_some, Bool.and_eq_true, decide_eq_true_eq, idxR, List.contains_iff_mem.2 (List.mem_of_getElem? hc), if_true]
    exact ⟨h2 c (List.mem_of_getElem? hc), by omega⟩
theorem typedR_eq (g : Gram) : typedR g = (decide g.cats.Nodup && typedB g.cats.contains g) := by
  have h1 : g.rules.all (ruleR g) = g.rules.all (ruleB g.cats.contains) := by congr 1; funext x; exact ruleR_eq g x
  simp only [typedR, typedB, cats_eq, h1]
  cases freeB g.name <;> cases decide (0 < g.cats.length) <;> cases g.cats.contains g.start <;> cases decide g.cats.Nodup <;> cases g.cats.all freeB <;> simp
end Go.V.Ty
