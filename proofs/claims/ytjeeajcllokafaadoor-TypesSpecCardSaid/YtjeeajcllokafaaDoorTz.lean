/-
  Types: TypesSpec.
-/
import Derived.Test.YtjeeajcllokafaaDoorRg
import Derived.Test.YtjeeajcllokafaaDoorTx
namespace Go.V.Ty
open Go.Proofs Go.RowKit Go.V.Lx Go.V.Gr
set_option linter.unusedSimpArgs false
set_option linter.unusedVariables false
set_option maxRecDepth 100000

theorem resolveR_c (hre : ReachOk) (g : Gram) (hg : SmG g) (hpl : ∀ x ∈ g.rules, x.parts.length ≤ 65536) : CallsTo Tryd.prog 11 [g.d] (resD (resolveL g)) := by
  rw [← resolveR_eq]
  exact (fnB_calls mixed (resolveR_d hre (fun g s h => Nat.le_trans (reach_len _ _) h) g hg hpl) rfl (by kernel_rfl) rfl).to (fun _ _ h => h) (fun d' bx' ⟨r, h1, h2⟩ => ⟨r, h1, h2⟩)
theorem checkR_c (hre : ReachOk) (g : Gram) (hg : SmG g) (hpl : ∀ x ∈ g.rules, x.parts.length ≤ 65536) : CallsTo Tryd.prog 14 [g.d] (.int .i64 (checkL g)) := by
  refine fn_calls mixed (fn := Tryd.f14) (tab := []) ?_ rfl (by kernel_rfl) rfl
  refine fn_intro _ [.tmp 2] _ rfl rfl rfl (by kernel_rfl) ?_
  simp (maxSteps := 1000000) (disch := omega) only [go_sem, Gram.d, strs]
  refine call_pure (resolveR_c hre g hg hpl) (pg g) ?_
  by_cases h0 : (resolveL g).2 = 0
  · have hr := resolve_ok h0
    obtain ⟨k1, k2⟩ := check_iff h0
    simp (maxSteps := 1000000) (disch := omega) only [go_sem, resD, h0, hr, decide_true, Bool.not_true, Gram.d, strs]
    refine call_pure (sameG_c (setG g) g (sm_setG hg).sz hg.sz) (pg2 _ _) ?_
    by_cases hs : setG g = g
    · rw [decide_eq_true hs]
      simp (maxSteps := 1000000) (disch := omega) only [go_sem, Bool.not_true]
      exact weak_eq (by rw [k1.2 hs])
    · rw [decide_eq_false hs]
      simp (maxSteps := 1000000) (disch := omega) only [go_sem, Bool.not_false]
      exact weak_eq (by rcases k2 with k2 | k2
                        · exact (hs (k1.1 k2)).elim
                        · rw [k2])
  · simp (maxSteps := 1000000) (disch := omega) only [go_sem, resD, h0, decide_false, Bool.not_false, Gram.d, strs]
    exact weak_eq (by rw [check_no h0])
theorem spec_c (hre : ReachOk) (g : Gram) (hg : SmG g) : CallsTo Tryd.prog 3 [g.d] (.bool true) := by
  refine fn_calls mixed (fn := Tryd.f3) (tab := [(7, [(5, 4)])]) ?_ rfl (by kernel_rfl) rfl
  refine fn_intro _ [.tmp 2] _ rfl rfl rfl (by kernel_rfl) ?_
  simp (maxSteps := 1000000) (disch := omega) only [go_sem, Gram.d, strs]
  refine call_pure sane_c rfl ?_
  simp (maxSteps := 1000000) (disch := omega) only [go_sem, Bool.not_true, Gram.d, strs]
  refine call_pure (few_c g hg.sz hg.name hg.start) (pg g) ?_
  cases hf : fewG g
  · simp (maxSteps := 1000000) (disch := omega) only [go_sem, hf, Bool.not_false]
    exact .refl _
  obtain ⟨l1, l2, l3, l4, l5⟩ := few_le hf
  have hpl : ∀ x ∈ g.rules, x.parts.length ≤ 65536 := fun x hx => by have := (l5 x hx).1; omega
  simp (maxSteps := 1000000) (disch := omega) only [go_sem, hf, Bool.not_true, Gram.d, strs]
  refine call_pure (resolve_c g hg) (pg g) ?_
  simp (maxSteps := 1000000) (disch := omega) only [go_sem, resD, Gram.d, strs]
  refine call_pure (resolveR_c hre g hg hpl) (pg g) ?_
  simp (maxSteps := 1000000) (disch := omega) only [go_sem, resD, Gram.d, strs]
  have hz := resolve_sz hg
  have hs := sameG_c (resolveL g).1 (resolveL g).1 hz.sz hz.sz
  rw [decide_eq_true rfl] at hs
  refine call_pure hs (pg2 _ _) ?_
  simp (maxSteps := 1000000) (disch := omega) only [go_sem, decide_true]
  refine call_pure (check_c g hg) (pg g) ?_
  simp (maxSteps := 1000000) (disch := omega) only [go_sem, decide_true, Gram.d, strs]
  refine call_pure (checkR_c hre g hg hpl) (pg g) ?_
  simp (maxSteps := 1000000) (disch := omega) only [go_sem, decide_true]
  exact .refl _
end Go.V.Ty
