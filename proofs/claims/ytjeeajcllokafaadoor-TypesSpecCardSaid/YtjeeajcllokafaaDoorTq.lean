/-
  Types: TypesTwice.
-/
import Derived.Test.YtjeeajcllokafaaDoorTp
namespace Go.V.Ty
open Go.Proofs Go.RowKit Go.V.Lx Go.V.Gr
set_option linter.unusedSimpArgs false
set_option linter.unusedVariables false
set_option maxRecDepth 100000

theorem pg (g : Gram) : D.pureL [g.d] = true := by simp [D.pureL, pure_gram]
theorem pg2 (g h : Gram) : D.pureL [g.d, h.d] = true := by simp [D.pureL, pure_gram]
theorem pg3 (g : Gram) (n : Int) : D.pureL [g.d, .int .i64 n] = true := by simp [D.pureL, pure_gram, D.pure]
set_option maxHeartbeats 4000000 in
theorem twice_c (g : Gram) (n : Int) (hg : SmG g) : CallsTo Tryd.prog 6 [g.d, .int .i64 n] (.bool true) := by
  refine fn_calls mixed (fn := Tryd.f6) (tab := []) ?_ rfl (by kernel_rfl) rfl
  refine fn_intro _ [.tmp 4] _ rfl rfl rfl (by kernel_rfl) ?_
  simp (maxSteps := 1000000) (disch := omega) only [go_sem, Gram.d, strs]
  refine call_pure sane_c rfl ?_
  simp (maxSteps := 1000000) (disch := omega) only [go_sem, Bool.not_true, Gram.d, strs]
  refine call_pure (few_c g hg.sz hg.name hg.start) (pg g) ?_
  cases hf : fewG g
  · simp (maxSteps := 1000000) (disch := omega) only [go_sem, hf, Bool.not_false]
    exact .refl _
  obtain ⟨l1, l2, l3, l4, l5⟩ := few_le hf
  simp (maxSteps := 1000000) (disch := omega) only [go_sem, hf, Bool.not_true, Gram.d, strs]
  refine call_pure (resolve_c g hg) (pg g) ?_
  simp (maxSteps := 1000000) (disch := omega) only [go_sem, resD, Gram.d, strs]
  refine call_pure (bare_c g n (by omega) (by omega) (fun x hx => by have := (l5 x hx).1; omega)) (pg3 g n) ?_
  simp (maxSteps := 1000000) (disch := omega) only [go_sem, Gram.d, strs]
  have hb := resolve_c (bareG g n) (sm_bare hg n)
  rw [resolve_bare] at hb
  refine call_pure hb (pg _) ?_
  simp (maxSteps := 1000000) (disch := omega) only [go_sem, resD, Gram.d, strs, decide_true, Bool.not_true]
  have hz := (resolve_sz hg)
  have hs := sameG_c (resolveL g).1 (resolveL g).1 hz.sz hz.sz
  rw [decide_eq_true rfl] at hs
  refine call_pure hs (pg2 _ _) ?_
  simp (maxSteps := 1000000) (disch := omega) only [go_sem, Bool.not_true]
  refine condD_dec (fun h1 => ?_) (fun h1 => ?_)
  rotate_left
  · simp (maxSteps := 1000000) (disch := omega) only [go_sem, h1, decide_false, Bool.not_false, Gram.d, strs]
    have hk := check_c g hg
    rw [check_no h1] at hk
    refine call_pure hk (pg g) ?_
    simp (maxSteps := 1000000) (disch := omega) only [go_sem, decide_true]
    exact .refl _
  have h0 : (resolveL g).2 = 0 := h1
  have hr := resolve_ok h0
  rw [hr] at hz
  simp (maxSteps := 1000000) (disch := omega) only [go_sem, h1, hr, decide_true, Bool.not_true, Gram.d, strs]
  have q1 := resolve_c (setG g) hz
  rw [resolve_set] at q1
  refine call_pure q1 (pg _) ?_
  simp (maxSteps := 1000000) (disch := omega) only [go_sem, resD, Gram.d, strs, hr, h0]
  refine call_pure (check_c (bareG g n) (sm_bare hg n)) (pg _) ?_
  simp (maxSteps := 1000000) (disch := omega) only [go_sem, Gram.d, strs, hr, h0, decide_true]
  have hs2 := sameG_c (setG g) (setG g) hz.sz hz.sz
  rw [decide_eq_true rfl] at hs2
  refine call_pure hs2 (pg2 _ _) ?_
  simp (maxSteps := 1000000) (disch := omega) only [go_sem, Gram.d, strs, hr, h0, decide_true]
  have hk := check_c (setG g) hz
  rw [check_set h0] at hk
  refine call_pure hk (pg _) ?_
  simp (maxSteps := 1000000) (disch := omega) only [go_sem, Gram.d, strs, hr, h0, decide_true]
  refine call_pure (sameG_c (bareG g n) (setG g) (sm_bare hg n).sz hz.sz) (pg2 _ _) ?_
  simp (maxSteps := 1000000) (disch := omega) only [go_sem, Gram.d, strs, hr, h0, decide_true]
  refine weak_eq (congrArg D.bool ?_)
  have hc := (check_iff (g := bareG g n) (by rw [resolve_bare]; exact h0)).1
  rw [set_bare] at hc
  by_cases hh : bareG g n = setG g
  · rw [decide_eq_true (hc.2 hh.symm), decide_eq_true hh]; rfl
  · rw [decide_eq_false (fun e => hh (hc.1 e).symm), decide_eq_false hh]; rfl
end Go.V.Ty
