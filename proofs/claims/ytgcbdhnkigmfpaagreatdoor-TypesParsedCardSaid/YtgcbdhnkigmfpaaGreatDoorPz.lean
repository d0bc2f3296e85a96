/-
  Types: TypesParsed.
-/
import Derived.Test.YtgcbdhnkigmfpaaGreatDoorPk
import Derived.Test.YtgcbdhnkigmfpaaGreatDoorTp
namespace Go.V.Ty
open Go.Proofs Go.RowKit Go.V.Lx Go.V.Gr
set_option linter.unusedSimpArgs false
set_option linter.unusedVariables false
set_option maxRecDepth 100000

theorem st_bare {g : Gram} (h : SmG g) (n : Int) : St (bareG g n) where
  name := h.name
  start := h.start
  cats := h.cats
  ents := fun x hx => by
    obtain ⟨y, hy, rfl⟩ := List.mem_map.1 hx
    have := h.ents y hy
    exact ⟨this.text, this.cat, this.gives⟩
  ruls := fun x hx => by
    obtain ⟨y, hy, rfl⟩ := List.mem_map.1 hx
    have := h.rules y hy
    refine ⟨this.cat, fun p hp => ?_, this.gives⟩
    obtain ⟨q, hq, rfl⟩ := List.mem_map.1 hp
    have := this.parts q hq
    exact ⟨this.cat, this.text⟩
theorem pr_bare {g : Gram} (h : SmG g) (hf : fewG g = true) (n : Int) : Pr (bareG g n) := by
  obtain ⟨l1, l2, l3, l4, l5⟩ := few_le hf
  have := gram_max (g := bareG g n) (c := 40) (e := 600) (r := 200) (n := 20) l1 (by simpa [bareG] using l2) (by simpa [bareG] using l3) (fun x hx => by
    obtain ⟨y, hy, rfl⟩ := List.mem_map.1 hx
    have := l4 y hy
    simp only [bareE]; omega) (fun x hx => by
    obtain ⟨y, hy, rfl⟩ := List.mem_map.1 hx
    have := l5 y hy
    simp only [bareR, List.length_map]; omega)
  exact Pr.of (by omega) (fit_gram (st_bare h n))
theorem pg (g : Gram) : D.pureL [g.d] = true := by simp [D.pureL, pure_gram]
theorem pg2 (g h : Gram) : D.pureL [g.d, h.d] = true := by simp [D.pureL, pure_gram]
theorem pg3 (g : Gram) (n : Int) : D.pureL [g.d, .int .i64 n] = true := by simp [D.pureL, pure_gram, D.pure]
set_option maxHeartbeats 4000000 in
theorem parsed_c (g : Gram) (hg : SmG g) : CallsTo Tryz.prog 3 [g.d] (.bool true) := by
  refine fn_calls mixed (fn := Tryz.f3) (tab := []) ?_ rfl (by kernel_rfl) rfl
  refine fn_intro _ [.tmp 2] _ rfl rfl rfl (by kernel_rfl) ?_
  simp (maxSteps := 1000000) (disch := omega) only [go_sem, Gram.d, strs]
  refine call_pure sane_c rfl ?_
  simp (maxSteps := 1000000) (disch := omega) only [go_sem, Bool.not_true, Gram.d, strs]
  refine call_pure (few_c g hg.sz hg.name hg.start) (pg g) ?_
  cases hf : fewG g
  · simp (maxSteps := 1000000) (disch := omega) only [go_sem, hf, Bool.not_false]
    exact .refl _
  obtain ⟨l1, l2, l3, l4, l5⟩ := few_le hf
  simp (maxSteps := 1000000) (disch := omega) only [go_sem, hf, Bool.not_true, Gram.d, strs]
  refine call_pure (bare_c g 0 (by omega) (by omega) (fun x hx => by have := (l5 x hx).1; omega)) (pg3 g 0) ?_
  simp (maxSteps := 1000000) (disch := omega) only [go_sem, Gram.d, strs]
  refine call_pure (print_c (bareG g 0) (pr_bare hg hf 0)) (pg _) ?_
  by_cases hk : okG (bareG g 0)
  case neg =>
    rw [printL_no hk]
    simp (maxSteps := 1000000) (disch := omega) only [go_sem]
    exact .refl _
  rw [printL_ok hk]
  simp (maxSteps := 1000000) (disch := omega) only [go_sem]
  refine condD_dec (fun hl => ?_) (fun hl => ?_)
  · simp (maxSteps := 1000000) (disch := omega) only [go_sem]
    exact .refl _
  have c4 := parse_c (Lib.join ((tokensOf (bareG g 0)).map word) [32]) (by omega)
  rw [parse_back hk (by omega)] at c4
  simp (maxSteps := 1000000) (disch := omega) only [go_sem]
  refine call_pure c4 rfl ?_
  simp (maxSteps := 1000000) (disch := omega) only [go_sem, readD, Gram.d, strs]
  refine call_pure (resolve_c g hg) (pg g) ?_
  simp (maxSteps := 1000000) (disch := omega) only [go_sem, resD, Gram.d, strs]
  have hb := resolve_c (bareG g 0) (sm_bare hg 0)
  rw [resolve_bare] at hb
  refine call_pure hb (pg _) ?_
  simp (maxSteps := 1000000) (disch := omega) only [go_sem, resD, Gram.d, strs, decide_true, Bool.not_true]
  have hz := (resolve_sz hg)
  have hs := sameG_c (resolveL g).1 (resolveL g).1 hz.sz hz.sz
  rw [decide_eq_true rfl] at hs
  refine call_pure hs (pg2 _ _) ?_
  simp (maxSteps := 1000000) (disch := omega) only [go_sem, Bool.not_true]
  exact .refl _
end Go.V.Ty
