/-
  Grammar: Parse.
-/
import Derived.Test.YtgcbdhnkigmfpaaGreatDoorGy
namespace Go.V.Gr
open Go.Proofs Go.RowKit Go.V.Lx
set_option linter.unusedSimpArgs false
set_option linter.unusedVariables false
set_option maxRecDepth 100000

theorem lexGo_len (s : List UInt8) : ∀ (f i : Nat) (xs : List Tk), xs.length ≤ i → i ≤ s.length → (lexGo s f i xs).1.length ≤ s.length
  | 0, i, xs, h1, h2 => by simp only [lexGo]; omega
  | f + 1, i, xs, h1, h2 => by
    simp only [lexGo]
    cases hx : s[i]? with
    | none => simp only; omega
    | some c =>
      simp only
      cases hst : stepAt s i c with
      | none => simp
      | some r =>
        obtain ⟨k, l⟩ := r
        obtain ⟨g1, g2, g3⟩ := step_on hx hst
        simp only
        exact lexGo_len s f k (xs ++ l) (by rw [List.length_append]; omega) g2
theorem lexL_len (s : List UInt8) : (lexL s).1.length ≤ 65536 := by
  unfold lexL
  split
  · simp
  · have := lexGo_len s s.length 0 [] (Nat.zero_le _) (Nat.zero_le _)
    omega
theorem pureL_toks' (l : List Tk) : D.pureL (l.map Tok.d) = true := pureL_toks l
theorem parse_d (s : Str) (hs : s.length ≤ 140737488355328) : fnD Tryz.prog (orac Tryz.prog) [] Tryz.f8 [.str s] (readD (parseL s)) := by
  refine fn_intro _ [.cell 2 26, .tmp 3, .tmp 4] _ rfl rfl rfl (by kernel_rfl) ?_
  simp (maxSteps := 1000000) (disch := omega) only [go_sem]
  refine call_pure (lex_c s hs) (by simp [go_sem]) ?_
  have hlen := lexL_len s
  unfold parseL
  generalize lexL s = x at hlen ⊢
  obtain ⟨l, a, er⟩ := x
  simp (maxSteps := 1000000) (disch := omega) only [go_sem, lexD]
  refine condD_dec (fun h1 => ?_) (fun h1 => ?_)
  · subst h1
    simp (maxSteps := 1000000) (disch := omega) only [go_sem]
    refine call_pure (read_c l s.length (by have : l.length ≤ 65536 := hlen; omega)) (by simp [go_sem, toks, pureL_toks']) ?_
    obtain ⟨gr, ra, re⟩ := readL l s.length
    simp (maxSteps := 1000000) (disch := omega) only [go_sem, readD, Gram.d, strs]
    exact weak_eq rfl
  · rw [if_neg h1]
    exact weak_tup3 weak_zero (.refl _) (.refl _)
theorem parse_c (s : Str) (hs : s.length ≤ 140737488355328) : CallsTo Tryz.prog 8 [.str s] (readD (parseL s)) := fn_calls mixed (parse_d s hs) rfl (by kernel_rfl) rfl
end Go.V.Gr
