/-
  Lex: the statements LexSpec, LexTextSpec, LexNames on data.
-/
import Derived.Test.YtbnniokcdilpgaaDoorLn
namespace Go.V.Lx
open Go.Proofs Go.RowKit
set_option linter.unusedSimpArgs false
set_option linter.unusedVariables false
set_option maxRecDepth 20000

theorem lexL_len (s : List UInt8) : (lexL s).1.length ≤ 65536 := by
  by_cases h : 65536 < s.length
  · unfold lexL; rw [if_pos h]; exact Nat.zero_le _
  · rcases lex_cases s (by omega) with ⟨l, h1, h2⟩ | ⟨k, h1, h2⟩
    · rw [h2]
      have := h1.facts.2.2
      simp only []; omega
    · rw [h2]; exact Nat.zero_le _
theorem lex_t (s : List UInt8) (hs : s.length ≤ 140737488355328) : CallsTo Tryd.prog 11 [.str s] (.tup [toks (lexL s).1, .int .i64 (lexL s).2.1, .int .i64 (lexL s).2.2]) := lex_c s hs
theorem lexR_t (s : List UInt8) (hs : s.length ≤ 140737488355328) : CallsTo Tryd.prog 12 [.str s] (.tup [toks (lexL s).1, .int .i64 (lexL s).2.1, .int .i64 (lexL s).2.2]) := lexR_c s hs
theorem pure1 (a : List Tok) : D.pureL [toks a] = true := by simp [toks, D.pureL, D.pure, pureL_toks]
theorem pure2 (a b : List Tok) : D.pureL [toks a, toks b] = true := by simp [toks, D.pureL, D.pure, pureL_toks]

theorem lexSpec_d (s : List UInt8) (hs : s.length ≤ 140737488355328) : fnD Tryd.prog (orac Tryd.prog) [] Tryd.f3 [.str s] (.bool true) := by
  refine fn_intro _ [.tmp 2] _ rfl rfl rfl (by kernel_rfl) ?_
  simp (maxSteps := 1000000) (disch := omega) only [go_sem, reduceIte, Nat.reduceEqDiff, Nat.reduceAdd, Nat.reduceLeDiff, Nat.reduceLT, Nat.reduceSub, Int.reduceLT, Int.reduceLE, Int.reduceEq, Int.reduceToNat, Option.map_some, List.length_map, List.getElem?_map, Int.toNat_natCast]
  refine call_pure sane_c rfl ?_
  simp (maxSteps := 1000000) (disch := omega) only [go_sem, reduceIte, Nat.reduceEqDiff, Nat.reduceAdd, Nat.reduceLeDiff, Nat.reduceLT, Nat.reduceSub, Int.reduceLT, Int.reduceLE, Int.reduceEq, Int.reduceToNat, Option.map_some, List.length_map, List.getElem?_map, Int.toNat_natCast]
  refine condD_dec (fun h1 => ?_) (fun h1 => ?_)
  · simp (maxSteps := 1000000) (disch := omega) only [go_sem, reduceIte, Nat.reduceEqDiff, Nat.reduceAdd, Nat.reduceLeDiff, Nat.reduceLT, Nat.reduceSub, Int.reduceLT, Int.reduceLE, Int.reduceEq, Int.reduceToNat, Option.map_some, List.length_map, List.getElem?_map, Int.toNat_natCast]
    exact .refl _
  simp (maxSteps := 1000000) (disch := omega) only [go_sem, reduceIte, Nat.reduceEqDiff, Nat.reduceAdd, Nat.reduceLeDiff, Nat.reduceLT, Nat.reduceSub, Int.reduceLT, Int.reduceLE, Int.reduceEq, Int.reduceToNat, Option.map_some, List.length_map, List.getElem?_map, Int.toNat_natCast]
  refine call_pure (lex_t s hs) (by simp [go_sem]) ?_
  simp (maxSteps := 1000000) (disch := omega) only [go_sem, reduceIte, Nat.reduceEqDiff, Nat.reduceAdd, Nat.reduceLeDiff, Nat.reduceLT, Nat.reduceSub, Int.reduceLT, Int.reduceLE, Int.reduceEq, Int.reduceToNat, Option.map_some, List.length_map, List.getElem?_map, Int.toNat_natCast]
  refine call_pure (lexR_t s hs) (by simp [go_sem]) ?_
  simp (maxSteps := 1000000) (disch := omega) only [go_sem, reduceIte, Nat.reduceEqDiff, Nat.reduceAdd, Nat.reduceLeDiff, Nat.reduceLT, Nat.reduceSub, Int.reduceLT, Int.reduceLE, Int.reduceEq, Int.reduceToNat, Option.map_some, List.length_map, List.getElem?_map, Int.toNat_natCast]
  have hl := lexL_len s
  have he := equal_c (lexL s).1 (lexL s).1 (by omega) (by omega)
  rw [decide_eq_true rfl] at he
  refine call_pure he (pure2 _ _) ?_
  simp (maxSteps := 1000000) (disch := omega) only [go_sem, reduceIte, Nat.reduceEqDiff, Nat.reduceAdd, Nat.reduceLeDiff, Nat.reduceLT, Nat.reduceSub, Int.reduceLT, Int.reduceLE, Int.reduceEq, Int.reduceToNat, Option.map_some, List.length_map, List.getElem?_map, Int.toNat_natCast]
  exact .refl _
theorem lexSpec_c (s : List UInt8) (hs : s.length ≤ 140737488355328) : CallsTo Tryd.prog 3 [.str s] (.bool true) := fn_calls mixed (lexSpec_d s hs) rfl (by kernel_rfl) rfl

theorem few_facts {l : List Tok} (h : fewL l = true) : l.length ≤ 200 ∧ textSum l ≤ 2000 := by
  simpa [fewL] using h
set_option maxHeartbeats 4000000 in
theorem lexText_d (a b : List Tok) (s : List UInt8) (ha : a.length ≤ 140737488355328) (hb : b.length ≤ 140737488355328) (hta : ∀ x ∈ a, x.t.length ≤ 140737488355328) (htb : ∀ x ∈ b, x.t.length ≤ 140737488355328) (hs : s.length ≤ 140737488355328) : fnD Tryd.prog (orac Tryd.prog) [] Tryd.f4 [toks a, toks b, .str s] (.bool true) := by
  refine fn_intro _ [.tmp 6] _ rfl rfl rfl (by kernel_rfl) ?_
  simp (maxSteps := 1000000) (disch := omega) only [go_sem, reduceIte, Nat.reduceEqDiff, Nat.reduceAdd, Nat.reduceLeDiff, Nat.reduceLT, Nat.reduceSub, Int.reduceLT, Int.reduceLE, Int.reduceEq, Int.reduceToNat, Option.map_some, List.length_map, List.getElem?_map, Int.toNat_natCast]
  refine call_pure sane_c rfl ?_
  simp (maxSteps := 1000000) (disch := omega) only [go_sem, reduceIte, Nat.reduceEqDiff, Nat.reduceAdd, Nat.reduceLeDiff, Nat.reduceLT, Nat.reduceSub, Int.reduceLT, Int.reduceLE, Int.reduceEq, Int.reduceToNat, Option.map_some, List.length_map, List.getElem?_map, Int.toNat_natCast]
  refine call_pure (few_c a ha hta) (pure1 _) ?_
  simp (maxSteps := 1000000) (disch := omega) only [go_sem, reduceIte, Nat.reduceEqDiff, Nat.reduceAdd, Nat.reduceLeDiff, Nat.reduceLT, Nat.reduceSub, Int.reduceLT, Int.reduceLE, Int.reduceEq, Int.reduceToNat, Option.map_some, List.length_map, List.getElem?_map, Int.toNat_natCast]
  refine condD_split (fun f1 => ?_) (fun f1 => ?_)
  case refine_2 =>
    simp (maxSteps := 1000000) (disch := omega) only [go_sem, reduceIte, Nat.reduceEqDiff, Nat.reduceAdd, Nat.reduceLeDiff, Nat.reduceLT, Nat.reduceSub, Int.reduceLT, Int.reduceLE, Int.reduceEq, Int.reduceToNat, Option.map_some, List.length_map, List.getElem?_map, Int.toNat_natCast, f1]
    exact .refl _
  simp (maxSteps := 1000000) (disch := omega) only [go_sem, reduceIte, Nat.reduceEqDiff, Nat.reduceAdd, Nat.reduceLeDiff, Nat.reduceLT, Nat.reduceSub, Int.reduceLT, Int.reduceLE, Int.reduceEq, Int.reduceToNat, Option.map_some, List.length_map, List.getElem?_map, Int.toNat_natCast, f1]
  refine call_pure (few_c b hb htb) (pure1 _) ?_
  simp (maxSteps := 1000000) (disch := omega) only [go_sem, reduceIte, Nat.reduceEqDiff, Nat.reduceAdd, Nat.reduceLeDiff, Nat.reduceLT, Nat.reduceSub, Int.reduceLT, Int.reduceLE, Int.reduceEq, Int.reduceToNat, Option.map_some, List.length_map, List.getElem?_map, Int.toNat_natCast, f1]
  refine condD_split (fun f2 => ?_) (fun f2 => ?_)
  case refine_2 =>
    simp (maxSteps := 1000000) (disch := omega) only [go_sem, reduceIte, Nat.reduceEqDiff, Nat.reduceAdd, Nat.reduceLeDiff, Nat.reduceLT, Nat.reduceSub, Int.reduceLT, Int.reduceLE, Int.reduceEq, Int.reduceToNat, Option.map_some, List.length_map, List.getElem?_map, Int.toNat_natCast, f1, f2]
    exact .refl _
  obtain ⟨a1, a2⟩ := few_facts f1
  simp (maxSteps := 1000000) (disch := omega) only [go_sem, reduceIte, Nat.reduceEqDiff, Nat.reduceAdd, Nat.reduceLeDiff, Nat.reduceLT, Nat.reduceSub, Int.reduceLT, Int.reduceLE, Int.reduceEq, Int.reduceToNat, Option.map_some, List.length_map, List.getElem?_map, Int.toNat_natCast, f1, f2]
  refine condD_dec (fun h1 => ?_) (fun h1 => ?_)
  · simp (maxSteps := 1000000) (disch := omega) only [go_sem, reduceIte, Nat.reduceEqDiff, Nat.reduceAdd, Nat.reduceLeDiff, Nat.reduceLT, Nat.reduceSub, Int.reduceLT, Int.reduceLE, Int.reduceEq, Int.reduceToNat, Option.map_some, List.length_map, List.getElem?_map, Int.toNat_natCast]
    exact .refl _
  simp (maxSteps := 1000000) (disch := omega) only [go_sem, reduceIte, Nat.reduceEqDiff, Nat.reduceAdd, Nat.reduceLeDiff, Nat.reduceLT, Nat.reduceSub, Int.reduceLT, Int.reduceLE, Int.reduceEq, Int.reduceToNat, Option.map_some, List.length_map, List.getElem?_map, Int.toNat_natCast]
  have t1 := text_f a (by omega) (by omega)
  have t2 := textR_f a (by omega) (by omega)
  unfold textD at t1 t2
  refine call_pure t1 (pure1 _) ?_
  simp (maxSteps := 1000000) (disch := omega) only [go_sem, reduceIte, Nat.reduceEqDiff, Nat.reduceAdd, Nat.reduceLeDiff, Nat.reduceLT, Nat.reduceSub, Int.reduceLT, Int.reduceLE, Int.reduceEq, Int.reduceToNat, Option.map_some, List.length_map, List.getElem?_map, Int.toNat_natCast]
  refine call_pure t2 (pure1 _) ?_
  simp (maxSteps := 1000000) (disch := omega) only [go_sem, reduceIte, Nat.reduceEqDiff, Nat.reduceAdd, Nat.reduceLeDiff, Nat.reduceLT, Nat.reduceSub, Int.reduceLT, Int.reduceLE, Int.reduceEq, Int.reduceToNat, Option.map_some, List.length_map, List.getElem?_map, Int.toNat_natCast]
  refine call_pure (same_c a b ha hb) (pure2 _ _) ?_
  simp (maxSteps := 1000000) (disch := omega) only [go_sem, reduceIte, Nat.reduceEqDiff, Nat.reduceAdd, Nat.reduceLeDiff, Nat.reduceLT, Nat.reduceSub, Int.reduceLT, Int.reduceLE, Int.reduceEq, Int.reduceToNat, Option.map_some, List.length_map, List.getElem?_map, Int.toNat_natCast]
  refine call_pure (sameR_c a b ha hb) (pure2 _ _) ?_
  simp (maxSteps := 1000000) (disch := omega) only [go_sem, reduceIte, Nat.reduceEqDiff, Nat.reduceAdd, Nat.reduceLeDiff, Nat.reduceLT, Nat.reduceSub, Int.reduceLT, Int.reduceLE, Int.reduceEq, Int.reduceToNat, Option.map_some, List.length_map, List.getElem?_map, Int.toNat_natCast]
  have hs1 := same_c a a ha ha
  rw [sameL_refl] at hs1
  refine call_pure hs1 (pure2 _ _) ?_
  simp (maxSteps := 1000000) (disch := omega) only [go_sem, reduceIte, Nat.reduceEqDiff, Nat.reduceAdd, Nat.reduceLeDiff, Nat.reduceLT, Nat.reduceSub, Int.reduceLT, Int.reduceLE, Int.reduceEq, Int.reduceToNat, Option.map_some, List.length_map, List.getElem?_map, Int.toNat_natCast]
  refine call_pure (name_c s hs) (by simp [go_sem]) ?_
  simp (maxSteps := 1000000) (disch := omega) only [go_sem, reduceIte, Nat.reduceEqDiff, Nat.reduceAdd, Nat.reduceLeDiff, Nat.reduceLT, Nat.reduceSub, Int.reduceLT, Int.reduceLE, Int.reduceEq, Int.reduceToNat, Option.map_some, List.length_map, List.getElem?_map, Int.toNat_natCast]
  refine call_pure (nameR_c s hs) (by simp [go_sem]) ?_
  simp (maxSteps := 1000000) (disch := omega) only [go_sem, reduceIte, Nat.reduceEqDiff, Nat.reduceAdd, Nat.reduceLeDiff, Nat.reduceLT, Nat.reduceSub, Int.reduceLT, Int.reduceLE, Int.reduceEq, Int.reduceToNat, Option.map_some, List.length_map, List.getElem?_map, Int.toNat_natCast]
  exact .refl _
theorem lexText_c (a b : List Tok) (s : List UInt8) (ha : a.length ≤ 140737488355328) (hb : b.length ≤ 140737488355328) (hta : ∀ x ∈ a, x.t.length ≤ 140737488355328) (htb : ∀ x ∈ b, x.t.length ≤ 140737488355328) (hs : s.length ≤ 140737488355328) : CallsTo Tryd.prog 4 [toks a, toks b, .str s] (.bool true) := fn_calls mixed (lexText_d a b s ha hb hta htb hs) rfl (by kernel_rfl) rfl
end Go.V.Lx
