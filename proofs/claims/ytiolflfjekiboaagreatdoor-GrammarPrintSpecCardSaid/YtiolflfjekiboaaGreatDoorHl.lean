/-
  Grammar: the reference's Parse and Print; GrammarSpec and GrammarPrintSpec on data.
-/
import Derived.Test.YtiolflfjekiboaaGreatDoorHk
import Derived.Test.YtiolflfjekiboaaGreatDoorGl
namespace Go.V.Gr
open Go.Proofs Go.RowKit Go.V.Lx
set_option linter.unusedSimpArgs false
set_option linter.unusedVariables false
set_option maxRecDepth 100000

theorem lexR_x (s : Str) (hs : s.length ≤ M) : CallsTo Tryz.prog 23 [.str s] (.tup [.sl 4 ((lexL s).1.map Tok.d), .int .i64 (lexL s).2.1, .int .i64 (lexL s).2.2]) := lexR_c s hs
theorem textR_v (l : List Tk) (hl : l.length ≤ 1000000) (ht : ∀ x ∈ l, x.t.length ≤ 140737488355328) : CallsTo Tryz.prog 31 [.sl 4 (l.map Tok.d)] (textD (textL l)) := textR_c l hl ht fun k h => by
  have h1 := join_len (l.take k) h
  have h2 := valid_sum h
  have h3 : (l.take k).length ≤ l.length := by rw [List.length_take]; omega
  omega
theorem zero_weak : Weak (.agg [.str [], .nilsl, .str [], .int .i64 0, .nilsl, .nilsl]) (gx Gram.zero) := WL.agg ⟨.refl _, .nil _, .refl _, .refl _, .nil _, .nil _, trivial⟩
theorem parse_r (s : Str) (hs : s.length ≤ M) : fnD Tryz.prog (orac Tryz.prog) [(6, [(3, 2)])] Tryz.f12 [.str s] (.tup [gx (parseL s).1, .int .i64 (parseL s).2.1, .int .i64 (parseL s).2.2]) := by
  refine fn_intro _ [.cell 2 27, .tmp 3, .tmp 4] _ rfl rfl rfl (by kernel_rfl) ?_
  simp (maxSteps := 1000000) (disch := omega) only [go_sem, reduceIte, Nat.reduceEqDiff, Nat.reduceAdd, Nat.reduceLeDiff, Nat.reduceLT, Nat.reduceSub, Int.reduceLT, Int.reduceLE, Int.reduceEq, Int.reduceToNat, Option.map_some, List.length_map, List.getElem?_map, Int.toNat_natCast]
  refine call_pure (lexR_x s hs) (by simp [go_sem]) ?_
  have key : ∀ l : List Tk, s.length ≤ 65536 → LX s 0 l → lexL s = (l, 0, 0) → parseL s = readL l s.length := fun l _ _ h => by unfold parseL; rw [h]; rfl
  by_cases he : (lexL s).2.2 = 0
  · obtain ⟨hs', l, hl, h1⟩ : s.length ≤ 65536 ∧ ∃ l, LX s 0 l ∧ lexL s = (l, 0, 0) := by
      rcases parse_cases s with ⟨hs, l, g, hl, h1, hg, hp⟩ | ⟨hs, l, r, hl, h1, hg, hp⟩ | ⟨a, e, h1, he', hp⟩
      · exact ⟨hs, l, hl, h1⟩
      · exact ⟨hs, l, hl, h1⟩
      · rw [h1] at he; exact absurd he he'
    have hp := key l hs' hl h1
    have hlen := hl.facts.2.2
    have cr := read_rc ⟨l, 0, s.length, false, 0⟩ (show l.length ≤ 1000000 by omega)
    rw [h1, hp]
    rcases read_same l s.length hl.facts.1 with ⟨g, e1, q, e2, e3⟩ | ⟨a, e1, e2, e3⟩
    · rw [e1]
      rw [e2] at cr
      have cr' : CallsTo Tryz.prog 24 [.agg [.sl 4 (l.map Tok.d), .int .i64 0, .int .i64 (s.length : Int), .bool false, .int .i64 0]] (.tup [gx g, px q]) := cr
      simp only [gx, px, e3] at cr'
      simp (maxSteps := 1000000) (disch := omega) only [go_sem, reduceIte, Nat.reduceEqDiff, Nat.reduceAdd, Nat.reduceLeDiff, Nat.reduceLT, Nat.reduceSub, Int.reduceLT, Int.reduceLE, Int.reduceEq, Int.reduceToNat, Option.map_some, List.length_map, List.getElem?_map, Int.toNat_natCast]
      refine call_pure cr' (px_pure1 ⟨l, 0, s.length, false, 0⟩) ?_
      simp (maxSteps := 1000000) (disch := omega) only [go_sem, reduceIte, Nat.reduceEqDiff, Nat.reduceAdd, Nat.reduceLeDiff, Nat.reduceLT, Nat.reduceSub, Int.reduceLT, Int.reduceLE, Int.reduceEq, Int.reduceToNat, Option.map_some, List.length_map, List.getElem?_map, Int.toNat_natCast, gx]
      exact .refl _
    · rw [e1]
      obtain ⟨g, q, e4⟩ : ∃ g q, readR ⟨l, 0, s.length, false, 0⟩ = (g, q) := ⟨_, _, rfl⟩
      rw [e4] at cr e2 e3
      have cr' : CallsTo Tryz.prog 24 [.agg [.sl 4 (l.map Tok.d), .int .i64 0, .int .i64 (s.length : Int), .bool false, .int .i64 0]] (.tup [gx g, px q]) := cr
      simp only at e2 e3
      simp only [gx, px, e2, e3] at cr'
      simp (maxSteps := 1000000) (disch := omega) only [go_sem, reduceIte, Nat.reduceEqDiff, Nat.reduceAdd, Nat.reduceLeDiff, Nat.reduceLT, Nat.reduceSub, Int.reduceLT, Int.reduceLE, Int.reduceEq, Int.reduceToNat, Option.map_some, List.length_map, List.getElem?_map, Int.toNat_natCast]
      refine call_pure cr' (px_pure1 ⟨l, 0, s.length, false, 0⟩) ?_
      simp (maxSteps := 1000000) (disch := omega) only [go_sem, reduceIte, Nat.reduceEqDiff, Nat.reduceAdd, Nat.reduceLeDiff, Nat.reduceLT, Nat.reduceSub, Int.reduceLT, Int.reduceLE, Int.reduceEq, Int.reduceToNat, Option.map_some, List.length_map, List.getElem?_map, Int.toNat_natCast]
      exact WL.tup ⟨zero_weak, .refl _, .refl _, trivial⟩
  · have hp : parseL s = (Gram.zero, (lexL s).2.1, (lexL s).2.2) := by
      rcases parse_cases s with ⟨hs, l, g, hl, h1, hg, hp⟩ | ⟨hs, l, r, hl, h1, hg, hp⟩ | ⟨a, e, h1, he', hp⟩
      · rw [h1] at he; exact absurd rfl he
      · rw [h1] at he; exact absurd rfl he
      · rw [hp, h1]
    rw [hp]
    simp (maxSteps := 1000000) (disch := omega) only [go_sem, reduceIte, Nat.reduceEqDiff, Nat.reduceAdd, Nat.reduceLeDiff, Nat.reduceLT, Nat.reduceSub, Int.reduceLT, Int.reduceLE, Int.reduceEq, Int.reduceToNat, Option.map_some, List.length_map, List.getElem?_map, Int.toNat_natCast, he]
    exact WL.tup ⟨zero_weak, .refl _, .refl _, trivial⟩
theorem parse_rc (s : Str) (hs : s.length ≤ M) : CallsTo Tryz.prog 12 [.str s] (.tup [gx (parseL s).1, .int .i64 (parseL s).2.1, .int .i64 (parseL s).2.2]) := fn_calls mixed (parse_r s hs) rfl (by kernel_rfl) rfl
theorem print_r (g : Gram) (h : Pr g) : fnD Tryz.prog (orac Tryz.prog) [] Tryz.f16 [gx g] (.tup [.str (printL g).1, .int .i64 (printL g).2]) := by
  refine fn_intro _ [.tmp 2, .tmp 3] _ rfl rfl rfl (by kernel_rfl) ?_
  have ct := tokens_rc g h
  have hgp := gx_pure g
  simp only [gx] at ct hgp
  have cx := textR_v (tokensOf g) (by have := h.n; omega) h.t
  simp (maxSteps := 1000000) (disch := omega) only [go_sem, reduceIte, Nat.reduceEqDiff, Nat.reduceAdd, Nat.reduceLeDiff, Nat.reduceLT, Nat.reduceSub, Int.reduceLT, Int.reduceLE, Int.reduceEq, Int.reduceToNat, Option.map_some, List.length_map, List.getElem?_map, Int.toNat_natCast, gx]
  refine call_pure ct hgp ?_
  simp (maxSteps := 1000000) (disch := omega) only [go_sem, reduceIte, Nat.reduceEqDiff, Nat.reduceAdd, Nat.reduceLeDiff, Nat.reduceLT, Nat.reduceSub, Int.reduceLT, Int.reduceLE, Int.reduceEq, Int.reduceToNat, Option.map_some, List.length_map, List.getElem?_map, Int.toNat_natCast]
  refine call_pure cx (pure_tl _) ?_
  by_cases hvd : Vd (tokensOf g)
  · have hp : printL g = match readL (tokensOf g) 0 with
      | (x, _, e) => if e ≠ 0 then ([], 250) else if x = g then (Lib.join ((tokensOf g).map word) [32], 0) else ([], 250) := by unfold printL; rw [textL_ok hvd]; rfl
    rw [textL_ok hvd, hp]
    have cr := read_rc ⟨tokensOf g, 0, 0, false, 0⟩ (show (tokensOf g).length ≤ 1000000 by have := h.n; omega)
    rcases read_same (tokensOf g) 0 hvd with ⟨x, e1, q, e2, e3⟩ | ⟨a, e1, e2, e3⟩
    · rw [e1]
      rw [e2] at cr
      have cr' : CallsTo Tryz.prog 24 [.agg [.sl 4 ((tokensOf g).map Tok.d), .int .i64 0, .int .i64 0, .bool false, .int .i64 0]] (.tup [gx x, px q]) := cr
      have hgr : gramP (tokensOf g) = .ok (x, []) := by
        unfold readL at e1
        cases hg : gramP (tokensOf g) with
        | error r => rw [hg] at e1; injection e1 with _ e1; injection e1 with _ e1; exact absurd e1 (show ¬ ((250 : Int) = 0) by decide)
        | ok q => obtain ⟨y, r⟩ := q; rw [hg] at e1; injection e1 with e1 _; subst e1; rw [gram_rest hg]
      have hxs : Sz x := sz_of x (by rw [← same_len (gram_ok hvd hgr).1]; have := h.n; omega)
      have hsc := same_x hxs h.sz
      have hpu := gx_pure2 x g
      simp only [gx, px, e3] at cr' hsc hpu
      simp (maxSteps := 1000000) (disch := omega) only [go_sem, reduceIte, Nat.reduceEqDiff, Nat.reduceAdd, Nat.reduceLeDiff, Nat.reduceLT, Nat.reduceSub, Int.reduceLT, Int.reduceLE, Int.reduceEq, Int.reduceToNat, Option.map_some, List.length_map, List.getElem?_map, Int.toNat_natCast, textD]
      refine call_pure cr' (px_pure1 ⟨tokensOf g, 0, 0, false, 0⟩) ?_
      simp (maxSteps := 1000000) (disch := omega) only [go_sem, reduceIte, Nat.reduceEqDiff, Nat.reduceAdd, Nat.reduceLeDiff, Nat.reduceLT, Nat.reduceSub, Int.reduceLT, Int.reduceLE, Int.reduceEq, Int.reduceToNat, Option.map_some, List.length_map, List.getElem?_map, Int.toNat_natCast]
      refine call_pure hsc hpu ?_
      simp (maxSteps := 1000000) (disch := omega) only [go_sem, reduceIte, Nat.reduceEqDiff, Nat.reduceAdd, Nat.reduceLeDiff, Nat.reduceLT, Nat.reduceSub, Int.reduceLT, Int.reduceLE, Int.reduceEq, Int.reduceToNat, Option.map_some, List.length_map, List.getElem?_map, Int.toNat_natCast]
      refine condD_dec (fun he => ?_) (fun he => ?_)
      · simp (maxSteps := 1000000) (disch := omega) only [go_sem, reduceIte, Nat.reduceEqDiff, Nat.reduceAdd, Nat.reduceLeDiff, Nat.reduceLT, Nat.reduceSub, Int.reduceLT, Int.reduceLE, Int.reduceEq, Int.reduceToNat, Option.map_some, List.length_map, List.getElem?_map, Int.toNat_natCast]
        simp only [he, if_true]
        exact .refl _
      · simp (maxSteps := 1000000) (disch := omega) only [go_sem, reduceIte, Nat.reduceEqDiff, Nat.reduceAdd, Nat.reduceLeDiff, Nat.reduceLT, Nat.reduceSub, Int.reduceLT, Int.reduceLE, Int.reduceEq, Int.reduceToNat, Option.map_some, List.length_map, List.getElem?_map, Int.toNat_natCast]
        simp only [he, if_false]
        exact .refl _
    · rw [e1]
      obtain ⟨x, q, e4⟩ : ∃ g' q, readR ⟨tokensOf g, 0, 0, false, 0⟩ = (g', q) := ⟨_, _, rfl⟩
      rw [e4] at cr e2
      have cr' : CallsTo Tryz.prog 24 [.agg [.sl 4 ((tokensOf g).map Tok.d), .int .i64 0, .int .i64 0, .bool false, .int .i64 0]] (.tup [gx x, px q]) := cr
      simp only at e2
      simp only [gx, px, e2] at cr'
      simp (maxSteps := 1000000) (disch := omega) only [go_sem, reduceIte, Nat.reduceEqDiff, Nat.reduceAdd, Nat.reduceLeDiff, Nat.reduceLT, Nat.reduceSub, Int.reduceLT, Int.reduceLE, Int.reduceEq, Int.reduceToNat, Option.map_some, List.length_map, List.getElem?_map, Int.toNat_natCast, textD]
      refine call_pure cr' (px_pure1 ⟨tokensOf g, 0, 0, false, 0⟩) ?_
      simp (maxSteps := 1000000) (disch := omega) only [go_sem, reduceIte, Nat.reduceEqDiff, Nat.reduceAdd, Nat.reduceLeDiff, Nat.reduceLT, Nat.reduceSub, Int.reduceLT, Int.reduceLE, Int.reduceEq, Int.reduceToNat, Option.map_some, List.length_map, List.getElem?_map, Int.toNat_natCast]
      exact .refl _
  · have hp : printL g = ([], 250) := by unfold printL; rw [textL_no hvd]; rfl
    rw [textL_no hvd, hp]
    simp (maxSteps := 1000000) (disch := omega) only [go_sem, reduceIte, Nat.reduceEqDiff, Nat.reduceAdd, Nat.reduceLeDiff, Nat.reduceLT, Nat.reduceSub, Int.reduceLT, Int.reduceLE, Int.reduceEq, Int.reduceToNat, Option.map_some, List.length_map, List.getElem?_map, Int.toNat_natCast, textD]
    exact .refl _
theorem print_rc (g : Gram) (h : Pr g) : CallsTo Tryz.prog 16 [gx g] (.tup [.str (printL g).1, .int .i64 (printL g).2]) := fn_calls mixed (print_r g h) rfl (by kernel_rfl) rfl
theorem spec_d (s : Str) (hs : s.length ≤ M) : fnD Tryz.prog (orac Tryz.prog) [] Tryz.f3 [.str s] (.bool true) := by
  refine fn_intro _ [.tmp 2] _ rfl rfl rfl (by kernel_rfl) ?_
  simp (maxSteps := 1000000) (disch := omega) only [go_sem, reduceIte, Nat.reduceEqDiff, Nat.reduceAdd, Nat.reduceLeDiff, Nat.reduceLT, Nat.reduceSub, Int.reduceLT, Int.reduceLE, Int.reduceEq, Int.reduceToNat, Option.map_some, List.length_map, List.getElem?_map, Int.toNat_natCast]
  refine call_pure sane_c rfl ?_
  simp (maxSteps := 1000000) (disch := omega) only [go_sem, reduceIte, Nat.reduceEqDiff, Nat.reduceAdd, Nat.reduceLeDiff, Nat.reduceLT, Nat.reduceSub, Int.reduceLT, Int.reduceLE, Int.reduceEq, Int.reduceToNat, Option.map_some, List.length_map, List.getElem?_map, Int.toNat_natCast]
  refine condD_dec (fun h1 => ?_) (fun h1 => ?_)
  · simp (maxSteps := 1000000) (disch := omega) only [go_sem, reduceIte, Nat.reduceEqDiff, Nat.reduceAdd, Nat.reduceLeDiff, Nat.reduceLT, Nat.reduceSub, Int.reduceLT, Int.reduceLE, Int.reduceEq, Int.reduceToNat, Option.map_some, List.length_map, List.getElem?_map, Int.toNat_natCast]
    exact .refl _
  have c1 := parse_x s hs
  have c2 := parse_rc s hs
  have hz := (parse_pr s).sz
  have c3 := same_x hz hz
  have hp2 := gx_pure2 (parseL s).1 (parseL s).1
  rw [decide_eq_true rfl] at c3
  simp only [gx] at c1 c2 c3 hp2
  simp (maxSteps := 1000000) (disch := omega) only [go_sem, reduceIte, Nat.reduceEqDiff, Nat.reduceAdd, Nat.reduceLeDiff, Nat.reduceLT, Nat.reduceSub, Int.reduceLT, Int.reduceLE, Int.reduceEq, Int.reduceToNat, Option.map_some, List.length_map, List.getElem?_map, Int.toNat_natCast]
  refine call_pure c1 (by simp [go_sem]) ?_
  simp (maxSteps := 1000000) (disch := omega) only [go_sem, reduceIte, Nat.reduceEqDiff, Nat.reduceAdd, Nat.reduceLeDiff, Nat.reduceLT, Nat.reduceSub, Int.reduceLT, Int.reduceLE, Int.reduceEq, Int.reduceToNat, Option.map_some, List.length_map, List.getElem?_map, Int.toNat_natCast]
  refine call_pure c2 (by simp [go_sem]) ?_
  simp (maxSteps := 1000000) (disch := omega) only [go_sem, reduceIte, Nat.reduceEqDiff, Nat.reduceAdd, Nat.reduceLeDiff, Nat.reduceLT, Nat.reduceSub, Int.reduceLT, Int.reduceLE, Int.reduceEq, Int.reduceToNat, Option.map_some, List.length_map, List.getElem?_map, Int.toNat_natCast]
  refine call_pure c3 hp2 ?_
  simp (maxSteps := 1000000) (disch := omega) only [go_sem, reduceIte, Nat.reduceEqDiff, Nat.reduceAdd, Nat.reduceLeDiff, Nat.reduceLT, Nat.reduceSub, Int.reduceLT, Int.reduceLE, Int.reduceEq, Int.reduceToNat, Option.map_some, List.length_map, List.getElem?_map, Int.toNat_natCast]
  exact .refl _
theorem spec_c (s : Str) (hs : s.length ≤ M) : CallsTo Tryz.prog 3 [.str s] (.bool true) := fn_calls mixed (spec_d s hs) rfl (by kernel_rfl) rfl
theorem printSpec_d (g : Gram) (hz : Sz g) (hst : St g) : fnD Tryz.prog (orac Tryz.prog) [] Tryz.f4 [g.d] (.bool true) := by
  refine fn_intro _ [.tmp 2] _ rfl rfl rfl (by kernel_rfl) ?_
  have cf := few_x hz hst
  have hgp := gx_pure g
  simp only [gx] at cf hgp
  rw [gx_eq]
  simp (maxSteps := 1000000) (disch := omega) only [go_sem, reduceIte, Nat.reduceEqDiff, Nat.reduceAdd, Nat.reduceLeDiff, Nat.reduceLT, Nat.reduceSub, Int.reduceLT, Int.reduceLE, Int.reduceEq, Int.reduceToNat, Option.map_some, List.length_map, List.getElem?_map, Int.toNat_natCast, gx]
  refine call_pure sane_c rfl ?_
  simp (maxSteps := 1000000) (disch := omega) only [go_sem, reduceIte, Nat.reduceEqDiff, Nat.reduceAdd, Nat.reduceLeDiff, Nat.reduceLT, Nat.reduceSub, Int.reduceLT, Int.reduceLE, Int.reduceEq, Int.reduceToNat, Option.map_some, List.length_map, List.getElem?_map, Int.toNat_natCast, gx]
  refine call_pure cf hgp ?_
  cases hf : fewG g with
  | false =>
    simp (maxSteps := 1000000) (disch := omega) only [go_sem, reduceIte, Nat.reduceEqDiff, Nat.reduceAdd, Nat.reduceLeDiff, Nat.reduceLT, Nat.reduceSub, Int.reduceLT, Int.reduceLE, Int.reduceEq, Int.reduceToNat, Option.map_some, List.length_map, List.getElem?_map, Int.toNat_natCast, hf]
    exact .refl _
  | true =>
  have hpr := (few_of hf).pr hst
  have c1 := print_x hpr
  have c2 := print_rc g hpr
  simp only [gx] at c1 c2
  simp (maxSteps := 1000000) (disch := omega) only [go_sem, reduceIte, Nat.reduceEqDiff, Nat.reduceAdd, Nat.reduceLeDiff, Nat.reduceLT, Nat.reduceSub, Int.reduceLT, Int.reduceLE, Int.reduceEq, Int.reduceToNat, Option.map_some, List.length_map, List.getElem?_map, Int.toNat_natCast, hf]
  refine call_pure c1 hgp ?_
  simp (maxSteps := 1000000) (disch := omega) only [go_sem, reduceIte, Nat.reduceEqDiff, Nat.reduceAdd, Nat.reduceLeDiff, Nat.reduceLT, Nat.reduceSub, Int.reduceLT, Int.reduceLE, Int.reduceEq, Int.reduceToNat, Option.map_some, List.length_map, List.getElem?_map, Int.toNat_natCast]
  refine call_pure c2 hgp ?_
  simp (maxSteps := 1000000) (disch := omega) only [go_sem, reduceIte, Nat.reduceEqDiff, Nat.reduceAdd, Nat.reduceLeDiff, Nat.reduceLT, Nat.reduceSub, Int.reduceLT, Int.reduceLE, Int.reduceEq, Int.reduceToNat, Option.map_some, List.length_map, List.getElem?_map, Int.toNat_natCast]
  exact .refl _
theorem printSpec_c (g : Gram) (hz : Sz g) (hst : St g) : CallsTo Tryz.prog 4 [g.d] (.bool true) := fn_calls mixed (printSpec_d g hz hst) rfl (by kernel_rfl) rfl
end Go.V.Gr
