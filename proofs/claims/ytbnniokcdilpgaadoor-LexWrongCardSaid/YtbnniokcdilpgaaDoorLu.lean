/-
  Lex: the statements LexNames, LexWrong, LexBack on data.
-/
import Derived.Test.YtbnniokcdilpgaaDoorLt
namespace Go.V.Lx
open Go.Proofs Go.RowKit
set_option linter.unusedSimpArgs false
set_option linter.unusedVariables false
set_option maxRecDepth 20000

theorem lex_ok0 (s : List UInt8) (hs : s.length ≤ 65536) : ((lexL s).2.2 = 0 ∧ ∃ l, LX s 0 l ∧ lexL s = (l, 0, 0)) ∨ ((lexL s).2.2 = 30 ∧ ∃ k, LE s 0 k ∧ lexL s = ([], (k : Int), 30)) := by
  rcases lex_cases s hs with ⟨l, h1, h2⟩ | ⟨k, h1, h2⟩
  · exact .inl ⟨by rw [h2], l, h1, h2⟩
  · exact .inr ⟨by rw [h2], k, h1, h2⟩
theorem lex_s {s : List UInt8} {r : List Tok × Int × Int} (hs : s.length ≤ 65536) (h : lexL s = r) : CallsTo Tryd.prog 11 [.str s] (.tup [.sl 4 (r.1.map Tok.d), .int .i64 r.2.1, .int .i64 r.2.2]) := by
  rw [← h]; exact lex_t s (by omega)
theorem st_inj {s : List UInt8} {n : Nat} {l : List Tok} (h : LX s 0 l) (hs : st s = some (n, [⟨1, s, 0, 0⟩])) (hn : n = s.length) : l = [⟨1, s, 0, 0⟩] := by
  cases h with
  | nil => cases hs
  | step h1 k =>
    rw [hs] at h1
    injection h1 with h1; injection h1 with h1 h2
    subst h1; subst h2
    subst hn
    rw [List.drop_length] at k
    cases k with
    | nil => rfl
    | step h3 _ => cases h3
/-- a name is a single token -/
theorem name_lx {s : List UInt8} (h : nameB s = true) : LX s 0 [⟨1, s, 0, 0⟩] := by
  have hv : validB ⟨1, s, 0, 0⟩ = true := by simp [validB, h]
  have hs := st_word hv stops_nil
  rw [List.append_nil] at hs
  have hw : word ⟨1, s, 0, 0⟩ = s := rfl
  rw [hw] at hs
  have := LX.step (i := 0) hs (l' := []) (by rw [List.drop_length]; exact .nil _)
  exact this
theorem valid_name (s : List UInt8) : validB ⟨1, s, 0, 0⟩ = nameB s := by simp [validB]
theorem text_one (x : Tok) : textL [x] = if validB x = true then (word x, 0) else ([], 30) := by
  unfold textL
  simp only [List.all_cons, List.all_nil, Bool.and_true, List.map_cons, List.map_nil, Lib.join_one]
set_option maxHeartbeats 4000000 in
theorem lexNames_d (s : List UInt8) (hs : s.length ≤ 140737488355328) : fnD Tryd.prog (orac Tryd.prog) [] Tryd.f9 [.str s] (.bool true) := by
  refine fn_intro _ [.tmp 2] _ rfl rfl rfl (by kernel_rfl) ?_
  simp (maxSteps := 1000000) (disch := omega) only [go_sem, reduceIte, Nat.reduceEqDiff, Nat.reduceAdd, Nat.reduceLeDiff, Nat.reduceLT, Nat.reduceSub, Int.reduceLT, Int.reduceLE, Int.reduceEq, Int.reduceToNat, Option.map_some, List.length_map, List.getElem?_map, Int.toNat_natCast]
  refine call_pure sane_c rfl ?_
  simp (maxSteps := 1000000) (disch := omega) only [go_sem, reduceIte, Nat.reduceEqDiff, Nat.reduceAdd, Nat.reduceLeDiff, Nat.reduceLT, Nat.reduceSub, Int.reduceLT, Int.reduceLE, Int.reduceEq, Int.reduceToNat, Option.map_some, List.length_map, List.getElem?_map, Int.toNat_natCast]
  refine condD_dec (fun h1 => ?_) (fun h1 => ?_)
  · simp (maxSteps := 1000000) (disch := omega) only [go_sem, reduceIte, Nat.reduceEqDiff, Nat.reduceAdd, Nat.reduceLeDiff, Nat.reduceLT, Nat.reduceSub, Int.reduceLT, Int.reduceLE, Int.reduceEq, Int.reduceToNat, Option.map_some, List.length_map, List.getElem?_map, Int.toNat_natCast]
    exact .refl _
  have hs6 : s.length ≤ 65536 := by omega
  have ht := text_f [⟨1, s, 0, 0⟩] (by simp) (by rw [sum_cons]; simp [textSum]; omega)
  have hn := name_c s (by omega)
  rw [text_one, valid_name] at ht
  cases hb : nameB s with
  | true =>
    have hl := (name_lx hb).lex hs6
    have hc := lex_s hs6 hl
    rw [hb] at hn
    rw [hb, if_pos rfl] at ht
    simp only [textD, toks, Tok.d, List.map_cons, List.map_nil] at ht hc
    simp (maxSteps := 1000000) (disch := omega) only [go_sem, reduceIte, Nat.reduceEqDiff, Nat.reduceAdd, Nat.reduceLeDiff, Nat.reduceLT, Nat.reduceSub, Int.reduceLT, Int.reduceLE, Int.reduceEq, Int.reduceToNat, Option.map_some, List.length_map, List.getElem?_map, Int.toNat_natCast]
    refine call_pure hc (by simp [go_sem]) ?_
    have k1 : ((1 : Nat) : Int) = 1 := rfl
    simp (maxSteps := 1000000) (disch := omega) only [go_sem, reduceIte, Nat.reduceEqDiff, Nat.reduceAdd, Nat.reduceLeDiff, Nat.reduceLT, Nat.reduceSub, Int.reduceLT, Int.reduceLE, Int.reduceEq, Int.reduceToNat, Option.map_some, List.length_map, List.getElem?_map, Int.toNat_natCast, List.length_cons, List.length_nil, k1]
    refine call_pure ht (by simp [go_sem]) ?_
    simp (maxSteps := 1000000) (disch := omega) only [go_sem, reduceIte, Nat.reduceEqDiff, Nat.reduceAdd, Nat.reduceLeDiff, Nat.reduceLT, Nat.reduceSub, Int.reduceLT, Int.reduceLE, Int.reduceEq, Int.reduceToNat, Option.map_some, List.length_map, List.getElem?_map, Int.toNat_natCast]
    refine call_pure hn (by simp [go_sem]) ?_
    simp (maxSteps := 1000000) (disch := omega) only [go_sem, reduceIte, Nat.reduceEqDiff, Nat.reduceAdd, Nat.reduceLeDiff, Nat.reduceLT, Nat.reduceSub, Int.reduceLT, Int.reduceLE, Int.reduceEq, Int.reduceToNat, Option.map_some, List.length_map, List.getElem?_map, Int.toNat_natCast]
    exact .refl _
  | false =>
    have hone : ¬ lexL s = ([⟨1, s, 0, 0⟩], 0, 0) := by
      intro h
      rcases lex_ok0 s hs6 with ⟨_, l, hlx, h2⟩ | ⟨_, k, _, h2⟩
      · rw [h] at h2
        injection h2 with h2 _
        subst h2
        have := hlx.facts.1
        simp only [List.all_cons, List.all_nil, Bool.and_true, valid_name, hb] at this
        cases this
      · rw [h] at h2
        injection h2 with h2 _
        cases h2
    rw [hb] at hn
    rw [hb, if_neg (by simp)] at ht
    simp only [textD, toks, Tok.d, List.map_cons, List.map_nil] at ht
    have fin : ∀ b : Bool, b = false → True := fun _ _ => trivial
    simp (maxSteps := 1000000) (disch := omega) only [go_sem, reduceIte, Nat.reduceEqDiff, Nat.reduceAdd, Nat.reduceLeDiff, Nat.reduceLT, Nat.reduceSub, Int.reduceLT, Int.reduceLE, Int.reduceEq, Int.reduceToNat, Option.map_some, List.length_map, List.getElem?_map, Int.toNat_natCast]
    rcases lex_ok0 s hs6 with ⟨_, l, hlx, h2⟩ | ⟨_, k, _, h2⟩
    · have hc := lex_s hs6 h2
      match l, hlx, h2, hc with
      | [], hlx, h2, hc =>
        simp only [toks, Tok.d, List.map_cons, List.map_nil] at hc
        refine call_pure hc (by simp [go_sem]) ?_
        have k1 : ((0 : Nat) : Int) = 0 := rfl
        simp (maxSteps := 1000000) (disch := omega) only [go_sem, reduceIte, Nat.reduceEqDiff, Nat.reduceAdd, Nat.reduceLeDiff, Nat.reduceLT, Nat.reduceSub, Int.reduceLT, Int.reduceLE, Int.reduceEq, Int.reduceToNat, Option.map_some, List.length_map, List.getElem?_map, Int.toNat_natCast, List.length_cons, List.length_nil, k1]
        refine call_pure ht (by simp [go_sem]) ?_
        simp (maxSteps := 1000000) (disch := omega) only [go_sem, reduceIte, Nat.reduceEqDiff, Nat.reduceAdd, Nat.reduceLeDiff, Nat.reduceLT, Nat.reduceSub, Int.reduceLT, Int.reduceLE, Int.reduceEq, Int.reduceToNat, Option.map_some, List.length_map, List.getElem?_map, Int.toNat_natCast]
        refine call_pure hn (by simp [go_sem]) ?_
        simp (maxSteps := 1000000) (disch := omega) only [go_sem, reduceIte, Nat.reduceEqDiff, Nat.reduceAdd, Nat.reduceLeDiff, Nat.reduceLT, Nat.reduceSub, Int.reduceLT, Int.reduceLE, Int.reduceEq, Int.reduceToNat, Option.map_some, List.length_map, List.getElem?_map, Int.toNat_natCast]
        exact .refl _
      | [x], hlx, h2, hc =>
        have hxd : x.d = .agg [.int .i64 x.k, .str x.t, .int .i64 x.n, .int .i64 x.a] := rfl
        simp only [List.map_cons, List.map_nil, hxd] at hc
        refine call_pure hc (by simp [go_sem]) ?_
        have k1 : ((1 : Nat) : Int) = 1 := rfl
        have hx : ¬ (x.k = 1 ∧ x.t = s ∧ x.a = 0 ∧ x.n = 0) := by
          rintro ⟨e1, e2, e3, e4⟩
          apply hone
          rw [h2]
          obtain ⟨xk, xt, xn, xa⟩ := x
          simp only at e1 e2 e3 e4
          subst e1; subst e2; subst e3; subst e4
          rfl
        simp (maxSteps := 1000000) (disch := omega) only [go_sem, reduceIte, Nat.reduceEqDiff, Nat.reduceAdd, Nat.reduceLeDiff, Nat.reduceLT, Nat.reduceSub, Int.reduceLT, Int.reduceLE, Int.reduceEq, Int.reduceToNat, Option.map_some, List.length_map, List.getElem?_map, Int.toNat_natCast, List.length_cons, List.length_nil, k1]
        clear h2 hone hlx fin
        by_cases e1 : x.k = 1
        · by_cases e2 : x.t = s
          · by_cases e3 : x.a = 0
            · have e4 : ¬ x.n = 0 := fun h => hx ⟨e1, e2, e3, h⟩
              simp (maxSteps := 1000000) (disch := omega) only [go_sem, reduceIte, Nat.reduceEqDiff, Nat.reduceAdd, Nat.reduceLeDiff, Nat.reduceLT, Nat.reduceSub, Int.reduceLT, Int.reduceLE, Int.reduceEq, Int.reduceToNat, Option.map_some, List.length_map, List.getElem?_map, Int.toNat_natCast, e1, e2, e3, e4]
              refine call_pure ht (by simp [go_sem]) ?_
              simp (maxSteps := 1000000) (disch := omega) only [go_sem, reduceIte, Nat.reduceEqDiff, Nat.reduceAdd, Nat.reduceLeDiff, Nat.reduceLT, Nat.reduceSub, Int.reduceLT, Int.reduceLE, Int.reduceEq, Int.reduceToNat, Option.map_some, List.length_map, List.getElem?_map, Int.toNat_natCast]
              refine call_pure hn (by simp [go_sem]) ?_
              simp (maxSteps := 1000000) (disch := omega) only [go_sem, reduceIte, Nat.reduceEqDiff, Nat.reduceAdd, Nat.reduceLeDiff, Nat.reduceLT, Nat.reduceSub, Int.reduceLT, Int.reduceLE, Int.reduceEq, Int.reduceToNat, Option.map_some, List.length_map, List.getElem?_map, Int.toNat_natCast]
              exact .refl _
            · simp (maxSteps := 1000000) (disch := omega) only [go_sem, reduceIte, Nat.reduceEqDiff, Nat.reduceAdd, Nat.reduceLeDiff, Nat.reduceLT, Nat.reduceSub, Int.reduceLT, Int.reduceLE, Int.reduceEq, Int.reduceToNat, Option.map_some, List.length_map, List.getElem?_map, Int.toNat_natCast, e1, e2, e3]
              refine call_pure ht (by simp [go_sem]) ?_
              simp (maxSteps := 1000000) (disch := omega) only [go_sem, reduceIte, Nat.reduceEqDiff, Nat.reduceAdd, Nat.reduceLeDiff, Nat.reduceLT, Nat.reduceSub, Int.reduceLT, Int.reduceLE, Int.reduceEq, Int.reduceToNat, Option.map_some, List.length_map, List.getElem?_map, Int.toNat_natCast]
              refine call_pure hn (by simp [go_sem]) ?_
              simp (maxSteps := 1000000) (disch := omega) only [go_sem, reduceIte, Nat.reduceEqDiff, Nat.reduceAdd, Nat.reduceLeDiff, Nat.reduceLT, Nat.reduceSub, Int.reduceLT, Int.reduceLE, Int.reduceEq, Int.reduceToNat, Option.map_some, List.length_map, List.getElem?_map, Int.toNat_natCast]
              exact .refl _
          · simp (maxSteps := 1000000) (disch := omega) only [go_sem, reduceIte, Nat.reduceEqDiff, Nat.reduceAdd, Nat.reduceLeDiff, Nat.reduceLT, Nat.reduceSub, Int.reduceLT, Int.reduceLE, Int.reduceEq, Int.reduceToNat, Option.map_some, List.length_map, List.getElem?_map, Int.toNat_natCast, e1, e2]
            refine call_pure ht (by simp [go_sem]) ?_
            simp (maxSteps := 1000000) (disch := omega) only [go_sem, reduceIte, Nat.reduceEqDiff, Nat.reduceAdd, Nat.reduceLeDiff, Nat.reduceLT, Nat.reduceSub, Int.reduceLT, Int.reduceLE, Int.reduceEq, Int.reduceToNat, Option.map_some, List.length_map, List.getElem?_map, Int.toNat_natCast]
            refine call_pure hn (by simp [go_sem]) ?_
            simp (maxSteps := 1000000) (disch := omega) only [go_sem, reduceIte, Nat.reduceEqDiff, Nat.reduceAdd, Nat.reduceLeDiff, Nat.reduceLT, Nat.reduceSub, Int.reduceLT, Int.reduceLE, Int.reduceEq, Int.reduceToNat, Option.map_some, List.length_map, List.getElem?_map, Int.toNat_natCast]
            exact .refl _
        · simp (maxSteps := 1000000) (disch := omega) only [go_sem, reduceIte, Nat.reduceEqDiff, Nat.reduceAdd, Nat.reduceLeDiff, Nat.reduceLT, Nat.reduceSub, Int.reduceLT, Int.reduceLE, Int.reduceEq, Int.reduceToNat, Option.map_some, List.length_map, List.getElem?_map, Int.toNat_natCast, e1]
          refine call_pure ht (by simp [go_sem]) ?_
          simp (maxSteps := 1000000) (disch := omega) only [go_sem, reduceIte, Nat.reduceEqDiff, Nat.reduceAdd, Nat.reduceLeDiff, Nat.reduceLT, Nat.reduceSub, Int.reduceLT, Int.reduceLE, Int.reduceEq, Int.reduceToNat, Option.map_some, List.length_map, List.getElem?_map, Int.toNat_natCast]
          refine call_pure hn (by simp [go_sem]) ?_
          simp (maxSteps := 1000000) (disch := omega) only [go_sem, reduceIte, Nat.reduceEqDiff, Nat.reduceAdd, Nat.reduceLeDiff, Nat.reduceLT, Nat.reduceSub, Int.reduceLT, Int.reduceLE, Int.reduceEq, Int.reduceToNat, Option.map_some, List.length_map, List.getElem?_map, Int.toNat_natCast]
          exact .refl _
      | x :: y :: l, hlx, h2, hc =>
        refine call_pure hc (by simp [go_sem, pureL_toks]) ?_
        have k1 : ¬ (((l.length + 1 + 1 : Nat) : Int) = 1) := by omega
        simp (maxSteps := 1000000) (disch := omega) only [go_sem, reduceIte, Nat.reduceEqDiff, Nat.reduceAdd, Nat.reduceLeDiff, Nat.reduceLT, Nat.reduceSub, Int.reduceLT, Int.reduceLE, Int.reduceEq, Int.reduceToNat, Option.map_some, List.length_map, List.getElem?_map, Int.toNat_natCast, List.length_cons, List.length_nil, k1]
        refine call_pure ht (by simp [go_sem]) ?_
        simp (maxSteps := 1000000) (disch := omega) only [go_sem, reduceIte, Nat.reduceEqDiff, Nat.reduceAdd, Nat.reduceLeDiff, Nat.reduceLT, Nat.reduceSub, Int.reduceLT, Int.reduceLE, Int.reduceEq, Int.reduceToNat, Option.map_some, List.length_map, List.getElem?_map, Int.toNat_natCast]
        refine call_pure hn (by simp [go_sem]) ?_
        simp (maxSteps := 1000000) (disch := omega) only [go_sem, reduceIte, Nat.reduceEqDiff, Nat.reduceAdd, Nat.reduceLeDiff, Nat.reduceLT, Nat.reduceSub, Int.reduceLT, Int.reduceLE, Int.reduceEq, Int.reduceToNat, Option.map_some, List.length_map, List.getElem?_map, Int.toNat_natCast]
        exact .refl _
    · have hc := lex_s hs6 h2
      simp only [toks, Tok.d, List.map_cons, List.map_nil] at hc
      refine call_pure hc (by simp [go_sem]) ?_
      simp (maxSteps := 1000000) (disch := omega) only [go_sem, reduceIte, Nat.reduceEqDiff, Nat.reduceAdd, Nat.reduceLeDiff, Nat.reduceLT, Nat.reduceSub, Int.reduceLT, Int.reduceLE, Int.reduceEq, Int.reduceToNat, Option.map_some, List.length_map, List.getElem?_map, Int.toNat_natCast]
      refine call_pure ht (by simp [go_sem]) ?_
      simp (maxSteps := 1000000) (disch := omega) only [go_sem, reduceIte, Nat.reduceEqDiff, Nat.reduceAdd, Nat.reduceLeDiff, Nat.reduceLT, Nat.reduceSub, Int.reduceLT, Int.reduceLE, Int.reduceEq, Int.reduceToNat, Option.map_some, List.length_map, List.getElem?_map, Int.toNat_natCast]
      refine call_pure hn (by simp [go_sem]) ?_
      simp (maxSteps := 1000000) (disch := omega) only [go_sem, reduceIte, Nat.reduceEqDiff, Nat.reduceAdd, Nat.reduceLeDiff, Nat.reduceLT, Nat.reduceSub, Int.reduceLT, Int.reduceLE, Int.reduceEq, Int.reduceToNat, Option.map_some, List.length_map, List.getElem?_map, Int.toNat_natCast]
      exact .refl _
theorem lexNames_c (s : List UInt8) (hs : s.length ≤ 140737488355328) : CallsTo Tryd.prog 9 [.str s] (.bool true) := fn_calls mixed (lexNames_d s hs) rfl (by kernel_rfl) rfl

set_option maxHeartbeats 4000000 in
theorem lexWrong_d (s m : List UInt8) (hs : s.length ≤ 140737488355328) (hm : m.length ≤ 140737488355328) : fnD Tryd.prog (orac Tryd.prog) [] Tryd.f8 [.str s, .str m] (.bool true) := by
  refine fn_intro _ [.tmp 4] _ rfl rfl rfl (by kernel_rfl) ?_
  simp (maxSteps := 1000000) (disch := omega) only [go_sem, reduceIte, Nat.reduceEqDiff, Nat.reduceAdd, Nat.reduceLeDiff, Nat.reduceLT, Nat.reduceSub, Int.reduceLT, Int.reduceLE, Int.reduceEq, Int.reduceToNat, Option.map_some, List.length_map, List.getElem?_map, Int.toNat_natCast]
  refine call_pure sane_c rfl ?_
  have hw : IntKind.i64.wrap ((s.length : Int) + (m.length : Int)) = ((s.length + m.length : Nat) : Int) := by rw [wrap_i64 (by omega) (by omega)]; omega
  simp (maxSteps := 1000000) (disch := omega) only [go_sem, reduceIte, Nat.reduceEqDiff, Nat.reduceAdd, Nat.reduceLeDiff, Nat.reduceLT, Nat.reduceSub, Int.reduceLT, Int.reduceLE, Int.reduceEq, Int.reduceToNat, Option.map_some, List.length_map, List.getElem?_map, Int.toNat_natCast, hw]
  refine condD_dec (fun h1 => ?_) (fun h1 => ?_)
  · simp (maxSteps := 1000000) (disch := omega) only [go_sem, reduceIte, Nat.reduceEqDiff, Nat.reduceAdd, Nat.reduceLeDiff, Nat.reduceLT, Nat.reduceSub, Int.reduceLT, Int.reduceLE, Int.reduceEq, Int.reduceToNat, Option.map_some, List.length_map, List.getElem?_map, Int.toNat_natCast]
    exact .refl _
  have hs6 : s.length ≤ 65536 := by omega
  rcases lex_ok0 s hs6 with ⟨_, l, hlx, h2⟩ | ⟨_, k, hle, h2⟩
  · have hc := lex_s hs6 h2
    simp (maxSteps := 1000000) (disch := omega) only [go_sem, reduceIte, Nat.reduceEqDiff, Nat.reduceAdd, Nat.reduceLeDiff, Nat.reduceLT, Nat.reduceSub, Int.reduceLT, Int.reduceLE, Int.reduceEq, Int.reduceToNat, Option.map_some, List.length_map, List.getElem?_map, Int.toNat_natCast]
    refine call_pure hc (by simp [go_sem, pureL_toks]) ?_
    simp (maxSteps := 1000000) (disch := omega) only [go_sem, reduceIte, Nat.reduceEqDiff, Nat.reduceAdd, Nat.reduceLeDiff, Nat.reduceLT, Nat.reduceSub, Int.reduceLT, Int.reduceLE, Int.reduceEq, Int.reduceToNat, Option.map_some, List.length_map, List.getElem?_map, Int.toNat_natCast]
    exact .refl _
  · have hc := lex_s hs6 h2
    have hb := hle.bounds
    rw [Nat.zero_add] at hb
    obtain ⟨l1, h3⟩ := hle.before
    rw [Nat.sub_zero] at h3
    have hf := hle.from
    rw [Nat.sub_zero] at hf
    have hc1 := lex_s (s := s.take k) (by rw [List.length_take]; omega) (h3.lex (by rw [List.length_take]; omega))
    have hc2 := lex_s (s := s ++ 32 :: m) (by rw [List.length_append, List.length_cons]; omega) ((hle.more m).lex (by rw [List.length_append, List.length_cons]; omega))
    have hc3 := lex_s (s := s.drop k) (by rw [List.length_drop]; omega) ((LE.here 0 hf.2 hf.1).lex (by rw [List.length_drop]; omega))
    have g1 : (0 : Int) ≤ (k : Int) := by omega
    have g2 : ¬ (k : Int) < 0 := by omega
    have g3 : (k : Int) < (s.length : Int) := by omega
    have g4 : (k : Int) ≤ (s.length : Int) := by omega
    have g5 : ¬ (s.length : Int) ≤ (k : Int) := by omega
    have e1 : (s.drop 0).take (k - 0) = s.take k := by rw [List.drop_zero, Nat.sub_zero]
    have e2 : (s.drop k).take (s.length - k) = s.drop k := List.take_of_length_le (by rw [List.length_drop]; omega)
    have e3 : s ++ [32] ++ m = s ++ 32 :: m := by simp
    have q1 : ([32] : List UInt8).length = 1 := rfl
    have q2 : (s ++ [32]).length = s.length + 1 := by rw [List.length_append, q1]
    simp (maxSteps := 1000000) (disch := omega) only [go_sem, reduceIte, Nat.reduceEqDiff, Nat.reduceAdd, Nat.reduceLeDiff, Nat.reduceLT, Nat.reduceSub, Int.reduceLT, Int.reduceLE, Int.reduceEq, Int.reduceToNat, Option.map_some, List.length_map, List.getElem?_map, Int.toNat_natCast]
    refine call_pure hc (by simp [go_sem]) ?_
    simp (maxSteps := 1000000) (disch := omega) only [go_sem, reduceIte, Nat.reduceEqDiff, Nat.reduceAdd, Nat.reduceLeDiff, Nat.reduceLT, Nat.reduceSub, Int.reduceLT, Int.reduceLE, Int.reduceEq, Int.reduceToNat, Option.map_some, List.length_map, List.getElem?_map, Int.toNat_natCast, g2, g5, g1, g4, e1]
    refine call_pure hc1 (by simp [go_sem]) ?_
    simp (maxSteps := 1000000) (disch := omega) only [go_sem, reduceIte, Nat.reduceEqDiff, Nat.reduceAdd, Nat.reduceLeDiff, Nat.reduceLT, Nat.reduceSub, Int.reduceLT, Int.reduceLE, Int.reduceEq, Int.reduceToNat, Option.map_some, List.length_map, List.getElem?_map, Int.toNat_natCast, g2, g5, g1, g4, e1, e2, e3]
    refine call_pure hc2 (by simp [go_sem]) ?_
    simp (maxSteps := 1000000) (disch := omega) only [go_sem, reduceIte, Nat.reduceEqDiff, Nat.reduceAdd, Nat.reduceLeDiff, Nat.reduceLT, Nat.reduceSub, Int.reduceLT, Int.reduceLE, Int.reduceEq, Int.reduceToNat, Option.map_some, List.length_map, List.getElem?_map, Int.toNat_natCast, g2, g5, g1, g4, e1, e2, e3]
    refine call_pure hc3 (by simp [go_sem]) ?_
    simp (maxSteps := 1000000) (disch := omega) only [go_sem, reduceIte, Nat.reduceEqDiff, Nat.reduceAdd, Nat.reduceLeDiff, Nat.reduceLT, Nat.reduceSub, Int.reduceLT, Int.reduceLE, Int.reduceEq, Int.reduceToNat, Option.map_some, List.length_map, List.getElem?_map, Int.toNat_natCast, g2, g5, g1, g4, e1, e2, e3]
    exact .refl _
theorem lexWrong_c (s m : List UInt8) (hs : s.length ≤ 140737488355328) (hm : m.length ≤ 140737488355328) : CallsTo Tryd.prog 8 [.str s, .str m] (.bool true) := fn_calls mixed (lexWrong_d s m hs hm) rfl (by kernel_rfl) rfl

theorem lexBack_d (a : List Tok) (s : List UInt8) (ha : a.length ≤ 140737488355328) (hta : ∀ x ∈ a, x.t.length ≤ 140737488355328) (hs : s.length ≤ 140737488355328) : fnD Tryd.prog (orac Tryd.prog) [] Tryd.f5 [toks a, .str s] (.bool true) := by
  refine fn_intro _ [.tmp 4] _ rfl rfl rfl (by kernel_rfl) ?_
  simp (maxSteps := 1000000) (disch := omega) only [go_sem, reduceIte, Nat.reduceEqDiff, Nat.reduceAdd, Nat.reduceLeDiff, Nat.reduceLT, Nat.reduceSub, Int.reduceLT, Int.reduceLE, Int.reduceEq, Int.reduceToNat, Option.map_some, List.length_map, List.getElem?_map, Int.toNat_natCast]
  refine call_pure sane_c rfl ?_
  simp (maxSteps := 1000000) (disch := omega) only [go_sem, reduceIte, Nat.reduceEqDiff, Nat.reduceAdd, Nat.reduceLeDiff, Nat.reduceLT, Nat.reduceSub, Int.reduceLT, Int.reduceLE, Int.reduceEq, Int.reduceToNat, Option.map_some, List.length_map, List.getElem?_map, Int.toNat_natCast]
  refine call_pure (few_c a ha hta) (pure1 _) ?_
  simp (maxSteps := 1000000) (disch := omega) only [go_sem, reduceIte, Nat.reduceEqDiff, Nat.reduceAdd, Nat.reduceLeDiff, Nat.reduceLT, Nat.reduceSub, Int.reduceLT, Int.reduceLE, Int.reduceEq, Int.reduceToNat, Option.map_some, List.length_map, List.getElem?_map, Int.toNat_natCast]
  refine condD_split (fun f1 => ?_) (fun f1 => ?_)
  case refine_2 =>
    simp (maxSteps := 1000000) (disch := omega) only [go_sem, reduceIte, Nat.reduceEqDiff, Nat.reduceAdd, Nat.reduceLeDiff, Nat.reduceLT, Nat.reduceSub, Int.reduceLT, Int.reduceLE, Int.reduceEq, Int.reduceToNat, Option.map_some, List.length_map, List.getElem?_map, Int.toNat_natCast, f1]
    exact .refl _
  obtain ⟨a1, a2⟩ := few_facts f1
  simp (maxSteps := 1000000) (disch := omega) only [go_sem, reduceIte, Nat.reduceEqDiff, Nat.reduceAdd, Nat.reduceLeDiff, Nat.reduceLT, Nat.reduceSub, Int.reduceLT, Int.reduceLE, Int.reduceEq, Int.reduceToNat, Option.map_some, List.length_map, List.getElem?_map, Int.toNat_natCast, f1]
  refine condD_dec (fun h1 => ?_) (fun h1 => ?_)
  · simp (maxSteps := 1000000) (disch := omega) only [go_sem, reduceIte, Nat.reduceEqDiff, Nat.reduceAdd, Nat.reduceLeDiff, Nat.reduceLT, Nat.reduceSub, Int.reduceLT, Int.reduceLE, Int.reduceEq, Int.reduceToNat, Option.map_some, List.length_map, List.getElem?_map, Int.toNat_natCast]
    exact .refl _
  have hs6 : s.length ≤ 65536 := by omega
  have ht := text_f a (by omega) (by omega)
  rcases lex_ok0 s hs6 with ⟨_, l, hlx, h2⟩ | ⟨_, k, hle, h2⟩
  · have hc := lex_s hs6 h2
    obtain ⟨v1, v2, v3⟩ := hlx.facts
    have hsum : textSum l ≤ s.length := by
      clear h2 hc hlx v3
      have : ∀ l : List Tok, l.all validB = true → textSum l ≤ ((l.map word).flatten).length := by
        intro l
        induction l with
        | nil => intro _; exact Nat.zero_le _
        | cons x l ih =>
          intro h
          rw [List.all_cons, Bool.and_eq_true] at h
          have := ih h.2
          rw [sum_cons, List.map_cons, List.flatten_cons, List.length_append]
          have hx : x.t.length ≤ (word x).length := by
            unfold word
            split
            · rename_i hk
              have hv := h.1
              unfold validB at hv
              rw [if_neg (by omega), if_pos hk] at hv
              simp only [Bool.and_eq_true, decide_eq_true_eq] at hv
              rw [hv.1.1]; exact Nat.zero_le _
            · exact Nat.le_refl _
          omega
      have := this l v1
      omega
    have htl := text_f l (by omega) (by omega)
    have hj := join_len l v1
    have e1 : textL l = (Lib.join (l.map word) [32], 0) := by unfold textL; rw [if_pos v1]
    rw [e1] at htl
    obtain ⟨l', h3, h4⟩ := lx_words l 0 v1
    have hc2 := lex_s (by omega) (h3.lex (by omega))
    have hl' := h3.facts.2.2
    have hsame := same_c l l' (by omega) (by omega)
    rw [h4] at hsame
    cases hva : a.all validB with
    | true =>
      have e0 : textL a = (Lib.join (a.map word) [32], 0) := by unfold textL; rw [if_pos hva]
      rw [e0] at ht
      have hja := join_len a hva
      obtain ⟨a', h5, h6⟩ := lx_words a 0 hva
      have hc0 := lex_s (by omega) (h5.lex (by omega))
      have ha' := h5.facts.2.2
      have hsame0 := same_c a a' (by omega) (by omega)
      rw [h6] at hsame0
      unfold textD at ht htl
      simp (maxSteps := 1000000) (disch := omega) only [go_sem, reduceIte, Nat.reduceEqDiff, Nat.reduceAdd, Nat.reduceLeDiff, Nat.reduceLT, Nat.reduceSub, Int.reduceLT, Int.reduceLE, Int.reduceEq, Int.reduceToNat, Option.map_some, List.length_map, List.getElem?_map, Int.toNat_natCast]
      refine call_pure ht (pure1 _) ?_
      simp (maxSteps := 1000000) (disch := omega) only [go_sem, reduceIte, Nat.reduceEqDiff, Nat.reduceAdd, Nat.reduceLeDiff, Nat.reduceLT, Nat.reduceSub, Int.reduceLT, Int.reduceLE, Int.reduceEq, Int.reduceToNat, Option.map_some, List.length_map, List.getElem?_map, Int.toNat_natCast]
      refine call_pure hc0 (by simp [go_sem]) ?_
      simp (maxSteps := 1000000) (disch := omega) only [go_sem, reduceIte, Nat.reduceEqDiff, Nat.reduceAdd, Nat.reduceLeDiff, Nat.reduceLT, Nat.reduceSub, Int.reduceLT, Int.reduceLE, Int.reduceEq, Int.reduceToNat, Option.map_some, List.length_map, List.getElem?_map, Int.toNat_natCast]
      refine call_pure hsame0 (by simp [toks, D.pureL, D.pure, pureL_toks]) ?_
      simp (maxSteps := 1000000) (disch := omega) only [go_sem, reduceIte, Nat.reduceEqDiff, Nat.reduceAdd, Nat.reduceLeDiff, Nat.reduceLT, Nat.reduceSub, Int.reduceLT, Int.reduceLE, Int.reduceEq, Int.reduceToNat, Option.map_some, List.length_map, List.getElem?_map, Int.toNat_natCast]
      refine call_pure hc (by simp [go_sem]) ?_
      simp (maxSteps := 1000000) (disch := omega) only [go_sem, reduceIte, Nat.reduceEqDiff, Nat.reduceAdd, Nat.reduceLeDiff, Nat.reduceLT, Nat.reduceSub, Int.reduceLT, Int.reduceLE, Int.reduceEq, Int.reduceToNat, Option.map_some, List.length_map, List.getElem?_map, Int.toNat_natCast]
      refine call_pure htl (by simp [toks, D.pureL, D.pure, pureL_toks]) ?_
      simp (maxSteps := 1000000) (disch := omega) only [go_sem, reduceIte, Nat.reduceEqDiff, Nat.reduceAdd, Nat.reduceLeDiff, Nat.reduceLT, Nat.reduceSub, Int.reduceLT, Int.reduceLE, Int.reduceEq, Int.reduceToNat, Option.map_some, List.length_map, List.getElem?_map, Int.toNat_natCast]
      refine call_pure hc2 (by simp [go_sem]) ?_
      simp (maxSteps := 1000000) (disch := omega) only [go_sem, reduceIte, Nat.reduceEqDiff, Nat.reduceAdd, Nat.reduceLeDiff, Nat.reduceLT, Nat.reduceSub, Int.reduceLT, Int.reduceLE, Int.reduceEq, Int.reduceToNat, Option.map_some, List.length_map, List.getElem?_map, Int.toNat_natCast]
      refine call_pure hsame (by simp [toks, D.pureL, D.pure, pureL_toks]) ?_
      simp (maxSteps := 1000000) (disch := omega) only [go_sem, reduceIte, Nat.reduceEqDiff, Nat.reduceAdd, Nat.reduceLeDiff, Nat.reduceLT, Nat.reduceSub, Int.reduceLT, Int.reduceLE, Int.reduceEq, Int.reduceToNat, Option.map_some, List.length_map, List.getElem?_map, Int.toNat_natCast]
      exact .refl _
    | false =>
      have e0 : textL a = ([], 30) := by unfold textL; rw [if_neg (by rw [hva]; simp)]
      rw [e0] at ht
      unfold textD at ht htl
      simp (maxSteps := 1000000) (disch := omega) only [go_sem, reduceIte, Nat.reduceEqDiff, Nat.reduceAdd, Nat.reduceLeDiff, Nat.reduceLT, Nat.reduceSub, Int.reduceLT, Int.reduceLE, Int.reduceEq, Int.reduceToNat, Option.map_some, List.length_map, List.getElem?_map, Int.toNat_natCast]
      refine call_pure ht (pure1 _) ?_
      simp (maxSteps := 1000000) (disch := omega) only [go_sem, reduceIte, Nat.reduceEqDiff, Nat.reduceAdd, Nat.reduceLeDiff, Nat.reduceLT, Nat.reduceSub, Int.reduceLT, Int.reduceLE, Int.reduceEq, Int.reduceToNat, Option.map_some, List.length_map, List.getElem?_map, Int.toNat_natCast]
      refine call_pure hc (by simp [go_sem]) ?_
      simp (maxSteps := 1000000) (disch := omega) only [go_sem, reduceIte, Nat.reduceEqDiff, Nat.reduceAdd, Nat.reduceLeDiff, Nat.reduceLT, Nat.reduceSub, Int.reduceLT, Int.reduceLE, Int.reduceEq, Int.reduceToNat, Option.map_some, List.length_map, List.getElem?_map, Int.toNat_natCast]
      refine call_pure htl (by simp [toks, D.pureL, D.pure, pureL_toks]) ?_
      simp (maxSteps := 1000000) (disch := omega) only [go_sem, reduceIte, Nat.reduceEqDiff, Nat.reduceAdd, Nat.reduceLeDiff, Nat.reduceLT, Nat.reduceSub, Int.reduceLT, Int.reduceLE, Int.reduceEq, Int.reduceToNat, Option.map_some, List.length_map, List.getElem?_map, Int.toNat_natCast]
      refine call_pure hc2 (by simp [go_sem]) ?_
      simp (maxSteps := 1000000) (disch := omega) only [go_sem, reduceIte, Nat.reduceEqDiff, Nat.reduceAdd, Nat.reduceLeDiff, Nat.reduceLT, Nat.reduceSub, Int.reduceLT, Int.reduceLE, Int.reduceEq, Int.reduceToNat, Option.map_some, List.length_map, List.getElem?_map, Int.toNat_natCast]
      refine call_pure hsame (by simp [toks, D.pureL, D.pure, pureL_toks]) ?_
      simp (maxSteps := 1000000) (disch := omega) only [go_sem, reduceIte, Nat.reduceEqDiff, Nat.reduceAdd, Nat.reduceLeDiff, Nat.reduceLT, Nat.reduceSub, Int.reduceLT, Int.reduceLE, Int.reduceEq, Int.reduceToNat, Option.map_some, List.length_map, List.getElem?_map, Int.toNat_natCast]
      exact .refl _
  · have hc := lex_s hs6 h2
    simp only [List.map_nil] at hc
    have k1 : ((0 : Nat) : Int) = 0 := rfl
    cases hva : a.all validB with
    | true =>
      have e0 : textL a = (Lib.join (a.map word) [32], 0) := by unfold textL; rw [if_pos hva]
      rw [e0] at ht
      have hja := join_len a hva
      obtain ⟨a', h5, h6⟩ := lx_words a 0 hva
      have hc0 := lex_s (by omega) (h5.lex (by omega))
      have ha' := h5.facts.2.2
      have hsame0 := same_c a a' (by omega) (by omega)
      rw [h6] at hsame0
      unfold textD at ht
      simp (maxSteps := 1000000) (disch := omega) only [go_sem, reduceIte, Nat.reduceEqDiff, Nat.reduceAdd, Nat.reduceLeDiff, Nat.reduceLT, Nat.reduceSub, Int.reduceLT, Int.reduceLE, Int.reduceEq, Int.reduceToNat, Option.map_some, List.length_map, List.getElem?_map, Int.toNat_natCast]
      refine call_pure ht (pure1 _) ?_
      simp (maxSteps := 1000000) (disch := omega) only [go_sem, reduceIte, Nat.reduceEqDiff, Nat.reduceAdd, Nat.reduceLeDiff, Nat.reduceLT, Nat.reduceSub, Int.reduceLT, Int.reduceLE, Int.reduceEq, Int.reduceToNat, Option.map_some, List.length_map, List.getElem?_map, Int.toNat_natCast]
      refine call_pure hc0 (by simp [go_sem]) ?_
      simp (maxSteps := 1000000) (disch := omega) only [go_sem, reduceIte, Nat.reduceEqDiff, Nat.reduceAdd, Nat.reduceLeDiff, Nat.reduceLT, Nat.reduceSub, Int.reduceLT, Int.reduceLE, Int.reduceEq, Int.reduceToNat, Option.map_some, List.length_map, List.getElem?_map, Int.toNat_natCast]
      refine call_pure hsame0 (by simp [toks, D.pureL, D.pure, pureL_toks]) ?_
      simp (maxSteps := 1000000) (disch := omega) only [go_sem, reduceIte, Nat.reduceEqDiff, Nat.reduceAdd, Nat.reduceLeDiff, Nat.reduceLT, Nat.reduceSub, Int.reduceLT, Int.reduceLE, Int.reduceEq, Int.reduceToNat, Option.map_some, List.length_map, List.getElem?_map, Int.toNat_natCast]
      refine call_pure hc (by simp [go_sem]) ?_
      simp (maxSteps := 1000000) (disch := omega) only [go_sem, reduceIte, Nat.reduceEqDiff, Nat.reduceAdd, Nat.reduceLeDiff, Nat.reduceLT, Nat.reduceSub, Int.reduceLT, Int.reduceLE, Int.reduceEq, Int.reduceToNat, Option.map_some, List.length_map, List.getElem?_map, Int.toNat_natCast, List.length_nil, k1]
      exact .refl _
    | false =>
      have e0 : textL a = ([], 30) := by unfold textL; rw [if_neg (by rw [hva]; simp)]
      rw [e0] at ht
      unfold textD at ht
      simp (maxSteps := 1000000) (disch := omega) only [go_sem, reduceIte, Nat.reduceEqDiff, Nat.reduceAdd, Nat.reduceLeDiff, Nat.reduceLT, Nat.reduceSub, Int.reduceLT, Int.reduceLE, Int.reduceEq, Int.reduceToNat, Option.map_some, List.length_map, List.getElem?_map, Int.toNat_natCast]
      refine call_pure ht (pure1 _) ?_
      simp (maxSteps := 1000000) (disch := omega) only [go_sem, reduceIte, Nat.reduceEqDiff, Nat.reduceAdd, Nat.reduceLeDiff, Nat.reduceLT, Nat.reduceSub, Int.reduceLT, Int.reduceLE, Int.reduceEq, Int.reduceToNat, Option.map_some, List.length_map, List.getElem?_map, Int.toNat_natCast]
      refine call_pure hc (by simp [go_sem]) ?_
      simp (maxSteps := 1000000) (disch := omega) only [go_sem, reduceIte, Nat.reduceEqDiff, Nat.reduceAdd, Nat.reduceLeDiff, Nat.reduceLT, Nat.reduceSub, Int.reduceLT, Int.reduceLE, Int.reduceEq, Int.reduceToNat, Option.map_some, List.length_map, List.getElem?_map, Int.toNat_natCast, List.length_nil, k1]
      exact .refl _
theorem lexBack_c (a : List Tok) (s : List UInt8) (ha : a.length ≤ 140737488355328) (hta : ∀ x ∈ a, x.t.length ≤ 140737488355328) (hs : s.length ≤ 140737488355328) : CallsTo Tryd.prog 5 [toks a, .str s] (.bool true) := fn_calls mixed (lexBack_d a s ha hta hs) rfl (by kernel_rfl) rfl
end Go.V.Lx
