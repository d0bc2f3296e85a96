/-
  Lex: the examples with which the statements begin.
-/
import Derived.Test.YtbnniokcdilpgaaDoorLm
namespace Go.V.Lx
open Go.Proofs Go.RowKit
set_option linter.unusedSimpArgs false
set_option linter.unusedVariables false
set_option maxRecDepth 20000

def stK (r : List UInt8) : Step := match r with
  | [] => none
  | c :: _ => if cls c = 1 then some ((r.takeWhile spB).length, []) else if cls c = 2 then tokStep ⟨1, r.takeWhile partB, 0, 0⟩ 0 (r.takeWhile partB).length
    else if cls c = 3 then numTok (r.takeWhile figB) else if cls c = 4 then (if isCom r = true then some ((r.takeWhile noLf).length, []) else some (1, [⟨3, [c], 0, 0⟩])) else none
theorem stK_eq (r : List UInt8) : stK r = st r := by
  cases r with
  | nil => rfl
  | cons c t =>
    show (if cls c = 1 then _ else _) = _
    split
    · rename_i h; exact (st1 h).symm
    split
    · rename_i h; exact (st2 h).symm
    split
    · rename_i h; exact (st3 h).symm
    split
    · rename_i h; exact (st4 h).symm
    · rename_i h1 h2 h3 h4; exact (st5 h1 h2 h3 h4).symm
def lexK : Nat → List UInt8 → Nat → List Tok → List Tok × Int × Int
  | 0, _, _, xs => (xs, 0, 0)
  | f + 1, r, i, xs => if r = [] then (xs, 0, 0) else match stK r with
    | none => ([], i, 30)
    | some (n, l) => lexK f (r.drop n) (i + n) (xs ++ l.map (atT i))
theorem lexK_eq (s : List UInt8) : ∀ (f i : Nat) (xs : List Tok), s.length - i ≤ f → lexK f (s.drop i) i xs = lexGo s (s.length - i) i xs
  | 0, i, xs, h => by rw [lexGo_end (by omega)]; rfl
  | f + 1, i, xs, h => by
    rw [lexK]
    by_cases hr : s.drop i = []
    · rw [if_pos hr, lexGo_end]
      have := congrArg List.length hr
      rw [List.length_drop, List.length_nil] at this
      omega
    · rw [if_neg hr, stK_eq]
      have hi : i < s.length := by
        apply Classical.byContradiction
        intro hn
        exact hr (List.drop_eq_nil_of_le (by omega))
      cases hs : st (s.drop i) with
      | none => simp only []; rw [lexGo_bad hi hs]
      | some p =>
        obtain ⟨n, l⟩ := p
        simp only []
        have h1 := st_on hs
        rw [List.drop_drop, lexK_eq s f (i + n) _ (by omega), lexGo_at hs]
theorem lexL_eq (s : List UInt8) (hs : s.length ≤ 65536) : lexL s = lexK s.length s 0 [] := by
  unfold lexL
  rw [if_neg (by omega)]
  exact (lexK_eq s s.length 0 [] (by omega)).symm
theorem lex_at {s : List UInt8} {r : List Tok × Int × Int} (hs : s.length ≤ 65536) (h : lexK s.length s 0 [] = r) : CallsTo Tryd.prog 11 [.str s] (lexD r) := by
  rw [← h, ← lexL_eq s hs]
  exact lex_c s (by omega)
theorem text3 : textL [⟨1, [97], 0, 0⟩, ⟨3, [61], 0, 1⟩, ⟨2, [], 1, 2⟩] = ([97, 32, 61, 32, 49], 0) := by
  unfold textL
  rw [if_pos (by decide +kernel)]
  have h : word ⟨2, [], 1, 2⟩ = [49] := (Lib.itoa_nonneg 1).trans (Lib.decDigits_one (by decide))
  have h1 : word ⟨1, [97], 0, 0⟩ = [97] := rfl
  have h2 : word ⟨3, [61], 0, 1⟩ = [61] := rfl
  simp only [List.map_cons, List.map_nil, h, h1, h2, Lib.join_cons, Lib.joinTail]
  rfl
set_option maxHeartbeats 4000000 in
theorem sane_d : fnD Tryd.prog (orac Tryd.prog) [] Tryd.f10 [] (.bool true) := by
  refine fn_intro _ [.tmp 0] _ rfl rfl rfl (by kernel_rfl) ?_
  have c1 := lex_at (s := [115, 117, 109, 32, 51, 48, 59]) (r := ([⟨1, [115, 117, 109], 0, 0⟩, ⟨2, [], 30, 4⟩, ⟨3, [59], 0, 6⟩], 0, 0)) (by decide) (by decide +kernel)
  have c2 := lex_at (s := [48, 48, 55]) (r := ([], 0, 30)) (by decide) (by decide +kernel)
  have c3 := lex_at (s := [49, 48, 57, 57, 53, 49, 49, 54, 50, 55, 55, 55, 54]) (r := ([⟨2, [], 1099511627776, 0⟩], 0, 0)) (by decide) (by decide +kernel)
  have c4 := lex_at (s := [97, 32, 47, 47, 32, 98]) (r := ([⟨1, [97], 0, 0⟩], 0, 0)) (by decide) (by decide +kernel)
  have c5 := lex_at (s := [97, 32, 36]) (r := ([], 2, 30)) (by decide) (by decide +kernel)
  have c6 := lex_at (s := [97, 61, 49]) (r := ([⟨1, [97], 0, 0⟩, ⟨3, [61], 0, 1⟩, ⟨2, [], 1, 2⟩], 0, 0)) (by decide) (by decide +kernel)
  have c7 := lex_at (s := []) (r := ([], 0, 0)) (by decide) (by decide +kernel)
  have t1 := text_f [⟨1, [97], 0, 0⟩, ⟨3, [61], 0, 1⟩, ⟨2, [], 1, 2⟩] (by decide) (by decide)
  rw [text3] at t1
  have t2 := text_f [⟨0, [], 0, 0⟩] (by decide) (by decide)
  have e2 : textL [⟨0, [], 0, 0⟩] = ([], 30) := by unfold textL; rw [if_neg (by decide +kernel)]
  rw [e2] at t2
  have q1 := equal_c [⟨1, [115, 117, 109], 0, 0⟩, ⟨2, [], 30, 4⟩, ⟨3, [59], 0, 6⟩] [⟨1, [115, 117, 109], 0, 0⟩, ⟨2, [], 30, 4⟩, ⟨3, [59], 0, 6⟩] (by decide) (by decide)
  rw [decide_eq_true rfl] at q1
  have n1 := name_c [66, 95, 49, 50] (by decide)
  have n2 := name_c [95, 49, 50] (by decide)
  rw [show nameB [66, 95, 49, 50] = true by decide +kernel] at n1
  rw [show nameB [95, 49, 50] = false by decide +kernel] at n2
  have s1 := same_c [⟨1, [97], 0, 0⟩] [⟨1, [97], 0, 0⟩, ⟨3, [61], 0, 1⟩, ⟨2, [], 1, 2⟩] (by decide) (by decide)
  have s2 := same_c [⟨1, [97], 0, 0⟩] [⟨1, [97], 0, 9⟩] (by decide) (by decide)
  rw [show sameL [⟨1, [97], 0, 0⟩] [⟨1, [97], 0, 0⟩, ⟨3, [61], 0, 1⟩, ⟨2, [], 1, 2⟩] = false by decide +kernel] at s1
  rw [show sameL [⟨1, [97], 0, 0⟩] [⟨1, [97], 0, 9⟩] = true by decide +kernel] at s2
  simp only [lexD, textD, toks, Tok.d, List.map_cons, List.map_nil] at c1 c2 c3 c4 c5 c6 c7 t1 t2 q1 s1 s2
  simp (maxSteps := 1000000) (disch := omega) only [go_sem, reduceIte, Nat.reduceEqDiff, Nat.reduceAdd, Nat.reduceLeDiff, Nat.reduceLT, Nat.reduceSub, Int.reduceLT, Int.reduceLE, Int.reduceEq, Int.reduceToNat, Option.map_some, List.length_map, List.getElem?_map, Int.toNat_natCast]
  refine call_pure c1 (by simp [go_sem]) ?_
  simp (maxSteps := 1000000) (disch := omega) only [go_sem, reduceIte, Nat.reduceEqDiff, Nat.reduceAdd, Nat.reduceLeDiff, Nat.reduceLT, Nat.reduceSub, Int.reduceLT, Int.reduceLE, Int.reduceEq, Int.reduceToNat, Option.map_some, List.length_map, List.getElem?_map, Int.toNat_natCast]
  refine call_pure c2 (by simp [go_sem]) ?_
  simp (maxSteps := 1000000) (disch := omega) only [go_sem, reduceIte, Nat.reduceEqDiff, Nat.reduceAdd, Nat.reduceLeDiff, Nat.reduceLT, Nat.reduceSub, Int.reduceLT, Int.reduceLE, Int.reduceEq, Int.reduceToNat, Option.map_some, List.length_map, List.getElem?_map, Int.toNat_natCast]
  refine call_pure c3 (by simp [go_sem]) ?_
  simp (maxSteps := 1000000) (disch := omega) only [go_sem, reduceIte, Nat.reduceEqDiff, Nat.reduceAdd, Nat.reduceLeDiff, Nat.reduceLT, Nat.reduceSub, Int.reduceLT, Int.reduceLE, Int.reduceEq, Int.reduceToNat, Option.map_some, List.length_map, List.getElem?_map, Int.toNat_natCast]
  refine call_pure c4 (by simp [go_sem]) ?_
  simp (maxSteps := 1000000) (disch := omega) only [go_sem, reduceIte, Nat.reduceEqDiff, Nat.reduceAdd, Nat.reduceLeDiff, Nat.reduceLT, Nat.reduceSub, Int.reduceLT, Int.reduceLE, Int.reduceEq, Int.reduceToNat, Option.map_some, List.length_map, List.getElem?_map, Int.toNat_natCast]
  refine call_pure c5 (by simp [go_sem]) ?_
  simp (maxSteps := 1000000) (disch := omega) only [go_sem, reduceIte, Nat.reduceEqDiff, Nat.reduceAdd, Nat.reduceLeDiff, Nat.reduceLT, Nat.reduceSub, Int.reduceLT, Int.reduceLE, Int.reduceEq, Int.reduceToNat, Option.map_some, List.length_map, List.getElem?_map, Int.toNat_natCast]
  refine call_pure c6 (by simp [go_sem]) ?_
  simp (maxSteps := 1000000) (disch := omega) only [go_sem, reduceIte, Nat.reduceEqDiff, Nat.reduceAdd, Nat.reduceLeDiff, Nat.reduceLT, Nat.reduceSub, Int.reduceLT, Int.reduceLE, Int.reduceEq, Int.reduceToNat, Option.map_some, List.length_map, List.getElem?_map, Int.toNat_natCast]
  refine call_pure t1 (by simp [go_sem]) ?_
  simp (maxSteps := 1000000) (disch := omega) only [go_sem, reduceIte, Nat.reduceEqDiff, Nat.reduceAdd, Nat.reduceLeDiff, Nat.reduceLT, Nat.reduceSub, Int.reduceLT, Int.reduceLE, Int.reduceEq, Int.reduceToNat, Option.map_some, List.length_map, List.getElem?_map, Int.toNat_natCast]
  refine call_pure c7 (by simp [go_sem]) ?_
  simp (maxSteps := 1000000) (disch := omega) only [go_sem, reduceIte, Nat.reduceEqDiff, Nat.reduceAdd, Nat.reduceLeDiff, Nat.reduceLT, Nat.reduceSub, Int.reduceLT, Int.reduceLE, Int.reduceEq, Int.reduceToNat, Option.map_some, List.length_map, List.getElem?_map, Int.toNat_natCast]
  refine call_pure t2 (by simp [go_sem]) ?_
  simp (maxSteps := 1000000) (disch := omega) only [go_sem, reduceIte, Nat.reduceEqDiff, Nat.reduceAdd, Nat.reduceLeDiff, Nat.reduceLT, Nat.reduceSub, Int.reduceLT, Int.reduceLE, Int.reduceEq, Int.reduceToNat, Option.map_some, List.length_map, List.getElem?_map, Int.toNat_natCast]
  refine call_pure q1 (by simp [go_sem]) ?_
  have k1 : ((1 : Nat) : Int) = 1 := rfl
  simp (maxSteps := 1000000) (disch := omega) only [go_sem, reduceIte, Nat.reduceEqDiff, Nat.reduceAdd, Nat.reduceLeDiff, Nat.reduceLT, Nat.reduceSub, Int.reduceLT, Int.reduceLE, Int.reduceEq, Int.reduceToNat, Option.map_some, List.length_map, List.getElem?_map, Int.toNat_natCast, List.length_cons, List.length_nil, k1]
  refine call_pure n1 (by simp [go_sem]) ?_
  simp (maxSteps := 1000000) (disch := omega) only [go_sem, reduceIte, Nat.reduceEqDiff, Nat.reduceAdd, Nat.reduceLeDiff, Nat.reduceLT, Nat.reduceSub, Int.reduceLT, Int.reduceLE, Int.reduceEq, Int.reduceToNat, Option.map_some, List.length_map, List.getElem?_map, Int.toNat_natCast, List.length_cons, List.length_nil, k1]
  refine call_pure n2 (by simp [go_sem]) ?_
  simp (maxSteps := 1000000) (disch := omega) only [go_sem, reduceIte, Nat.reduceEqDiff, Nat.reduceAdd, Nat.reduceLeDiff, Nat.reduceLT, Nat.reduceSub, Int.reduceLT, Int.reduceLE, Int.reduceEq, Int.reduceToNat, Option.map_some, List.length_map, List.getElem?_map, Int.toNat_natCast, List.length_cons, List.length_nil, k1]
  refine call_pure s1 (by simp [go_sem]) ?_
  simp (maxSteps := 1000000) (disch := omega) only [go_sem, reduceIte, Nat.reduceEqDiff, Nat.reduceAdd, Nat.reduceLeDiff, Nat.reduceLT, Nat.reduceSub, Int.reduceLT, Int.reduceLE, Int.reduceEq, Int.reduceToNat, Option.map_some, List.length_map, List.getElem?_map, Int.toNat_natCast, List.length_cons, List.length_nil, k1]
  refine call_pure s2 (by simp [go_sem]) ?_
  simp (maxSteps := 1000000) (disch := omega) only [go_sem, reduceIte, Nat.reduceEqDiff, Nat.reduceAdd, Nat.reduceLeDiff, Nat.reduceLT, Nat.reduceSub, Int.reduceLT, Int.reduceLE, Int.reduceEq, Int.reduceToNat, Option.map_some, List.length_map, List.getElem?_map, Int.toNat_natCast, List.length_cons, List.length_nil, k1]
  exact .refl _
theorem sane_c : CallsTo Tryd.prog 10 [] (.bool true) := fn_calls mixed sane_d rfl (by kernel_rfl) rfl
end Go.V.Lx
