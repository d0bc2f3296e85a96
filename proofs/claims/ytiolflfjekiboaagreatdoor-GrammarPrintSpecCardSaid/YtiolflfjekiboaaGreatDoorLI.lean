/-
  Lex: equality apart from places; the reference, on data.
  Lex: the reference's numbers, tokens and texts, on data.
  Lex: the reference's tokens, texts and comparisons, on data.
-/
import Derived.Test.YtiolflfjekiboaaGreatDoorLP
namespace Go.V.Lx
open Go.Proofs Go.RowKit
set_option linter.unusedSimpArgs false
set_option linter.unusedVariables false
set_option maxRecDepth 100000

theorem sameL_take : ∀ (a b : List Tok) (k : Nat) (x y : Tok), a[k]? = some x → b[k]? = some y → sameL (a.take (k + 1)) (b.take (k + 1)) = (sameL (a.take k) (b.take k) && same1 x y)
  | [], _, k, x, y, h, _ => by simp at h
  | _ :: _, [], k, x, y, _, h => by simp at h
  | u :: a, v :: b, 0, x, y, h1, h2 => by
    simp at h1 h2; subst h1; subst h2
    simp [sameL]
  | u :: a, v :: b, k + 1, x, y, h1, h2 => by
    simp only [List.take_succ_cons, sameL, sameL_take a b k x y (by simpa using h1) (by simpa using h2), Bool.and_assoc]
theorem sameL_len : ∀ (a b : List Tok), a.length ≠ b.length → sameL a b = false
  | [], [], h => by simp at h
  | [], _ :: _, _ => rfl
  | _ :: _, [], _ => rfl
  | u :: a, v :: b, h => by simp [sameL, sameL_len a b (by simpa using h)]
theorem sameL_at : ∀ (a b : List Tok) (k : Nat) (x y : Tok), a[k]? = some x → b[k]? = some y → same1 x y = false → sameL a b = false
  | [], _, k, x, y, h, _, _ => by simp at h
  | _ :: _, [], k, x, y, _, h, _ => by simp at h
  | u :: a, v :: b, 0, x, y, h1, h2, h => by
    simp at h1 h2; subst h1; subst h2
    simp [sameL, h]
  | u :: a, v :: b, k + 1, x, y, h1, h2, h => by
    simp [sameL, sameL_at a b k x y (by simpa using h1) (by simpa using h2) h]
theorem toks_eq (l : List Tok) : toks l = .sl 4 (l.map Tok.d) := rfl

/-! ### The reference: classes -/
theorem letter_d (c : UInt8) : fnD Tryz.prog (orac Tryz.prog) [] Tryz.f51 [.int .u8 (c.toNat : Int)] (.bool (isLt c.toNat)) := by
  refine fn_intro _ [.tmp 2] _ rfl rfl rfl (by kernel_rfl) ?_
  repeat' (first | with_reducible refine condD_dec (fun _ => ?_) (fun _ => ?_) | with_reducible refine condD_split (fun _ => ?_) (fun _ => ?_) | simp (maxSteps := 1000000) (disch := omega) only [go_sem, reduceIte, Nat.reduceEqDiff, Nat.reduceAdd, Nat.reduceLeDiff, Nat.reduceLT, Nat.reduceSub, Int.reduceLT, Int.reduceLE, Int.reduceEq, Int.reduceToNat, Option.map_some, List.length_map, List.getElem?_map, Int.toNat_natCast, *])
  all_goals
    refine weak_eq (congrArg D.bool ?_)
    rw [Bool.eq_iff_iff]
    simp [isLt, *] <;> omega
theorem letter_c (c : UInt8) : CallsTo Tryz.prog 51 [.int .u8 (c.toNat : Int)] (.bool (isLt c.toNat)) := fn_calls mixed (letter_d c) rfl (by kernel_rfl) rfl
theorem figure_d (c : UInt8) : fnD Tryz.prog (orac Tryz.prog) [] Tryz.f53 [.int .u8 (c.toNat : Int)] (.bool (isFg c.toNat)) := by
  refine fn_intro _ [.tmp 2] _ rfl rfl rfl (by kernel_rfl) ?_
  repeat' (first | with_reducible refine condD_dec (fun _ => ?_) (fun _ => ?_) | with_reducible refine condD_split (fun _ => ?_) (fun _ => ?_) | simp (maxSteps := 1000000) (disch := omega) only [go_sem, reduceIte, Nat.reduceEqDiff, Nat.reduceAdd, Nat.reduceLeDiff, Nat.reduceLT, Nat.reduceSub, Int.reduceLT, Int.reduceLE, Int.reduceEq, Int.reduceToNat, Option.map_some, List.length_map, List.getElem?_map, Int.toNat_natCast, *])
  all_goals
    refine weak_eq (congrArg D.bool ?_)
    rw [Bool.eq_iff_iff]
    simp [isFg, *] <;> omega
theorem figure_c (c : UInt8) : CallsTo Tryz.prog 53 [.int .u8 (c.toNat : Int)] (.bool (isFg c.toNat)) := fn_calls mixed (figure_d c) rfl (by kernel_rfl) rfl
theorem space_rd (c : UInt8) : fnD Tryz.prog (orac Tryz.prog) [] Tryz.f50 [.int .u8 (c.toNat : Int)] (.bool (isSp c.toNat)) := by
  refine fn_intro _ [.tmp 2] _ rfl rfl rfl (by kernel_rfl) ?_
  repeat' (first | with_reducible refine condD_dec (fun _ => ?_) (fun _ => ?_) | with_reducible refine condD_split (fun _ => ?_) (fun _ => ?_) | simp (maxSteps := 1000000) (disch := omega) only [go_sem, reduceIte, Nat.reduceEqDiff, Nat.reduceAdd, Nat.reduceLeDiff, Nat.reduceLT, Nat.reduceSub, Int.reduceLT, Int.reduceLE, Int.reduceEq, Int.reduceToNat, Option.map_some, List.length_map, List.getElem?_map, Int.toNat_natCast, *])
  all_goals
    refine weak_eq (congrArg D.bool ?_)
    rw [Bool.eq_iff_iff]
    simp [isSp, *] <;> omega
theorem space_rc (c : UInt8) : CallsTo Tryz.prog 50 [.int .u8 (c.toNat : Int)] (.bool (isSp c.toNat)) := fn_calls mixed (space_rd c) rfl (by kernel_rfl) rfl
theorem part_d (c : UInt8) : fnD Tryz.prog (orac Tryz.prog) [] Tryz.f52 [.int .u8 (c.toNat : Int)] (.bool (isPart c)) := by
  refine fn_intro _ [.tmp 2] _ rfl rfl rfl (by kernel_rfl) ?_
  repeat' (first | with_reducible refine condD_dec (fun _ => ?_) (fun _ => ?_) | with_reducible refine condD_split (fun _ => ?_) (fun _ => ?_) | with_reducible refine pureO (letter_c c) (by simp [go_sem]) ?_ | with_reducible refine pureT (letter_c c) (by simp [go_sem]) ?_ | with_reducible refine pureO (figure_c c) (by simp [go_sem]) ?_ | with_reducible refine pureT (figure_c c) (by simp [go_sem]) ?_ | simp (maxSteps := 1000000) (disch := omega) only [go_sem, reduceIte, Nat.reduceEqDiff, Nat.reduceAdd, Nat.reduceLeDiff, Nat.reduceLT, Nat.reduceSub, Int.reduceLT, Int.reduceLE, Int.reduceEq, Int.reduceToNat, Option.map_some, List.length_map, List.getElem?_map, Int.toNat_natCast, *])
  all_goals
    refine weak_eq (congrArg D.bool ?_)
    rw [Bool.eq_iff_iff]
    simp [isPart, *] <;> omega
theorem part_c (c : UInt8) : CallsTo Tryz.prog 52 [.int .u8 (c.toNat : Int)] (.bool (isPart c)) := fn_calls mixed (part_d c) rfl (by kernel_rfl) rfl
theorem has_take {l : List UInt8} {k : Nat} {x c : UInt8} (hx : l[k]? = some x) (h : (l.take k).contains c = false) (hn : ¬ x = c) : (l.take (k + 1)).contains c = false := by
  rw [List.take_add_one, hx]
  simp only [List.contains_eq_mem, List.mem_append, decide_eq_false_iff_not, Option.mem_toList, Option.mem_def, Option.some.injEq] at h ⊢
  rintro (h' | h')
  · exact h h'
  · exact hn h'
theorem toNat_eq {x c : UInt8} (h : (x.toNat : Int) = (c.toNat : Int)) : x = c := UInt8.toNat_inj.1 (by omega)
theorem signR_d (c : UInt8) : fnD Tryz.prog (orac Tryz.prog) [] Tryz.f43 [.int .u8 (c.toNat : Int)] (.bool (isSg c)) := by
  refine fn_intro _ [.tmp 2] _ rfl rfl rfl (by kernel_rfl) ?_
  rw [sg_signs]
  simp (maxSteps := 1000000) (disch := omega) only [go_sem, reduceIte, Nat.reduceEqDiff, Nat.reduceAdd, Nat.reduceLeDiff, Nat.reduceLT, Nat.reduceSub, Int.reduceLT, Int.reduceLE, Int.reduceEq, Int.reduceToNat, Option.map_some, List.length_map, List.getElem?_map, Int.toNat_natCast]
  refine cD_for 16 (fun k σ _ => σ 0 = .int .u8 (c.toNat : Int) ∧ σ 3 = .str signs ∧ σ 4 = .int .i64 k ∧ (signs.take k).contains c = false)
    ⟨by simp [go_sem, argsF], by simp [go_sem, signs], by simp [go_sem], rfl⟩ ?_ ?_
  · rintro k σ bx hk ⟨h0, h3, h4, hs⟩
    obtain ⟨x, hx⟩ := get_lt (l := signs) (k := k) hk
    have hlen : signs.length = 16 := rfl
    simp (maxSteps := 1000000) (disch := omega) only [go_sem, reduceIte, Nat.reduceEqDiff, Nat.reduceAdd, Nat.reduceLeDiff, Nat.reduceLT, Nat.reduceSub, Int.reduceLT, Int.reduceLE, Int.reduceEq, Int.reduceToNat, Option.map_some, List.length_map, List.getElem?_map, Int.toNat_natCast, h0, h3, h4, hlen]
    refine condD_yes (by omega) ?_
    simp (maxSteps := 1000000) (disch := omega) only [go_sem, reduceIte, Nat.reduceEqDiff, Nat.reduceAdd, Nat.reduceLeDiff, Nat.reduceLT, Nat.reduceSub, Int.reduceLT, Int.reduceLE, Int.reduceEq, Int.reduceToNat, Option.map_some, List.length_map, List.getElem?_map, Int.toNat_natCast, h0, h3, h4, hx]
    refine condD_dec (fun he => ?_) (fun hn => ?_)
    · have := toNat_eq he
      subst this
      simp (maxSteps := 1000000) (disch := omega) only [go_sem, reduceIte, Nat.reduceEqDiff, Nat.reduceAdd, Nat.reduceLeDiff, Nat.reduceLT, Nat.reduceSub, Int.reduceLT, Int.reduceLE, Int.reduceEq, Int.reduceToNat, Option.map_some, List.length_map, List.getElem?_map, Int.toNat_natCast, h0, h3, h4]
      have : signs.contains x = true := by simp only [List.contains_eq_mem, decide_eq_true_eq]; exact List.mem_of_getElem? hx
      exact weak_eq (by rw [this])
    · simp (maxSteps := 1000000) (disch := omega) only [go_sem, reduceIte, Nat.reduceEqDiff, Nat.reduceAdd, Nat.reduceLeDiff, Nat.reduceLT, Nat.reduceSub, Int.reduceLT, Int.reduceLE, Int.reduceEq, Int.reduceToNat, Option.map_some, List.length_map, List.getElem?_map, Int.toNat_natCast, h0, h3, h4]
      rw [wrap_succ (by omega)]
      exact ⟨rfl, has_take hx hs (fun e => hn (by rw [e]))⟩
  · rintro σ bx ⟨h0, h3, h4, hs⟩
    have hlen : signs.length = 16 := rfl
    simp (maxSteps := 1000000) (disch := omega) only [go_sem, reduceIte, Nat.reduceEqDiff, Nat.reduceAdd, Nat.reduceLeDiff, Nat.reduceLT, Nat.reduceSub, Int.reduceLT, Int.reduceLE, Int.reduceEq, Int.reduceToNat, Option.map_some, List.length_map, List.getElem?_map, Int.toNat_natCast, h0, h3, h4, hlen]
    refine condD_no (by omega) ?_
    simp (maxSteps := 1000000) (disch := omega) only [go_sem, reduceIte, Nat.reduceEqDiff, Nat.reduceAdd, Nat.reduceLeDiff, Nat.reduceLT, Nat.reduceSub, Int.reduceLT, Int.reduceLE, Int.reduceEq, Int.reduceToNat, Option.map_some, List.length_map, List.getElem?_map, Int.toNat_natCast, h0, h3, h4]
    exact weak_eq (by rw [show signs = signs.take 16 from rfl, hs])
theorem signR_c (c : UInt8) : CallsTo Tryz.prog 43 [.int .u8 (c.toNat : Int)] (.bool (isSg c)) := fn_calls mixed (signR_d c) rfl (by kernel_rfl) rfl
theorem nameR_d (s : List UInt8) (hs : s.length ≤ 140737488355328) : fnD Tryz.prog (orac Tryz.prog) [] Tryz.f42 [.str s] (.bool (nameB s)) := by
  refine fn_intro _ [.tmp 2] _ rfl rfl rfl (by kernel_rfl) ?_
  match s, hs with
  | [], hs =>
    repeat' (first | with_reducible refine condD_dec (fun _ => ?_) (fun _ => ?_) | with_reducible refine condD_split (fun _ => ?_) (fun _ => ?_) | simp (maxSteps := 1000000) (disch := omega) only [go_sem, reduceIte, Nat.reduceEqDiff, Nat.reduceAdd, Nat.reduceLeDiff, Nat.reduceLT, Nat.reduceSub, Int.reduceLT, Int.reduceLE, Int.reduceEq, Int.reduceToNat, Option.map_some, List.length_map, List.getElem?_map, Int.toNat_natCast, *])
    all_goals exact weak_eq (by simp_all [nameB])
  | c :: r, hs =>
    have hx : (c :: r)[0]? = some c := rfl
    have hl : (c :: r).length = r.length + 1 := rfl
    by_cases h32 : 32 < (((c :: r).length : Nat) : Int)
    · have hb : nameB (c :: r) = false := by
        have : ¬ (c :: r).length ≤ 32 := by omega
        simp only [nameB, this, decide_false, Bool.false_and]
      have h1 : ¬ (((c :: r).length : Nat) : Int) < 1 := by omega
      generalize hz : c :: r = z at *
      rw [hb]
      have h1' : decide (((z.length : Nat) : Int) < 1) = false := by simp; omega
      have h32' : decide (32 < ((z.length : Nat) : Int)) = true := by simp; omega
      simp (maxSteps := 1000000) (disch := omega) only [go_sem, reduceIte, Nat.reduceEqDiff, Nat.reduceAdd, Nat.reduceLeDiff, Nat.reduceLT, Nat.reduceSub, Int.reduceLT, Int.reduceLE, Int.reduceEq, Int.reduceToNat, Option.map_some, List.length_map, List.getElem?_map, Int.toNat_natCast, h1', h32']
      exact weak_eq rfl
    · have h1 : ¬ (((c :: r).length : Nat) : Int) < 1 := by omega
      have hlt := letter_c c
      by_cases hc : isLt c.toNat = true
      · rw [hc] at hlt
        have hnb : nameB (c :: r) = (c :: r).all isPart := by
          have : (c :: r).length ≤ 32 := by omega
          simp only [nameB, this, decide_true, hc, Bool.true_and]
        rw [hnb]
        clear hnb
        generalize hz : c :: r = z at *
        have h1' : decide (((z.length : Nat) : Int) < 1) = false := by simp; omega
        have h32' : decide (32 < ((z.length : Nat) : Int)) = false := by simp; omega
        simp (maxSteps := 1000000) (disch := omega) only [go_sem, reduceIte, Nat.reduceEqDiff, Nat.reduceAdd, Nat.reduceLeDiff, Nat.reduceLT, Nat.reduceSub, Int.reduceLT, Int.reduceLE, Int.reduceEq, Int.reduceToNat, Option.map_some, List.length_map, List.getElem?_map, Int.toNat_natCast, h1', h32', hx]
        refine call_pure hlt (by simp [go_sem]) ?_
        simp (maxSteps := 1000000) (disch := omega) only [go_sem, reduceIte, Nat.reduceEqDiff, Nat.reduceAdd, Nat.reduceLeDiff, Nat.reduceLT, Nat.reduceSub, Int.reduceLT, Int.reduceLE, Int.reduceEq, Int.reduceToNat, Option.map_some, List.length_map, List.getElem?_map, Int.toNat_natCast, h1', h32', hx]
        refine cD_for z.length (fun k σ _ => σ 0 = .str z ∧ σ 3 = .int .i64 k ∧ (z.take k).all isPart = true)
          ⟨by simp [go_sem, argsF], by simp [go_sem], by simp⟩ ?_ ?_
        · rintro k σ bx hk ⟨h0, h3, hb⟩
          obtain ⟨x, hx⟩ := get_lt hk
          simp (maxSteps := 1000000) (disch := omega) only [go_sem, reduceIte, Nat.reduceEqDiff, Nat.reduceAdd, Nat.reduceLeDiff, Nat.reduceLT, Nat.reduceSub, Int.reduceLT, Int.reduceLE, Int.reduceEq, Int.reduceToNat, Option.map_some, List.length_map, List.getElem?_map, Int.toNat_natCast, h0, h3]
          refine condD_yes (by omega) ?_
          simp (maxSteps := 1000000) (disch := omega) only [go_sem, reduceIte, Nat.reduceEqDiff, Nat.reduceAdd, Nat.reduceLeDiff, Nat.reduceLT, Nat.reduceSub, Int.reduceLT, Int.reduceLE, Int.reduceEq, Int.reduceToNat, Option.map_some, List.length_map, List.getElem?_map, Int.toNat_natCast, h0, h3, hx]
          refine call_pure (part_c x) (by simp [go_sem]) ?_
          simp (maxSteps := 1000000) (disch := omega) only [go_sem, reduceIte, Nat.reduceEqDiff, Nat.reduceAdd, Nat.reduceLeDiff, Nat.reduceLT, Nat.reduceSub, Int.reduceLT, Int.reduceLE, Int.reduceEq, Int.reduceToNat, Option.map_some, List.length_map, List.getElem?_map, Int.toNat_natCast, h0, h3, hx]
          refine condD_split (fun hp => ?_) (fun hp => ?_)
          · simp (maxSteps := 1000000) (disch := omega) only [go_sem, reduceIte, Nat.reduceEqDiff, Nat.reduceAdd, Nat.reduceLeDiff, Nat.reduceLT, Nat.reduceSub, Int.reduceLT, Int.reduceLE, Int.reduceEq, Int.reduceToNat, Option.map_some, List.length_map, List.getElem?_map, Int.toNat_natCast, h0, h3, hx]
            rw [wrap_succ (by omega)]
            exact ⟨rfl, take_all isPart hx hb hp⟩
          · simp (maxSteps := 1000000) (disch := omega) only [go_sem, reduceIte, Nat.reduceEqDiff, Nat.reduceAdd, Nat.reduceLeDiff, Nat.reduceLT, Nat.reduceSub, Int.reduceLT, Int.reduceLE, Int.reduceEq, Int.reduceToNat, Option.map_some, List.length_map, List.getElem?_map, Int.toNat_natCast, h0, h3, hx]
            exact weak_eq (by rw [all_of isPart hx hp])
        · rintro σ bx ⟨h0, h3, hb⟩
          simp (maxSteps := 1000000) (disch := omega) only [go_sem, reduceIte, Nat.reduceEqDiff, Nat.reduceAdd, Nat.reduceLeDiff, Nat.reduceLT, Nat.reduceSub, Int.reduceLT, Int.reduceLE, Int.reduceEq, Int.reduceToNat, Option.map_some, List.length_map, List.getElem?_map, Int.toNat_natCast, h0, h3]
          refine condD_no (by omega) ?_
          simp (maxSteps := 1000000) (disch := omega) only [go_sem, reduceIte, Nat.reduceEqDiff, Nat.reduceAdd, Nat.reduceLeDiff, Nat.reduceLT, Nat.reduceSub, Int.reduceLT, Int.reduceLE, Int.reduceEq, Int.reduceToNat, Option.map_some, List.length_map, List.getElem?_map, Int.toNat_natCast, h0, h3]
          rw [List.take_length] at hb
          exact weak_eq (by rw [hb])
      · have hc : isLt c.toNat = false := by simpa using hc
        rw [hc] at hlt
        have hb : nameB (c :: r) = false := by simp only [nameB, hc, Bool.and_false, Bool.false_and]
        rw [hb]
        clear hb
        generalize hz : c :: r = z at *
        have h1' : decide (((z.length : Nat) : Int) < 1) = false := by simp; omega
        have h32' : decide (32 < ((z.length : Nat) : Int)) = false := by simp; omega
        simp (maxSteps := 1000000) (disch := omega) only [go_sem, reduceIte, Nat.reduceEqDiff, Nat.reduceAdd, Nat.reduceLeDiff, Nat.reduceLT, Nat.reduceSub, Int.reduceLT, Int.reduceLE, Int.reduceEq, Int.reduceToNat, Option.map_some, List.length_map, List.getElem?_map, Int.toNat_natCast, h1', h32', hx]
        refine call_pure hlt (by simp [go_sem]) ?_
        simp (maxSteps := 1000000) (disch := omega) only [go_sem, reduceIte, Nat.reduceEqDiff, Nat.reduceAdd, Nat.reduceLeDiff, Nat.reduceLT, Nat.reduceSub, Int.reduceLT, Int.reduceLE, Int.reduceEq, Int.reduceToNat, Option.map_some, List.length_map, List.getElem?_map, Int.toNat_natCast, h1', h32', hx]
        exact weak_eq rfl
theorem nameR_c (s : List UInt8) (hs : s.length ≤ 140737488355328) : CallsTo Tryz.prog 42 [.str s] (.bool (nameB s)) := fn_calls mixed (nameR_d s hs) rfl (by kernel_rfl) rfl
end Go.V.Lx

namespace Go.V.Lx
open Go.Proofs Go.RowKit
set_option linter.unusedSimpArgs false
set_option linter.unusedVariables false
set_option maxRecDepth 100000

theorem wrap_u8 {n : Int} (h1 : 0 ≤ n) (h2 : n ≤ 255) : IntKind.u8.wrap n = n := IntWalk.u8_in n ⟨h1, h2⟩
theorem dv_nil : dv 0 [] = 0 := rfl
theorem dv_take {t : List UInt8} {k : Nat} {x : UInt8} (hx : t[k]? = some x) : dv 0 (t.take (k + 1)) = 10 * dv 0 (t.take k) + (x.toNat - 48) := by
  rw [List.take_add_one, hx, Option.toList_some, dv_snoc]
theorem byte_beq (c d : UInt8) : (c == d) = decide ((c.toNat : Int) = (d.toNat : Int)) := by
  rw [Bool.eq_iff_iff]
  simp only [beq_iff_eq, decide_eq_true_eq]
  exact ⟨fun h => by rw [h], fun h => UInt8.toNat_inj.1 (by omega)⟩
theorem dv_mono (t : List UInt8) (k : Nat) : dv 0 (t.take k) ≤ dv 0 t := by
  conv => rhs; rw [← List.take_append_drop k t]
  rw [dv_app]
  exact dv_ge _ _
def numD (t : List UInt8) : D := if dv 0 t ≤ 1099511627776 then .tup [.int .i64 (dv 0 t : Int), .bool (lead t)] else .tup [.int .i64 0, .bool false]
theorem number_rd (t : List UInt8) (hn : t ≠ []) (hf : figs t = true) (hl : t.length ≤ 65536) : fnD Tryz.prog (orac Tryz.prog) [] Tryz.f54 [.str t] (numD t) := by
  refine fn_intro _ [.tmp 2, .tmp 3] _ rfl rfl rfl (by kernel_rfl) ?_
  simp (maxSteps := 1000000) (disch := omega) only [go_sem, reduceIte, Nat.reduceEqDiff, Nat.reduceAdd, Nat.reduceLeDiff, Nat.reduceLT, Nat.reduceSub, Int.reduceLT, Int.reduceLE, Int.reduceEq, Int.reduceToNat, Option.map_some, List.length_map, List.getElem?_map, Int.toNat_natCast]
  refine cD_for t.length (fun k σ _ => σ 0 = .str t ∧ σ 4 = .int .i64 (dv 0 (t.take k) : Int) ∧ σ 5 = .int .i64 k ∧ dv 0 (t.take k) ≤ 1099511627776)
    ⟨by simp [go_sem, argsF], by simp [go_sem, dv_nil], by simp [go_sem], by simp [dv_nil]⟩ ?_ ?_
  · rintro k σ bx hk ⟨h0, h4, h5, hb⟩
    obtain ⟨x, hx⟩ := get_lt hk
    have hfx := (fg_iff x).1 (List.all_eq_true.1 hf x (List.mem_of_getElem? hx))
    have hd := dv_take hx
    generalize hv : dv 0 (t.take k) = v at *
    simp (maxSteps := 1000000) (disch := omega) only [go_sem, reduceIte, Nat.reduceEqDiff, Nat.reduceAdd, Nat.reduceLeDiff, Nat.reduceLT, Nat.reduceSub, Int.reduceLT, Int.reduceLE, Int.reduceEq, Int.reduceToNat, Option.map_some, List.length_map, List.getElem?_map, Int.toNat_natCast, h0, h4, h5]
    refine condD_yes (by omega) ?_
    simp (maxSteps := 1000000) (disch := omega) only [go_sem, reduceIte, Nat.reduceEqDiff, Nat.reduceAdd, Nat.reduceLeDiff, Nat.reduceLT, Nat.reduceSub, Int.reduceLT, Int.reduceLE, Int.reduceEq, Int.reduceToNat, Option.map_some, List.length_map, List.getElem?_map, Int.toNat_natCast, h0, h4, h5, hx]
    rw [wrap_u8 (n := (x.toNat : Int) - 48) (by omega) (by omega), wrap_i64 (n := (x.toNat : Int) - 48) (by omega) (by omega), wrap_i64 (n := 10 * (v : Int)) (by omega) (by omega), wrap_i64 (n := 10 * (v : Int) + _) (by omega) (by omega)]
    have e : 10 * (v : Int) + ((x.toNat : Int) - 48) = ((dv 0 (t.take (k + 1)) : Nat) : Int) := by rw [hd]; omega
    rw [e]
    refine condD_dec (fun hg => ?_) (fun hg => ?_)
    · simp (maxSteps := 1000000) (disch := omega) only [go_sem, reduceIte, Nat.reduceEqDiff, Nat.reduceAdd, Nat.reduceLeDiff, Nat.reduceLT, Nat.reduceSub, Int.reduceLT, Int.reduceLE, Int.reduceEq, Int.reduceToNat, Option.map_some, List.length_map, List.getElem?_map, Int.toNat_natCast, h0, h4, h5]
      have := dv_mono t (k + 1)
      exact weak_eq (by unfold numD; rw [if_neg (by omega)])
    · simp (maxSteps := 1000000) (disch := omega) only [go_sem, reduceIte, Nat.reduceEqDiff, Nat.reduceAdd, Nat.reduceLeDiff, Nat.reduceLT, Nat.reduceSub, Int.reduceLT, Int.reduceLE, Int.reduceEq, Int.reduceToNat, Option.map_some, List.length_map, List.getElem?_map, Int.toNat_natCast, h0, h4, h5]
      rw [wrap_succ (by omega)]
      exact ⟨rfl, by omega⟩
  · rintro σ bx ⟨h0, h4, h5, hb⟩
    rw [List.take_length] at h4 hb
    simp (maxSteps := 1000000) (disch := omega) only [go_sem, reduceIte, Nat.reduceEqDiff, Nat.reduceAdd, Nat.reduceLeDiff, Nat.reduceLT, Nat.reduceSub, Int.reduceLT, Int.reduceLE, Int.reduceEq, Int.reduceToNat, Option.map_some, List.length_map, List.getElem?_map, Int.toNat_natCast, h0, h4, h5]
    refine condD_no (by omega) ?_
    have e : numD t = .tup [.int .i64 (dv 0 t : Int), .bool (lead t)] := by unfold numD; rw [if_pos hb]
    rw [e]
    obtain ⟨c, r, rfl⟩ : ∃ c r, t = c :: r := by
      cases t with
      | nil => exact absurd rfl hn
      | cons c r => exact ⟨c, r, rfl⟩
    have hx : (c :: r)[0]? = some c := rfl
    have hh : (c :: r).head? = some c := rfl
    unfold lead
    rw [hh]
    generalize c :: r = z at *
    repeat' (first | with_reducible refine condD_dec (fun _ => ?_) (fun _ => ?_) | with_reducible refine condD_split (fun _ => ?_) (fun _ => ?_) | simp (maxSteps := 1000000) (disch := omega) only [go_sem, reduceIte, Nat.reduceEqDiff, Nat.reduceAdd, Nat.reduceLeDiff, Nat.reduceLT, Nat.reduceSub, Int.reduceLT, Int.reduceLE, Int.reduceEq, Int.reduceToNat, Option.map_some, List.length_map, List.getElem?_map, Int.toNat_natCast, *])
    all_goals
      refine weak_eq ?_
      simp_all [byte_beq]
      try omega
theorem number_rc (t : List UInt8) (hn : t ≠ []) (hf : figs t = true) (hl : t.length ≤ 65536) : CallsTo Tryz.prog 54 [.str t] (numD t) := fn_calls mixed (number_rd t hn hf hl) rfl (by kernel_rfl) rfl

/-! ### Digits -/
def digB (u : Nat) : List UInt8 := [UInt8.ofNat (48 + u % 10)]
def preB (u : Nat) : List UInt8 := if u < 10 then [] else Lib.decDigits (u / 10)
theorem dec_pre (u : Nat) : Lib.decDigits u = preB u ++ digB u := by
  unfold preB digB
  rw [Lib.decDigits]
  by_cases h : u < 10
  · rw [dif_pos h, if_pos h, Nat.mod_eq_of_lt h]; rfl
  · rw [dif_neg h, if_neg h]
theorem dec_len (u : Nat) : (Lib.decDigits u).length ≤ u + 1 := by
  induction u using Nat.strongRecOn with
  | _ u ih =>
    rw [Lib.decDigits]
    by_cases h : u < 10
    · rw [dif_pos h]; simp
    · rw [dif_neg h, List.length_append, List.length_cons, List.length_nil]
      have := ih (u / 10) (by omega)
      omega
theorem tmod10 (u : Nat) : Int.tmod (u : Int) 10 = ((u % 10 : Nat) : Int) := by rw [Int.tmod_eq_emod_of_nonneg (by omega)]; omega
theorem tdiv10 (u : Nat) : Int.tdiv (u : Int) 10 = ((u / 10 : Nat) : Int) := by rw [Int.tdiv_eq_ediv_of_nonneg (by omega)]; omega
theorem dig_at (u : Nat) : UInt8.ofNat (Int.toNat (IntKind.u8.wrap (IntKind.i64.wrap (48 + ((u % 10 : Nat) : Int))))) = UInt8.ofNat (48 + u % 10) := by
  rw [wrap_i64 (by omega) (by omega), wrap_u8 (by omega) (by omega)]
  congr 1
theorem dig_at' (u : Nat) : UInt8.ofNat (Int.toNat (IntKind.u8.wrap (48 + ((u % 10 : Nat) : Int)))) = UInt8.ofNat (48 + u % 10) := by
  rw [wrap_u8 (by omega) (by omega)]
  congr 1
theorem decimal_d (u : Nat) (hu : u ≤ 4611686018427387904) : fnD Tryz.prog (orac Tryz.prog) [] Tryz.f74 [.int .i64 (u : Int)] (.str (Lib.decDigits u)) := by
  refine fn_intro _ [.tmp 2] _ rfl rfl rfl (by kernel_rfl) ?_
  have hl := dec_len u
  simp (maxSteps := 1000000) (disch := omega) only [go_sem, reduceIte, Nat.reduceEqDiff, Nat.reduceAdd, Nat.reduceLeDiff, Nat.reduceLT, Nat.reduceSub, Int.reduceLT, Int.reduceLE, Int.reduceEq, Int.reduceToNat, Option.map_some, List.length_map, List.getElem?_map, Int.toNat_natCast, tmod10, dig_at]
  refine cD_loop (fun σ _ => ∃ (m : Nat) (s : List UInt8), m ≤ u ∧ σ 0 = .int .i64 (m : Int) ∧ σ 3 = .str s ∧ Lib.decDigits u = preB m ++ s) (fun σ _ => intN (σ 0))
    ⟨u, digB u, Nat.le_refl _, by simp [go_sem, argsF], by simp [go_sem, digB], dec_pre u⟩ ?_
  rintro σ bx ⟨m, s, hm, h0, h3, hd⟩
  have hsl := congrArg List.length hd
  rw [List.length_append] at hsl
  have e1 : [UInt8.ofNat (48 + m / 10 % 10)].length = 1 := rfl
  by_cases hm10 : m < 10
  · have : ¬ (10 : Int) ≤ (m : Int) := by omega
    simp (maxSteps := 1000000) (disch := omega) only [go_sem, reduceIte, Nat.reduceEqDiff, Nat.reduceAdd, Nat.reduceLeDiff, Nat.reduceLT, Nat.reduceSub, Int.reduceLT, Int.reduceLE, Int.reduceEq, Int.reduceToNat, Option.map_some, List.length_map, List.getElem?_map, Int.toNat_natCast, h0, h3, this]
    have : preB m = [] := by unfold preB; rw [if_pos hm10]
    rw [this, List.nil_append] at hd
    exact weak_eq (by rw [hd])
  · have h10 : (10 : Int) ≤ (m : Int) := by omega
    have hw : IntKind.i64.wrap (((m / 10 : Nat) : Int)) = ((m / 10 : Nat) : Int) := wrap_i64 (by omega) (by omega)
    have hpre : preB m = preB (m / 10) ++ digB (m / 10) := by
      conv => lhs; unfold preB
      rw [if_neg hm10, dec_pre]
    simp (maxSteps := 1000000) (disch := omega) only [go_sem, reduceIte, Nat.reduceEqDiff, Nat.reduceAdd, Nat.reduceLeDiff, Nat.reduceLT, Nat.reduceSub, Int.reduceLT, Int.reduceLE, Int.reduceEq, Int.reduceToNat, Option.map_some, List.length_map, List.getElem?_map, Int.toNat_natCast, h0, h3, h10, tdiv10, hw, tmod10, dig_at, List.cons_append, List.nil_append]
    refine ⟨⟨m / 10, _, by omega, rfl, rfl, ?_⟩, by simp only [intN]; omega⟩
    rw [hd, hpre, List.append_assoc]
    rfl
theorem decimal_c (u : Nat) (hu : u ≤ 4611686018427387904) : CallsTo Tryz.prog 74 [.int .i64 (u : Int)] (.str (Lib.decDigits u)) := fn_calls mixed (decimal_d u hu) rfl (by kernel_rfl) rfl
end Go.V.Lx

namespace Go.V.Lx
open Go.Proofs Go.RowKit
set_option linter.unusedSimpArgs false
set_option linter.unusedVariables false
set_option maxRecDepth 100000

theorem validR_d (x : Tok) (hs : x.t.length ≤ 140737488355328) : fnD Tryz.prog (orac Tryz.prog) [] Tryz.f19 [x.d] (.bool (validB x)) := by
  refine fn_intro _ [.tmp 2] _ rfl rfl rfl (by kernel_rfl) ?_
  obtain ⟨k, t, n, a⟩ := x
  simp only [Tok.d]
  have hv : validB ⟨k, t, n, a⟩ = if k = 1 then nameB t && decide (n = 0) else if k = 2 then decide (t = []) && decide (0 ≤ n) && decide (n ≤ 1099511627776) else if k = 3 then oneSign t && decide (n = 0) else false := rfl
  rw [hv]
  clear hv
  have ht : t = [] ∨ (∃ c, t = [c]) ∨ t.length ≠ 1 := by
    match t with
    | [] => exact .inl rfl
    | [c] => exact .inr (.inl ⟨c, rfl⟩)
    | _ :: _ :: _ => exact .inr (.inr (by simp))
  have h1 : t.length ≠ 1 → oneSign t = false := fun h => by
    match t with
    | [] => rfl
    | [c] => simp at h
    | _ :: _ :: _ => rfl
  by_cases k1 : k = 1
  · subst k1
    repeat' (first | with_reducible refine condD_dec (fun _ => ?_) (fun _ => ?_) | with_reducible refine condD_split (fun _ => ?_) (fun _ => ?_) | with_reducible refine pureO (nameR_c t hs) (by simp [go_sem]) ?_ | with_reducible refine pureT (nameR_c t hs) (by simp [go_sem]) ?_ | simp (maxSteps := 1000000) (disch := omega) only [go_sem, reduceIte, Nat.reduceEqDiff, Nat.reduceAdd, Nat.reduceLeDiff, Nat.reduceLT, Nat.reduceSub, Int.reduceLT, Int.reduceLE, Int.reduceEq, Int.reduceToNat, Option.map_some, List.length_map, List.getElem?_map, Int.toNat_natCast, *])
    all_goals exact weak_eq (by simp_all)
  by_cases k2 : k = 2
  · subst k2
    repeat' (first | with_reducible refine condD_dec (fun _ => ?_) (fun _ => ?_) | with_reducible refine condD_split (fun _ => ?_) (fun _ => ?_) | simp (maxSteps := 1000000) (disch := omega) only [go_sem, reduceIte, Nat.reduceEqDiff, Nat.reduceAdd, Nat.reduceLeDiff, Nat.reduceLT, Nat.reduceSub, Int.reduceLT, Int.reduceLE, Int.reduceEq, Int.reduceToNat, Option.map_some, List.length_map, List.getElem?_map, Int.toNat_natCast, *])
    all_goals exact weak_eq (by simp_all)
  by_cases k3 : k = 3
  · subst k3
    rcases ht with rfl | ⟨c, rfl⟩ | ht
    · repeat' (first | with_reducible refine condD_dec (fun _ => ?_) (fun _ => ?_) | with_reducible refine condD_split (fun _ => ?_) (fun _ => ?_) | simp (maxSteps := 1000000) (disch := omega) only [go_sem, reduceIte, Nat.reduceEqDiff, Nat.reduceAdd, Nat.reduceLeDiff, Nat.reduceLT, Nat.reduceSub, Int.reduceLT, Int.reduceLE, Int.reduceEq, Int.reduceToNat, Option.map_some, List.length_map, List.getElem?_map, Int.toNat_natCast, *])
      all_goals exact weak_eq (by simp_all [oneSign])
    · repeat' (first | with_reducible refine condD_dec (fun _ => ?_) (fun _ => ?_) | with_reducible refine condD_split (fun _ => ?_) (fun _ => ?_) | with_reducible refine pureO (signR_c c) (by simp [go_sem]) ?_ | with_reducible refine pureT (signR_c c) (by simp [go_sem]) ?_ | simp (maxSteps := 1000000) (disch := omega) only [go_sem, reduceIte, Nat.reduceEqDiff, Nat.reduceAdd, Nat.reduceLeDiff, Nat.reduceLT, Nat.reduceSub, Int.reduceLT, Int.reduceLE, Int.reduceEq, Int.reduceToNat, Option.map_some, List.length_map, List.getElem?_map, Int.toNat_natCast, *])
      all_goals exact weak_eq (by simp_all [oneSign, cls_sg])
    · have ht' : ¬ ((t.length : Int) = 1) := by omega
      repeat' (first | with_reducible refine condD_dec (fun _ => ?_) (fun _ => ?_) | with_reducible refine condD_split (fun _ => ?_) (fun _ => ?_) | simp (maxSteps := 1000000) (disch := omega) only [go_sem, reduceIte, Nat.reduceEqDiff, Nat.reduceAdd, Nat.reduceLeDiff, Nat.reduceLT, Nat.reduceSub, Int.reduceLT, Int.reduceLE, Int.reduceEq, Int.reduceToNat, Option.map_some, List.length_map, List.getElem?_map, Int.toNat_natCast, *])
      all_goals exact weak_eq (by simp_all)
  · repeat' (first | with_reducible refine condD_dec (fun _ => ?_) (fun _ => ?_) | with_reducible refine condD_split (fun _ => ?_) (fun _ => ?_) | simp (maxSteps := 1000000) (disch := omega) only [go_sem, reduceIte, Nat.reduceEqDiff, Nat.reduceAdd, Nat.reduceLeDiff, Nat.reduceLT, Nat.reduceSub, Int.reduceLT, Int.reduceLE, Int.reduceEq, Int.reduceToNat, Option.map_some, List.length_map, List.getElem?_map, Int.toNat_natCast, *])
    all_goals exact weak_eq (by simp_all)
theorem validR_c (x : Tok) (hs : x.t.length ≤ 140737488355328) : CallsTo Tryz.prog 19 [x.d] (.bool (validB x)) := fn_calls mixed (validR_d x hs) rfl (by kernel_rfl) rfl

theorem join_app (a b : List (List UInt8)) (sep : List UInt8) (ha : a ≠ []) : Lib.join (a ++ b) sep = Lib.join a sep ++ Lib.joinTail sep b := by
  cases a with
  | nil => exact absurd rfl ha
  | cons x r =>
    rw [List.cons_append, Lib.join_cons, Lib.join_cons]
    simp [Lib.joinTail, List.append_assoc]
theorem join_snoc (a : List (List UInt8)) (w sep : List UInt8) : Lib.join (a ++ [w]) sep = if a = [] then w else Lib.join a sep ++ sep ++ w := by
  by_cases h : a = []
  · subst h; rw [if_pos rfl, List.nil_append, Lib.join_one]
  · rw [if_neg h, join_app a [w] sep h]
    simp [Lib.joinTail]
theorem join_le (a b : List (List UInt8)) (sep : List UInt8) : (Lib.join a sep).length ≤ (Lib.join (a ++ b) sep).length := by
  by_cases h : a = []
  · subst h; simp [Lib.join_nil]
  · rw [join_app a b sep h, List.length_append]; omega
theorem join_take_le (l : List (List UInt8)) (k : Nat) (sep : List UInt8) : (Lib.join (l.take k) sep).length ≤ (Lib.join l sep).length := by
  have := join_le (l.take k) (l.drop k) sep
  rwa [List.take_append_drop] at this
def joinK (l : List Tok) (k : Nat) : List UInt8 := Lib.join ((l.take k).map word) [32]
theorem joinK_zero (l : List Tok) : joinK l 0 = [] := rfl
theorem joinK_first {l : List Tok} {x : Tok} (hx : l[0]? = some x) : joinK l 1 = word x := by
  unfold joinK
  cases l with
  | nil => simp at hx
  | cons y l => simp at hx; subst hx; simp [Lib.join_one]
theorem joinK_succ {l : List Tok} {k : Nat} {x : Tok} (hx : l[k]? = some x) (hk : 0 < k) : joinK l (k + 1) = joinK l k ++ [32] ++ word x := by
  unfold joinK
  have := (List.getElem?_eq_some_iff.1 hx).1
  rw [List.take_add_one, hx, Option.toList_some, List.map_append, List.map_cons, List.map_nil, join_snoc, if_neg]
  intro h
  have := congrArg List.length h
  rw [List.length_map, List.length_take, List.length_nil] at this
  omega
theorem joinK_le (l : List Tok) (k : Nat) : (joinK l k).length ≤ (Lib.join (l.map word) [32]).length := by
  unfold joinK
  rw [List.map_take]
  exact join_take_le _ _ _
theorem joinK_all (l : List Tok) : joinK l l.length = Lib.join (l.map word) [32] := by unfold joinK; rw [List.take_length]
theorem textR_d (l : List Tok) (hl : l.length ≤ 1000000) (ht : ∀ x ∈ l, x.t.length ≤ 140737488355328) (hj : ∀ k, (l.take k).all validB = true → (Lib.join ((l.take k).map word) [32]).length ≤ 140737488355328) : fnD Tryz.prog (orac Tryz.prog) [] Tryz.f31 [toks l] (textD (textL l)) := by
  refine fn_intro _ [.tmp 2, .tmp 3] _ rfl rfl rfl (by kernel_rfl) ?_
  simp (maxSteps := 1000000) (disch := omega) only [go_sem, reduceIte, Nat.reduceEqDiff, Nat.reduceAdd, Nat.reduceLeDiff, Nat.reduceLT, Nat.reduceSub, Int.reduceLT, Int.reduceLE, Int.reduceEq, Int.reduceToNat, Option.map_some, List.length_map, List.getElem?_map, Int.toNat_natCast, toks]
  refine cD_for l.length (fun k σ bx => σ 0 = toks l ∧ σ 4 = .str (joinK l k) ∧ σ 5 = .int .i64 k ∧ (l.take k).all validB = true)
    ⟨by simp [go_sem, argsF, toks], by simp [go_sem, joinK_zero], by simp [go_sem], by simp⟩ ?_ ?_
  · rintro k σ bx hk ⟨h0, h4, h5, hb⟩
    obtain ⟨x, hx⟩ := get_lt hk
    have hxl : x.t.length ≤ 140737488355328 := ht x (List.mem_of_getElem? hx)
    have hvc := validR_c x hxl
    have hxd : x.d = .agg [.int .i64 x.k, .str x.t, .int .i64 x.n, .int .i64 x.a] := rfl
    rw [hxd] at hvc
    simp (maxSteps := 1000000) (disch := omega) only [go_sem, reduceIte, Nat.reduceEqDiff, Nat.reduceAdd, Nat.reduceLeDiff, Nat.reduceLT, Nat.reduceSub, Int.reduceLT, Int.reduceLE, Int.reduceEq, Int.reduceToNat, Option.map_some, List.length_map, List.getElem?_map, Int.toNat_natCast, h0, h4, h5, toks]
    refine condD_yes (by omega) ?_
    simp (maxSteps := 1000000) (disch := omega) only [go_sem, reduceIte, Nat.reduceEqDiff, Nat.reduceAdd, Nat.reduceLeDiff, Nat.reduceLT, Nat.reduceSub, Int.reduceLT, Int.reduceLE, Int.reduceEq, Int.reduceToNat, Option.map_some, List.length_map, List.getElem?_map, Int.toNat_natCast, h0, h4, h5, toks, hx, hxd]
    refine call_pure hvc (by simp [go_sem]) ?_
    simp (maxSteps := 1000000) (disch := omega) only [go_sem, reduceIte, Nat.reduceEqDiff, Nat.reduceAdd, Nat.reduceLeDiff, Nat.reduceLT, Nat.reduceSub, Int.reduceLT, Int.reduceLE, Int.reduceEq, Int.reduceToNat, Option.map_some, List.length_map, List.getElem?_map, Int.toNat_natCast, h0, h4, h5, toks, hx, hxd]
    refine condD_split (fun hval => ?_) (fun hval => ?_)
    · have hall := take_all validB hx hb hval
      have hle : (joinK l (k + 1)).length ≤ 140737488355328 := hj (k + 1) hall
      have hlk : (joinK l k).length ≤ 140737488355328 := hj k hb
      have e1 : ([32] : List UInt8).length = 1 := rfl
      have hnum : x.k = 2 → ∃ u : Nat, x.n = u ∧ u ≤ 1099511627776 ∧ word x = Lib.decDigits u := fun hk2 => by
        have := hval
        unfold validB at this
        rw [if_neg (by omega), if_pos hk2] at this
        simp only [Bool.and_eq_true, decide_eq_true_eq] at this
        refine ⟨x.n.toNat, by omega, by omega, ?_⟩
        have hu : x.n = (x.n.toNat : Int) := by omega
        unfold word
        rw [if_pos hk2]
        conv => lhs; rw [hu]
        exact Lib.itoa_nonneg _
      have hoth : x.k ≠ 2 → word x = x.t := fun h => by unfold word; rw [if_neg h]
      simp (maxSteps := 1000000) (disch := omega) only [go_sem, reduceIte, Nat.reduceEqDiff, Nat.reduceAdd, Nat.reduceLeDiff, Nat.reduceLT, Nat.reduceSub, Int.reduceLT, Int.reduceLE, Int.reduceEq, Int.reduceToNat, Option.map_some, List.length_map, List.getElem?_map, Int.toNat_natCast, h0, h4, h5, toks, hx, hxd]
      refine condD_dec (fun hk0 => ?_) (fun hk0 => ?_)
      · have hs := joinK_succ hx (by omega)
        have hsl := congrArg List.length hs
        rw [List.length_append, List.length_append] at hsl
        simp (maxSteps := 1000000) (disch := omega) only [go_sem, reduceIte, Nat.reduceEqDiff, Nat.reduceAdd, Nat.reduceLeDiff, Nat.reduceLT, Nat.reduceSub, Int.reduceLT, Int.reduceLE, Int.reduceEq, Int.reduceToNat, Option.map_some, List.length_map, List.getElem?_map, Int.toNat_natCast, h0, h4, h5, toks, hx, hxd]
        refine condD_dec (fun hk2 => ?_) (fun hk2 => ?_)
        · obtain ⟨u, hu, hu2, hw⟩ := hnum hk2
          rw [hw] at hs hsl
          have hsl2 : (joinK l k ++ [32]).length + (Lib.decDigits u).length ≤ 9223372036854775807 := by rw [List.length_append]; omega
          simp (maxSteps := 1000000) (disch := omega) only [go_sem, reduceIte, Nat.reduceEqDiff, Nat.reduceAdd, Nat.reduceLeDiff, Nat.reduceLT, Nat.reduceSub, Int.reduceLT, Int.reduceLE, Int.reduceEq, Int.reduceToNat, Option.map_some, List.length_map, List.getElem?_map, Int.toNat_natCast, h0, h4, h5, toks, hx, hxd, hu]
          refine call_pure (decimal_c u (by omega)) (by simp [go_sem]) ?_
          simp (maxSteps := 1000000) (disch := omega) only [go_sem, reduceIte, Nat.reduceEqDiff, Nat.reduceAdd, Nat.reduceLeDiff, Nat.reduceLT, Nat.reduceSub, Int.reduceLT, Int.reduceLE, Int.reduceEq, Int.reduceToNat, Option.map_some, List.length_map, List.getElem?_map, Int.toNat_natCast, h0, h4, h5, toks, hx, hxd]
          rw [wrap_succ (by omega)]
          exact ⟨by rw [hs], rfl, hall⟩
        · rw [hoth hk2] at hs hsl
          have hsl2 : (joinK l k ++ [32]).length + x.t.length ≤ 9223372036854775807 := by rw [List.length_append]; omega
          simp (maxSteps := 1000000) (disch := omega) only [go_sem, reduceIte, Nat.reduceEqDiff, Nat.reduceAdd, Nat.reduceLeDiff, Nat.reduceLT, Nat.reduceSub, Int.reduceLT, Int.reduceLE, Int.reduceEq, Int.reduceToNat, Option.map_some, List.length_map, List.getElem?_map, Int.toNat_natCast, h0, h4, h5, toks, hx, hxd]
          rw [wrap_succ (by omega)]
          exact ⟨by rw [hs], rfl, hall⟩
      · obtain rfl : k = 0 := by omega
        have hs := joinK_first hx
        have hz := joinK_zero l
        have e0 : ([] : List UInt8).length = 0 := rfl
        simp (maxSteps := 1000000) (disch := omega) only [go_sem, reduceIte, Nat.reduceEqDiff, Nat.reduceAdd, Nat.reduceLeDiff, Nat.reduceLT, Nat.reduceSub, Int.reduceLT, Int.reduceLE, Int.reduceEq, Int.reduceToNat, Option.map_some, List.length_map, List.getElem?_map, Int.toNat_natCast, h0, h4, h5, toks, hx, hxd]
        refine condD_dec (fun hk2 => ?_) (fun hk2 => ?_)
        · obtain ⟨u, hu, hu2, hw⟩ := hnum hk2
          rw [hw] at hs
          have hd := dec_len u
          simp (maxSteps := 1000000) (disch := omega) only [go_sem, reduceIte, Nat.reduceEqDiff, Nat.reduceAdd, Nat.reduceLeDiff, Nat.reduceLT, Nat.reduceSub, Int.reduceLT, Int.reduceLE, Int.reduceEq, Int.reduceToNat, Option.map_some, List.length_map, List.getElem?_map, Int.toNat_natCast, h0, h4, h5, toks, hx, hxd, hu]
          refine call_pure (decimal_c u (by omega)) (by simp [go_sem]) ?_
          simp (maxSteps := 1000000) (disch := omega) only [go_sem, reduceIte, Nat.reduceEqDiff, Nat.reduceAdd, Nat.reduceLeDiff, Nat.reduceLT, Nat.reduceSub, Int.reduceLT, Int.reduceLE, Int.reduceEq, Int.reduceToNat, Option.map_some, List.length_map, List.getElem?_map, Int.toNat_natCast, h0, h4, h5, toks, hx, hxd, hz, List.nil_append]
          exact ⟨by rw [hs], by rw [wrap_i64 (by omega) (by omega)]; rfl, hall⟩
        · rw [hoth hk2] at hs
          simp (maxSteps := 1000000) (disch := omega) only [go_sem, reduceIte, Nat.reduceEqDiff, Nat.reduceAdd, Nat.reduceLeDiff, Nat.reduceLT, Nat.reduceSub, Int.reduceLT, Int.reduceLE, Int.reduceEq, Int.reduceToNat, Option.map_some, List.length_map, List.getElem?_map, Int.toNat_natCast, h0, h4, h5, toks, hx, hxd, hz, List.nil_append]
          exact ⟨by rw [hs], by rw [wrap_i64 (by omega) (by omega)]; rfl, hall⟩
    · simp (maxSteps := 1000000) (disch := omega) only [go_sem, reduceIte, Nat.reduceEqDiff, Nat.reduceAdd, Nat.reduceLeDiff, Nat.reduceLT, Nat.reduceSub, Int.reduceLT, Int.reduceLE, Int.reduceEq, Int.reduceToNat, Option.map_some, List.length_map, List.getElem?_map, Int.toNat_natCast, h0, h4, h5, toks, hx, hxd]
      have : textL l = ([], 30) := by unfold textL; rw [if_neg (by rw [all_of validB hx hval]; simp)]
      rw [this]
      exact .refl _
  · rintro σ bx ⟨h0, h4, h5, hb⟩
    simp (maxSteps := 1000000) (disch := omega) only [go_sem, reduceIte, Nat.reduceEqDiff, Nat.reduceAdd, Nat.reduceLeDiff, Nat.reduceLT, Nat.reduceSub, Int.reduceLT, Int.reduceLE, Int.reduceEq, Int.reduceToNat, Option.map_some, List.length_map, List.getElem?_map, Int.toNat_natCast, h0, h4, h5, toks]
    refine condD_no (by omega) ?_
    simp (maxSteps := 1000000) (disch := omega) only [go_sem, reduceIte, Nat.reduceEqDiff, Nat.reduceAdd, Nat.reduceLeDiff, Nat.reduceLT, Nat.reduceSub, Int.reduceLT, Int.reduceLE, Int.reduceEq, Int.reduceToNat, Option.map_some, List.length_map, List.getElem?_map, Int.toNat_natCast, h0, h4, h5, toks]
    have : textL l = (Lib.join (l.map word) [32], 0) := by
      unfold textL; rw [if_pos (by rw [List.take_length] at hb; exact hb)]
    rw [this, ← joinK_all]
    exact .refl _
theorem textR_c (l : List Tok) (hl : l.length ≤ 1000000) (ht : ∀ x ∈ l, x.t.length ≤ 140737488355328) (hj : ∀ k, (l.take k).all validB = true → (Lib.join ((l.take k).map word) [32]).length ≤ 140737488355328) : CallsTo Tryz.prog 31 [toks l] (textD (textL l)) := fn_calls mixed (textR_d l hl ht hj) rfl (by kernel_rfl) rfl

theorem sameL_get {a b : List Tok} {k : Nat} {x y : Tok} (h : sameL a b = true) (hx : a[k]? = some x) (hy : b[k]? = some y) : same1 x y = true := by
  cases hs : same1 x y with
  | true => rfl
  | false => rw [sameL_at a b k x y hx hy hs] at h; cases h

theorem nd_le : ∀ (k u : Nat), u < 10 ^ (k + 1) → (Lib.decDigits u).length ≤ k + 1
  | 0, u, h => by
    rw [Lib.decDigits_one (by simpa using h)]; simp
  | k + 1, u, h => by
    rw [Lib.decDigits]
    by_cases h1 : u < 10
    · rw [dif_pos h1]; simp
    · rw [Nat.pow_succ] at h
      rw [dif_neg h1, List.length_append, List.length_cons, List.length_nil]
      have := nd_le k (u / 10) (by omega)
      omega
def textSum (l : List Tok) : Nat := (l.map fun x => x.t.length).sum
theorem word_le {x : Tok} (h : validB x = true) : (word x).length ≤ x.t.length + 13 := by
  unfold word
  split
  · rename_i h2
    unfold validB at h
    rw [if_neg (by omega), if_pos h2] at h
    simp only [Bool.and_eq_true, decide_eq_true_eq] at h
    obtain ⟨u, hu⟩ : ∃ u : Nat, x.n = u := ⟨x.n.toNat, by omega⟩
    rw [hu, Lib.itoa_nonneg]
    have := nd_le 12 u (by omega)
    omega
  · omega
theorem sum_cons (x : Tok) (l : List Tok) : textSum (x :: l) = x.t.length + textSum l := rfl
theorem tail_le : ∀ (l : List Tok), l.all validB = true → (Lib.joinTail [32] (l.map word)).length ≤ textSum l + 14 * l.length
  | [], _ => by simp [Lib.joinTail]
  | x :: l, h => by
    rw [List.all_cons, Bool.and_eq_true] at h
    have h1 := tail_le l h.2
    have h2 := word_le h.1
    have e : Lib.joinTail [32] ((x :: l).map word) = 32 :: word x ++ Lib.joinTail [32] (l.map word) := by simp [Lib.joinTail]
    rw [e, sum_cons, List.length_append, List.length_cons, List.length_cons]
    omega
theorem join_len (l : List Tok) (h : l.all validB = true) : (Lib.join (l.map word) [32]).length ≤ textSum l + 14 * l.length := by
  cases l with
  | nil => simp [Lib.join_nil]
  | cons x l =>
    rw [List.all_cons, Bool.and_eq_true] at h
    have h1 := tail_le l h.2
    have h2 := word_le h.1
    rw [List.map_cons, Lib.join_cons, List.length_append, sum_cons, List.length_cons]
    omega
theorem sum_app (a b : List Tok) : textSum (a ++ b) = textSum a + textSum b := by simp [textSum]
theorem sum_take_le (l : List Tok) (k : Nat) : textSum (l.take k) ≤ textSum l := by
  have := sum_app (l.take k) (l.drop k)
  rw [List.take_append_drop] at this
  omega
theorem sum_mem {l : List Tok} {x : Tok} (h : x ∈ l) : x.t.length ≤ textSum l := by
  induction l with
  | nil => cases h
  | cons y l ih =>
    rw [sum_cons]
    rcases List.mem_cons.1 h with rfl | h
    · omega
    · have := ih h; omega
theorem join_ok {l : List Tok} (hl : l.length ≤ 1000000) (hs : textSum l ≤ 1000000000) (k : Nat) (h : (l.take k).all validB = true) : (Lib.join ((l.take k).map word) [32]).length ≤ 140737488355328 := by
  have h1 := join_len (l.take k) h
  have h2 := sum_take_le l k
  have h3 : (l.take k).length ≤ l.length := by rw [List.length_take]; omega
  omega
theorem text_f (l : List Tok) (hl : l.length ≤ 1000000) (hs : textSum l ≤ 1000000000) : CallsTo Tryz.prog 18 [toks l] (textD (textL l)) := text_c l hl (fun x hx => by have := sum_mem hx; omega) (join_ok hl hs)
theorem textR_f (l : List Tok) (hl : l.length ≤ 1000000) (hs : textSum l ≤ 1000000000) : CallsTo Tryz.prog 31 [toks l] (textD (textL l)) := textR_c l hl (fun x hx => by have := sum_mem hx; omega) (join_ok hl hs)
def fewL (l : List Tok) : Bool := decide (l.length ≤ 200) && decide (textSum l ≤ 2000)
theorem sum_take {l : List Tok} {k : Nat} {x : Tok} (hx : l[k]? = some x) : textSum (l.take (k + 1)) = textSum (l.take k) + x.t.length := by
  unfold textSum
  rw [List.take_add_one, hx]
  simp
theorem sum_bound {l : List Tok} {B : Nat} (ht : ∀ x ∈ l, x.t.length ≤ B) : ∀ k, textSum (l.take k) ≤ k * B := by
  intro k
  induction k with
  | zero => exact Nat.zero_le _
  | succ k ih =>
    rw [Nat.succ_mul]
    cases hx : l[k]? with
    | none =>
      have h1 := List.getElem?_eq_none_iff.1 hx
      rw [List.take_of_length_le (by omega)]
      rw [List.take_of_length_le (by omega)] at ih
      omega
    | some x =>
      rw [sum_take hx]
      have := ht x (List.mem_of_getElem? hx)
      omega
end Go.V.Lx
