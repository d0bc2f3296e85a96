/-
  Lex: equality apart from places; the reference, on data.
-/
import Derived.Test.YtbnniokcdilpgaaDoorLr
namespace Go.V.Lx
open Go.Proofs Go.RowKit
set_option linter.unusedSimpArgs false
set_option linter.unusedVariables false
set_option maxRecDepth 20000

theorem sameL_take : ∀ (a b : List Tok) (k : Nat) (x y : Tok), a[k]? = some x → b[k]? = some y → sameL (a.take (k + 1)) (b.take (k + 1)) = (sameL (a.take k) (b.take k) && same1 x y)
  | [], _, k, x, y, h, _ => by simp at h
  | _ :: _, [], k, x, y, _, h => by simp at h
  | u :: a, v :: b, 0, x, y, h1, h2 => by
    simp at h1 h2; subst h1; subst h2
    simp [sameL]
  | u :: a, v :: b, k + 1, x, y, h1, h2 => by
    simp only [List.take_succ_cons, sameL, sameL_take a b k x y (by simpa using h1) (by simpa using h2), Bool.and_assoc]
theorem sameL_len : ∀ (a b : List Tok), a.length ≠ b.length → sameL a b = false
  | [], [], h => by simp at h
  | [], _ :: _, _ => rfl
  | _ :: _, [], _ => rfl
  | u :: a, v :: b, h => by simp [sameL, sameL_len a b (by simpa using h)]
theorem sameL_at : ∀ (a b : List Tok) (k : Nat) (x y : Tok), a[k]? = some x → b[k]? = some y → same1 x y = false → sameL a b = false
  | [], _, k, x, y, h, _, _ => by simp at h
  | _ :: _, [], k, x, y, _, h, _ => by simp at h
  | u :: a, v :: b, 0, x, y, h1, h2, h => by
    simp at h1 h2; subst h1; subst h2
    simp [sameL, h]
  | u :: a, v :: b, k + 1, x, y, h1, h2, h => by
    simp [sameL, sameL_at a b k x y (by simpa using h1) (by simpa using h2) h]
theorem toks_eq (l : List Tok) : toks l = .sl 4 (l.map Tok.d) := rfl

theorem eqf_d (a b : List Tok) (ha : a.length ≤ 140737488355328) (hb : b.length ≤ 140737488355328) : fnD Tryd.prog (orac Tryd.prog) [] Tryd.f40 [toks a, toks b, .fn (.func 41) []] (.bool (sameL a b)) := by
  refine fn_intro _ [.tmp 6] _ rfl rfl rfl (by kernel_rfl) ?_
  simp (maxSteps := 1000000) (disch := omega) only [go_sem, reduceIte, Nat.reduceEqDiff, Nat.reduceAdd, Nat.reduceLeDiff, Nat.reduceLT, Nat.reduceSub, Int.reduceLT, Int.reduceLE, Int.reduceEq, Int.reduceToNat, Option.map_some, List.length_map, List.getElem?_map, Int.toNat_natCast, toks]
  refine condD_dec (fun he => ?_) (fun hn => ?_)
  · have he : a.length = b.length := by omega
    simp (maxSteps := 1000000) (disch := omega) only [go_sem, reduceIte, Nat.reduceEqDiff, Nat.reduceAdd, Nat.reduceLeDiff, Nat.reduceLT, Nat.reduceSub, Int.reduceLT, Int.reduceLE, Int.reduceEq, Int.reduceToNat, Option.map_some, List.length_map, List.getElem?_map, Int.toNat_natCast, toks]
    refine cD_for a.length (fun k σ _ => σ 0 = toks a ∧ σ 1 = toks b ∧ σ 2 = .fn (.func 41) [] ∧ σ 15 = toks a ∧ σ 16 = .int .i64 a.length ∧ σ 17 = .int .i64 k ∧ sameL (a.take k) (b.take k) = true)
      ⟨by simp [go_sem, argsF, toks], by simp [go_sem, argsF, toks], by simp [go_sem, argsF], by simp [go_sem, toks], by simp [go_sem], by simp [go_sem], by simp [sameL]⟩ ?_ ?_
    · rintro k σ bx hk ⟨h0, h1, h2, h15, h16, h17, hs⟩
      obtain ⟨x, hx⟩ := get_lt hk
      obtain ⟨y, hy⟩ := get_lt (l := b) (k := k) (by omega)
      have hxd : x.d = .agg [.int .i64 x.k, .str x.t, .int .i64 x.n, .int .i64 x.a] := rfl
      have hyd : y.d = .agg [.int .i64 y.k, .str y.t, .int .i64 y.n, .int .i64 y.a] := rfl
      have hc := same1_c x y
      rw [hxd, hyd] at hc
      simp (maxSteps := 1000000) (disch := omega) only [go_sem, reduceIte, Nat.reduceEqDiff, Nat.reduceAdd, Nat.reduceLeDiff, Nat.reduceLT, Nat.reduceSub, Int.reduceLT, Int.reduceLE, Int.reduceEq, Int.reduceToNat, Option.map_some, List.length_map, List.getElem?_map, Int.toNat_natCast, h0, h1, h2, h15, h16, h17, toks]
      refine condD_yes (by omega) ?_
      simp (maxSteps := 1000000) (disch := omega) only [go_sem, reduceIte, Nat.reduceEqDiff, Nat.reduceAdd, Nat.reduceLeDiff, Nat.reduceLT, Nat.reduceSub, Int.reduceLT, Int.reduceLE, Int.reduceEq, Int.reduceToNat, Option.map_some, List.length_map, List.getElem?_map, Int.toNat_natCast, h0, h1, h2, h15, h16, h17, toks, hx, hy, hxd, hyd]
      refine call_pure hc (by simp [go_sem]) ?_
      simp (maxSteps := 1000000) (disch := omega) only [go_sem, reduceIte, Nat.reduceEqDiff, Nat.reduceAdd, Nat.reduceLeDiff, Nat.reduceLT, Nat.reduceSub, Int.reduceLT, Int.reduceLE, Int.reduceEq, Int.reduceToNat, Option.map_some, List.length_map, List.getElem?_map, Int.toNat_natCast, h0, h1, h2, h15, h16, h17, toks, hx, hy, hxd, hyd]
      refine condD_split (fun hv => ?_) (fun hv => ?_)
      · simp (maxSteps := 1000000) (disch := omega) only [go_sem, reduceIte, Nat.reduceEqDiff, Nat.reduceAdd, Nat.reduceLeDiff, Nat.reduceLT, Nat.reduceSub, Int.reduceLT, Int.reduceLE, Int.reduceEq, Int.reduceToNat, Option.map_some, List.length_map, List.getElem?_map, Int.toNat_natCast, h0, h1, h2, h15, h16, h17, toks]
        rw [wrap_succ (by omega)]
        exact ⟨rfl, by rw [sameL_take a b k x y hx hy, hs, hv]; rfl⟩
      · simp (maxSteps := 1000000) (disch := omega) only [go_sem, reduceIte, Nat.reduceEqDiff, Nat.reduceAdd, Nat.reduceLeDiff, Nat.reduceLT, Nat.reduceSub, Int.reduceLT, Int.reduceLE, Int.reduceEq, Int.reduceToNat, Option.map_some, List.length_map, List.getElem?_map, Int.toNat_natCast, h0, h1, h2, h15, h16, h17, toks]
        exact weak_eq (by rw [sameL_at a b k x y hx hy hv])
    · rintro σ bx ⟨h0, h1, h2, h15, h16, h17, hs⟩
      simp (maxSteps := 1000000) (disch := omega) only [go_sem, reduceIte, Nat.reduceEqDiff, Nat.reduceAdd, Nat.reduceLeDiff, Nat.reduceLT, Nat.reduceSub, Int.reduceLT, Int.reduceLE, Int.reduceEq, Int.reduceToNat, Option.map_some, List.length_map, List.getElem?_map, Int.toNat_natCast, h0, h1, h2, h15, h16, h17, toks]
      refine condD_no (by omega) ?_
      simp (maxSteps := 1000000) (disch := omega) only [go_sem, reduceIte, Nat.reduceEqDiff, Nat.reduceAdd, Nat.reduceLeDiff, Nat.reduceLT, Nat.reduceSub, Int.reduceLT, Int.reduceLE, Int.reduceEq, Int.reduceToNat, Option.map_some, List.length_map, List.getElem?_map, Int.toNat_natCast, h0, h1, h2, h15, h16, h17, toks]
      rw [List.take_length, he, List.take_length] at hs
      exact weak_eq (by rw [hs])
  · simp (maxSteps := 1000000) (disch := omega) only [go_sem, reduceIte, Nat.reduceEqDiff, Nat.reduceAdd, Nat.reduceLeDiff, Nat.reduceLT, Nat.reduceSub, Int.reduceLT, Int.reduceLE, Int.reduceEq, Int.reduceToNat, Option.map_some, List.length_map, List.getElem?_map, Int.toNat_natCast, toks]
    exact weak_eq (by rw [sameL_len a b (by omega)])
theorem eqf_c (a b : List Tok) (ha : a.length ≤ 140737488355328) (hb : b.length ≤ 140737488355328) : CallsTo Tryd.prog 40 [toks a, toks b, .fn (.func 41) []] (.bool (sameL a b)) := fn_calls mixed (eqf_d a b ha hb) rfl (by kernel_rfl) rfl
theorem same_d (a b : List Tok) (ha : a.length ≤ 140737488355328) (hb : b.length ≤ 140737488355328) : fnD Tryd.prog (orac Tryd.prog) [] Tryd.f17 [toks a, toks b] (.bool (sameL a b)) := by
  refine fn_intro _ [.tmp 4] _ rfl rfl rfl (by kernel_rfl) ?_
  have h := eqf_c a b ha hb
  have p1 := pureL_toks a
  have p2 := pureL_toks b
  simp (maxSteps := 1000000) (disch := omega) only [go_sem, reduceIte, Nat.reduceEqDiff, Nat.reduceAdd, Nat.reduceLeDiff, Nat.reduceLT, Nat.reduceSub, Int.reduceLT, Int.reduceLE, Int.reduceEq, Int.reduceToNat, Option.map_some, List.length_map, List.getElem?_map, Int.toNat_natCast]
  refine call_pure h (by simp [toks, D.pureL, D.pure, p1, p2]) ?_
  simp (maxSteps := 1000000) (disch := omega) only [go_sem, reduceIte, Nat.reduceEqDiff, Nat.reduceAdd, Nat.reduceLeDiff, Nat.reduceLT, Nat.reduceSub, Int.reduceLT, Int.reduceLE, Int.reduceEq, Int.reduceToNat, Option.map_some, List.length_map, List.getElem?_map, Int.toNat_natCast]
  exact .refl _
theorem same_c (a b : List Tok) (ha : a.length ≤ 140737488355328) (hb : b.length ≤ 140737488355328) : CallsTo Tryd.prog 17 [toks a, toks b] (.bool (sameL a b)) := fn_calls mixed (same_d a b ha hb) rfl (by kernel_rfl) rfl

/-! ### The reference: classes -/
theorem letter_d (c : UInt8) : fnD Tryd.prog (orac Tryd.prog) [] Tryd.f30 [.int .u8 (c.toNat : Int)] (.bool (isLt c.toNat)) := by
  refine fn_intro _ [.tmp 2] _ rfl rfl rfl (by kernel_rfl) ?_
  repeat' (first | with_reducible refine condD_dec (fun _ => ?_) (fun _ => ?_) | with_reducible refine condD_split (fun _ => ?_) (fun _ => ?_) | simp (maxSteps := 1000000) (disch := omega) only [go_sem, reduceIte, Nat.reduceEqDiff, Nat.reduceAdd, Nat.reduceLeDiff, Nat.reduceLT, Nat.reduceSub, Int.reduceLT, Int.reduceLE, Int.reduceEq, Int.reduceToNat, Option.map_some, List.length_map, List.getElem?_map, Int.toNat_natCast, *])
  all_goals
    refine weak_eq (congrArg D.bool ?_)
    rw [Bool.eq_iff_iff]
    simp [isLt, *] <;> omega
theorem letter_c (c : UInt8) : CallsTo Tryd.prog 30 [.int .u8 (c.toNat : Int)] (.bool (isLt c.toNat)) := fn_calls mixed (letter_d c) rfl (by kernel_rfl) rfl
theorem figure_d (c : UInt8) : fnD Tryd.prog (orac Tryd.prog) [] Tryd.f32 [.int .u8 (c.toNat : Int)] (.bool (isFg c.toNat)) := by
  refine fn_intro _ [.tmp 2] _ rfl rfl rfl (by kernel_rfl) ?_
  repeat' (first | with_reducible refine condD_dec (fun _ => ?_) (fun _ => ?_) | with_reducible refine condD_split (fun _ => ?_) (fun _ => ?_) | simp (maxSteps := 1000000) (disch := omega) only [go_sem, reduceIte, Nat.reduceEqDiff, Nat.reduceAdd, Nat.reduceLeDiff, Nat.reduceLT, Nat.reduceSub, Int.reduceLT, Int.reduceLE, Int.reduceEq, Int.reduceToNat, Option.map_some, List.length_map, List.getElem?_map, Int.toNat_natCast, *])
  all_goals
    refine weak_eq (congrArg D.bool ?_)
    rw [Bool.eq_iff_iff]
    simp [isFg, *] <;> omega
theorem figure_c (c : UInt8) : CallsTo Tryd.prog 32 [.int .u8 (c.toNat : Int)] (.bool (isFg c.toNat)) := fn_calls mixed (figure_d c) rfl (by kernel_rfl) rfl
theorem space_rd (c : UInt8) : fnD Tryd.prog (orac Tryd.prog) [] Tryd.f21 [.int .u8 (c.toNat : Int)] (.bool (isSp c.toNat)) := by
  refine fn_intro _ [.tmp 2] _ rfl rfl rfl (by kernel_rfl) ?_
  repeat' (first | with_reducible refine condD_dec (fun _ => ?_) (fun _ => ?_) | with_reducible refine condD_split (fun _ => ?_) (fun _ => ?_) | simp (maxSteps := 1000000) (disch := omega) only [go_sem, reduceIte, Nat.reduceEqDiff, Nat.reduceAdd, Nat.reduceLeDiff, Nat.reduceLT, Nat.reduceSub, Int.reduceLT, Int.reduceLE, Int.reduceEq, Int.reduceToNat, Option.map_some, List.length_map, List.getElem?_map, Int.toNat_natCast, *])
  all_goals
    refine weak_eq (congrArg D.bool ?_)
    rw [Bool.eq_iff_iff]
    simp [isSp, *] <;> omega
theorem space_rc (c : UInt8) : CallsTo Tryd.prog 21 [.int .u8 (c.toNat : Int)] (.bool (isSp c.toNat)) := fn_calls mixed (space_rd c) rfl (by kernel_rfl) rfl
theorem part_d (c : UInt8) : fnD Tryd.prog (orac Tryd.prog) [] Tryd.f31 [.int .u8 (c.toNat : Int)] (.bool (isPart c)) := by
  refine fn_intro _ [.tmp 2] _ rfl rfl rfl (by kernel_rfl) ?_
  repeat' (first | with_reducible refine condD_dec (fun _ => ?_) (fun _ => ?_) | with_reducible refine condD_split (fun _ => ?_) (fun _ => ?_) | with_reducible refine pureO (letter_c c) (by simp [go_sem]) ?_ | with_reducible refine pureT (letter_c c) (by simp [go_sem]) ?_ | with_reducible refine pureO (figure_c c) (by simp [go_sem]) ?_ | with_reducible refine pureT (figure_c c) (by simp [go_sem]) ?_ | simp (maxSteps := 1000000) (disch := omega) only [go_sem, reduceIte, Nat.reduceEqDiff, Nat.reduceAdd, Nat.reduceLeDiff, Nat.reduceLT, Nat.reduceSub, Int.reduceLT, Int.reduceLE, Int.reduceEq, Int.reduceToNat, Option.map_some, List.length_map, List.getElem?_map, Int.toNat_natCast, *])
  all_goals
    refine weak_eq (congrArg D.bool ?_)
    rw [Bool.eq_iff_iff]
    simp [isPart, *] <;> omega
theorem part_c (c : UInt8) : CallsTo Tryd.prog 31 [.int .u8 (c.toNat : Int)] (.bool (isPart c)) := fn_calls mixed (part_d c) rfl (by kernel_rfl) rfl
theorem has_take {l : List UInt8} {k : Nat} {x c : UInt8} (hx : l[k]? = some x) (h : (l.take k).contains c = false) (hn : ¬ x = c) : (l.take (k + 1)).contains c = false := by
  rw [List.take_add_one, hx]
  simp only [List.contains_eq_mem, List.mem_append, decide_eq_false_iff_not, Option.mem_toList, Option.mem_def, Option.some.injEq] at h ⊢
  rintro (h' | h')
  · exact h h'
  · exact hn h'
theorem toNat_eq {x c : UInt8} (h : (x.toNat : Int) = (c.toNat : Int)) : x = c := UInt8.toNat_inj.1 (by omega)
theorem signR_d (c : UInt8) : fnD Tryd.prog (orac Tryd.prog) [] Tryd.f34 [.int .u8 (c.toNat : Int)] (.bool (isSg c)) := by
  refine fn_intro _ [.tmp 2] _ rfl rfl rfl (by kernel_rfl) ?_
  rw [sg_signs]
  simp (maxSteps := 1000000) (disch := omega) only [go_sem, reduceIte, Nat.reduceEqDiff, Nat.reduceAdd, Nat.reduceLeDiff, Nat.reduceLT, Nat.reduceSub, Int.reduceLT, Int.reduceLE, Int.reduceEq, Int.reduceToNat, Option.map_some, List.length_map, List.getElem?_map, Int.toNat_natCast]
  refine cD_for 16 (fun k σ _ => σ 0 = .int .u8 (c.toNat : Int) ∧ σ 3 = .str signs ∧ σ 4 = .int .i64 k ∧ (signs.take k).contains c = false)
    ⟨by simp [go_sem, argsF], by simp [go_sem, signs], by simp [go_sem], rfl⟩ ?_ ?_
  · rintro k σ bx hk ⟨h0, h3, h4, hs⟩
    obtain ⟨x, hx⟩ := get_lt (l := signs) (k := k) hk
    have hlen : signs.length = 16 := rfl
    simp (maxSteps := 1000000) (disch := omega) only [go_sem, reduceIte, Nat.reduceEqDiff, Nat.reduceAdd, Nat.reduceLeDiff, Nat.reduceLT, Nat.reduceSub, Int.reduceLT, Int.reduceLE, Int.reduceEq, Int.reduceToNat, Option.map_some, List.length_map, List.getElem?_map, Int.toNat_natCast, h0, h3, h4, hlen]
    refine condD_yes (by omega) ?_
    simp (maxSteps := 1000000) (disch := omega) only [go_sem, reduceIte, Nat.reduceEqDiff, Nat.reduceAdd, Nat.reduceLeDiff, Nat.reduceLT, Nat.reduceSub, Int.reduceLT, Int.reduceLE, Int.reduceEq, Int.reduceToNat, Option.map_some, List.length_map, List.getElem?_map, Int.toNat_natCast, h0, h3, h4, hx]
    refine condD_dec (fun he => ?_) (fun hn => ?_)
    · have := toNat_eq he
      subst this
      simp (maxSteps := 1000000) (disch := omega) only [go_sem, reduceIte, Nat.reduceEqDiff, Nat.reduceAdd, Nat.reduceLeDiff, Nat.reduceLT, Nat.reduceSub, Int.reduceLT, Int.reduceLE, Int.reduceEq, Int.reduceToNat, Option.map_some, List.length_map, List.getElem?_map, Int.toNat_natCast, h0, h3, h4]
      have : signs.contains x = true := by simp only [List.contains_eq_mem, decide_eq_true_eq]; exact List.mem_of_getElem? hx
      exact weak_eq (by rw [this])
    · simp (maxSteps := 1000000) (disch := omega) only [go_sem, reduceIte, Nat.reduceEqDiff, Nat.reduceAdd, Nat.reduceLeDiff, Nat.reduceLT, Nat.reduceSub, Int.reduceLT, Int.reduceLE, Int.reduceEq, Int.reduceToNat, Option.map_some, List.length_map, List.getElem?_map, Int.toNat_natCast, h0, h3, h4]
      rw [wrap_succ (by omega)]
      exact ⟨rfl, has_take hx hs (fun e => hn (by rw [e]))⟩
  · rintro σ bx ⟨h0, h3, h4, hs⟩
    have hlen : signs.length = 16 := rfl
    simp (maxSteps := 1000000) (disch := omega) only [go_sem, reduceIte, Nat.reduceEqDiff, Nat.reduceAdd, Nat.reduceLeDiff, Nat.reduceLT, Nat.reduceSub, Int.reduceLT, Int.reduceLE, Int.reduceEq, Int.reduceToNat, Option.map_some, List.length_map, List.getElem?_map, Int.toNat_natCast, h0, h3, h4, hlen]
    refine condD_no (by omega) ?_
    simp (maxSteps := 1000000) (disch := omega) only [go_sem, reduceIte, Nat.reduceEqDiff, Nat.reduceAdd, Nat.reduceLeDiff, Nat.reduceLT, Nat.reduceSub, Int.reduceLT, Int.reduceLE, Int.reduceEq, Int.reduceToNat, Option.map_some, List.length_map, List.getElem?_map, Int.toNat_natCast, h0, h3, h4]
    exact weak_eq (by rw [show signs = signs.take 16 from rfl, hs])
theorem signR_c (c : UInt8) : CallsTo Tryd.prog 34 [.int .u8 (c.toNat : Int)] (.bool (isSg c)) := fn_calls mixed (signR_d c) rfl (by kernel_rfl) rfl
theorem nameR_d (s : List UInt8) (hs : s.length ≤ 140737488355328) : fnD Tryd.prog (orac Tryd.prog) [] Tryd.f20 [.str s] (.bool (nameB s)) := by
  refine fn_intro _ [.tmp 2] _ rfl rfl rfl (by kernel_rfl) ?_
  match s, hs with
  | [], hs =>
    repeat' (first | with_reducible refine condD_dec (fun _ => ?_) (fun _ => ?_) | with_reducible refine condD_split (fun _ => ?_) (fun _ => ?_) | simp (maxSteps := 1000000) (disch := omega) only [go_sem, reduceIte, Nat.reduceEqDiff, Nat.reduceAdd, Nat.reduceLeDiff, Nat.reduceLT, Nat.reduceSub, Int.reduceLT, Int.reduceLE, Int.reduceEq, Int.reduceToNat, Option.map_some, List.length_map, List.getElem?_map, Int.toNat_natCast, *])
    all_goals exact weak_eq (by simp_all [nameB])
  | c :: r, hs =>
    have hx : (c :: r)[0]? = some c := rfl
    have hl : (c :: r).length = r.length + 1 := rfl
    by_cases h32 : 32 < (((c :: r).length : Nat) : Int)
    · have hb : nameB (c :: r) = false := by
        have : ¬ (c :: r).length ≤ 32 := by omega
        simp only [nameB, this, decide_false, Bool.false_and]
      have h1 : ¬ (((c :: r).length : Nat) : Int) < 1 := by omega
      generalize hz : c :: r = z at *
      rw [hb]
      have h1' : decide (((z.length : Nat) : Int) < 1) = false := by simp; omega
      have h32' : decide (32 < ((z.length : Nat) : Int)) = true := by simp; omega
      simp (maxSteps := 1000000) (disch := omega) only [go_sem, reduceIte, Nat.reduceEqDiff, Nat.reduceAdd, Nat.reduceLeDiff, Nat.reduceLT, Nat.reduceSub, Int.reduceLT, Int.reduceLE, Int.reduceEq, Int.reduceToNat, Option.map_some, List.length_map, List.getElem?_map, Int.toNat_natCast, h1', h32']
      exact weak_eq rfl
    · have h1 : ¬ (((c :: r).length : Nat) : Int) < 1 := by omega
      have hlt := letter_c c
      by_cases hc : isLt c.toNat = true
      · rw [hc] at hlt
        have hnb : nameB (c :: r) = (c :: r).all isPart := by
          have : (c :: r).length ≤ 32 := by omega
          simp only [nameB, this, decide_true, hc, Bool.true_and]
        rw [hnb]
        clear hnb
        generalize hz : c :: r = z at *
        have h1' : decide (((z.length : Nat) : Int) < 1) = false := by simp; omega
        have h32' : decide (32 < ((z.length : Nat) : Int)) = false := by simp; omega
        simp (maxSteps := 1000000) (disch := omega) only [go_sem, reduceIte, Nat.reduceEqDiff, Nat.reduceAdd, Nat.reduceLeDiff, Nat.reduceLT, Nat.reduceSub, Int.reduceLT, Int.reduceLE, Int.reduceEq, Int.reduceToNat, Option.map_some, List.length_map, List.getElem?_map, Int.toNat_natCast, h1', h32', hx]
        refine call_pure hlt (by simp [go_sem]) ?_
        simp (maxSteps := 1000000) (disch := omega) only [go_sem, reduceIte, Nat.reduceEqDiff, Nat.reduceAdd, Nat.reduceLeDiff, Nat.reduceLT, Nat.reduceSub, Int.reduceLT, Int.reduceLE, Int.reduceEq, Int.reduceToNat, Option.map_some, List.length_map, List.getElem?_map, Int.toNat_natCast, h1', h32', hx]
        refine cD_for z.length (fun k σ _ => σ 0 = .str z ∧ σ 3 = .int .i64 k ∧ (z.take k).all isPart = true)
          ⟨by simp [go_sem, argsF], by simp [go_sem], by simp⟩ ?_ ?_
        · rintro k σ bx hk ⟨h0, h3, hb⟩
          obtain ⟨x, hx⟩ := get_lt hk
          simp (maxSteps := 1000000) (disch := omega) only [go_sem, reduceIte, Nat.reduceEqDiff, Nat.reduceAdd, Nat.reduceLeDiff, Nat.reduceLT, Nat.reduceSub, Int.reduceLT, Int.reduceLE, Int.reduceEq, Int.reduceToNat, Option.map_some, List.length_map, List.getElem?_map, Int.toNat_natCast, h0, h3]
          refine condD_yes (by omega) ?_
          simp (maxSteps := 1000000) (disch := omega) only [go_sem, reduceIte, Nat.reduceEqDiff, Nat.reduceAdd, Nat.reduceLeDiff, Nat.reduceLT, Nat.reduceSub, Int.reduceLT, Int.reduceLE, Int.reduceEq, Int.reduceToNat, Option.map_some, List.length_map, List.getElem?_map, Int.toNat_natCast, h0, h3, hx]
          refine call_pure (part_c x) (by simp [go_sem]) ?_
          simp (maxSteps := 1000000) (disch := omega) only [go_sem, reduceIte, Nat.reduceEqDiff, Nat.reduceAdd, Nat.reduceLeDiff, Nat.reduceLT, Nat.reduceSub, Int.reduceLT, Int.reduceLE, Int.reduceEq, Int.reduceToNat, Option.map_some, List.length_map, List.getElem?_map, Int.toNat_natCast, h0, h3, hx]
          refine condD_split (fun hp => ?_) (fun hp => ?_)
          · simp (maxSteps := 1000000) (disch := omega) only [go_sem, reduceIte, Nat.reduceEqDiff, Nat.reduceAdd, Nat.reduceLeDiff, Nat.reduceLT, Nat.reduceSub, Int.reduceLT, Int.reduceLE, Int.reduceEq, Int.reduceToNat, Option.map_some, List.length_map, List.getElem?_map, Int.toNat_natCast, h0, h3, hx]
            rw [wrap_succ (by omega)]
            exact ⟨rfl, take_all isPart hx hb hp⟩
          · simp (maxSteps := 1000000) (disch := omega) only [go_sem, reduceIte, Nat.reduceEqDiff, Nat.reduceAdd, Nat.reduceLeDiff, Nat.reduceLT, Nat.reduceSub, Int.reduceLT, Int.reduceLE, Int.reduceEq, Int.reduceToNat, Option.map_some, List.length_map, List.getElem?_map, Int.toNat_natCast, h0, h3, hx]
            exact weak_eq (by rw [all_of isPart hx hp])
        · rintro σ bx ⟨h0, h3, hb⟩
          simp (maxSteps := 1000000) (disch := omega) only [go_sem, reduceIte, Nat.reduceEqDiff, Nat.reduceAdd, Nat.reduceLeDiff, Nat.reduceLT, Nat.reduceSub, Int.reduceLT, Int.reduceLE, Int.reduceEq, Int.reduceToNat, Option.map_some, List.length_map, List.getElem?_map, Int.toNat_natCast, h0, h3]
          refine condD_no (by omega) ?_
          simp (maxSteps := 1000000) (disch := omega) only [go_sem, reduceIte, Nat.reduceEqDiff, Nat.reduceAdd, Nat.reduceLeDiff, Nat.reduceLT, Nat.reduceSub, Int.reduceLT, Int.reduceLE, Int.reduceEq, Int.reduceToNat, Option.map_some, List.length_map, List.getElem?_map, Int.toNat_natCast, h0, h3]
          rw [List.take_length] at hb
          exact weak_eq (by rw [hb])
      · have hc : isLt c.toNat = false := by simpa using hc
        rw [hc] at hlt
        have hb : nameB (c :: r) = false := by simp only [nameB, hc, Bool.and_false, Bool.false_and]
        rw [hb]
        clear hb
        generalize hz : c :: r = z at *
        have h1' : decide (((z.length : Nat) : Int) < 1) = false := by simp; omega
        have h32' : decide (32 < ((z.length : Nat) : Int)) = false := by simp; omega
        simp (maxSteps := 1000000) (disch := omega) only [go_sem, reduceIte, Nat.reduceEqDiff, Nat.reduceAdd, Nat.reduceLeDiff, Nat.reduceLT, Nat.reduceSub, Int.reduceLT, Int.reduceLE, Int.reduceEq, Int.reduceToNat, Option.map_some, List.length_map, List.getElem?_map, Int.toNat_natCast, h1', h32', hx]
        refine call_pure hlt (by simp [go_sem]) ?_
        simp (maxSteps := 1000000) (disch := omega) only [go_sem, reduceIte, Nat.reduceEqDiff, Nat.reduceAdd, Nat.reduceLeDiff, Nat.reduceLT, Nat.reduceSub, Int.reduceLT, Int.reduceLE, Int.reduceEq, Int.reduceToNat, Option.map_some, List.length_map, List.getElem?_map, Int.toNat_natCast, h1', h32', hx]
        exact weak_eq rfl
theorem nameR_c (s : List UInt8) (hs : s.length ≤ 140737488355328) : CallsTo Tryd.prog 20 [.str s] (.bool (nameB s)) := fn_calls mixed (nameR_d s hs) rfl (by kernel_rfl) rfl
end Go.V.Lx
