/-
  Grammar: the statements GrammarCut and GrammarChange on data.
-/
import Derived.Test.YtiolflfjekiboaaGreatDoorGm
import Derived.Test.YtiolflfjekiboaaGreatDoorGl
namespace Go.V.Gr
open Go.Proofs Go.RowKit Go.V.Lx
set_option linter.unusedSimpArgs false
set_option linter.unusedVariables false
set_option maxRecDepth 100000

theorem lex_x (s : Str) (hs : s.length ≤ M) : CallsTo Tryz.prog 17 [.str s] (.tup [.sl 4 ((lexL s).1.map Tok.d), .int .i64 (lexL s).2.1, .int .i64 (lexL s).2.2]) := lex_c s hs
theorem text_x {l : List Tk} (hl : l.length ≤ 1000000) (hv : l.all validB = true) : CallsTo Tryz.prog 18 [.sl 4 (l.map Tok.d)] (.tup [.str (txt l), .int .i64 0]) := by
  have := text_v l hl fun x hx => by have := valid_short (List.all_eq_true.1 hv x hx); omega
  rw [textL_ok hv] at this
  exact this
theorem pure_tl (l : List Tk) : D.pureL [.sl 4 (l.map Tok.d)] = true := by have := pureL_toks l; simp [D.pureL, D.pure, this]
/-- what Lex and Parse say of a source: both right, or not both -/
theorem src_cases (s : Str) : (s.length ≤ 65536 ∧ ∃ l g, l.all validB = true ∧ l.length ≤ s.length ∧ lexL s = (l, 0, 0) ∧ gramP l = .ok (g, []) ∧ parseL s = (g, 0, 0)) ∨ ((lexL s).2.2 ≠ 0 ∨ (parseL s).2.2 ≠ 0) := by
  rcases parse_cases s with ⟨hs, l, g, hl, h1, hg, hp⟩ | ⟨hs, l, r, hl, h1, hg, hp⟩ | ⟨a, e, h1, he, hp⟩
  · exact .inl ⟨hs, l, g, hl.facts.1, hl.facts.2.2, h1, hg, hp⟩
  · right; right; rw [hp]; show ¬ ((250 : Int) = 0); decide
  · right; right; rw [hp]; exact he
theorem cut_d (s : Str) (n : Int) (hs : s.length ≤ M) : fnD Tryz.prog (orac Tryz.prog) [] Tryz.f8 [.str s, .int .i64 n] (.bool true) := by
  refine fn_intro _ [.tmp 4] _ rfl rfl rfl (by kernel_rfl) ?_
  simp (maxSteps := 1000000) (disch := omega) only [go_sem, reduceIte, Nat.reduceEqDiff, Nat.reduceAdd, Nat.reduceLeDiff, Nat.reduceLT, Nat.reduceSub, Int.reduceLT, Int.reduceLE, Int.reduceEq, Int.reduceToNat, Option.map_some, List.length_map, List.getElem?_map, Int.toNat_natCast]
  refine call_pure sane_c rfl ?_
  simp (maxSteps := 1000000) (disch := omega) only [go_sem, reduceIte, Nat.reduceEqDiff, Nat.reduceAdd, Nat.reduceLeDiff, Nat.reduceLT, Nat.reduceSub, Int.reduceLT, Int.reduceLE, Int.reduceEq, Int.reduceToNat, Option.map_some, List.length_map, List.getElem?_map, Int.toNat_natCast]
  refine call_pure (lex_x s hs) (by simp [go_sem]) ?_
  simp (maxSteps := 1000000) (disch := omega) only [go_sem, reduceIte, Nat.reduceEqDiff, Nat.reduceAdd, Nat.reduceLeDiff, Nat.reduceLT, Nat.reduceSub, Int.reduceLT, Int.reduceLE, Int.reduceEq, Int.reduceToNat, Option.map_some, List.length_map, List.getElem?_map, Int.toNat_natCast]
  have c1 := parse_x s hs
  simp only [gx] at c1
  refine call_pure c1 (by simp [go_sem]) ?_
  by_cases h2 : 2000 < (s.length : Int)
  · simp (maxSteps := 1000000) (disch := omega) only [go_sem, reduceIte, Nat.reduceEqDiff, Nat.reduceAdd, Nat.reduceLeDiff, Nat.reduceLT, Nat.reduceSub, Int.reduceLT, Int.reduceLE, Int.reduceEq, Int.reduceToNat, Option.map_some, List.length_map, List.getElem?_map, Int.toNat_natCast, h2]
    exact .refl _
  rcases src_cases s with ⟨hs', l, g, hv, hlen, h1, hg, hp⟩ | hb | hb
  · rw [h1, hp]
    by_cases h3 : 1000 < (l.length : Int)
    · simp (maxSteps := 1000000) (disch := omega) only [go_sem, reduceIte, Nat.reduceEqDiff, Nat.reduceAdd, Nat.reduceLeDiff, Nat.reduceLT, Nat.reduceSub, Int.reduceLT, Int.reduceLE, Int.reduceEq, Int.reduceToNat, Option.map_some, List.length_map, List.getElem?_map, Int.toNat_natCast, h2, h3]
      exact .refl _
    obtain ⟨j, hj, hn⟩ := u64_idx n (m := l.length + 1) (by omega) (show _ ≤ 140737488355328 by omega)
    have hw : IntKind.i64.wrap ((l.length : Int) + 1) = ((l.length + 1 : Nat) : Int) := wrap_succ (by omega)
    have hj2 : IntKind.i64.wrap (j : Int) = (j : Int) := wrap_i64 (by omega) (by omega)
    have hz : ¬ IntKind.u64.wrap ((l.length + 1 : Nat) : Int) = 0 := by rw [IntKind.wrap_u64]; omega
    have hjl : (j : Int) ≤ (l.length : Int) := by omega
    simp (maxSteps := 1000000) (disch := omega) only [go_sem, reduceIte, Nat.reduceEqDiff, Nat.reduceAdd, Nat.reduceLeDiff, Nat.reduceLT, Nat.reduceSub, Int.reduceLT, Int.reduceLE, Int.reduceEq, Int.reduceToNat, Option.map_some, List.length_map, List.getElem?_map, Int.toNat_natCast, h2, h3, hw, hz, hn, hj2, hjl]
    have hmv := valid_take hv j
    have htl : (txt (l.take j)).length ≤ M := by
      have h1 := join_len (l.take j) hmv
      have h2 := valid_sum hmv
      have h3 : (l.take j).length ≤ l.length := by rw [List.length_take]; omega
      show _ ≤ 140737488355328
      simp only [txt]
      omega
    rw [Nat.sub_zero, ← List.map_take]
    refine call_pure (text_x (by rw [List.length_take]; omega) hmv) (pure_tl _) ?_
    simp (maxSteps := 1000000) (disch := omega) only [go_sem, reduceIte, Nat.reduceEqDiff, Nat.reduceAdd, Nat.reduceLeDiff, Nat.reduceLT, Nat.reduceSub, Int.reduceLT, Int.reduceLE, Int.reduceEq, Int.reduceToNat, Option.map_some, List.length_map, List.getElem?_map, Int.toNat_natCast, h2, h3]
    refine condD_dec (fun h4 => ?_) (fun h4 => ?_)
    · simp (maxSteps := 1000000) (disch := omega) only [go_sem, reduceIte, Nat.reduceEqDiff, Nat.reduceAdd, Nat.reduceLeDiff, Nat.reduceLT, Nat.reduceSub, Int.reduceLT, Int.reduceLE, Int.reduceEq, Int.reduceToNat, Option.map_some, List.length_map, List.getElem?_map, Int.toNat_natCast]
      exact .refl _
    simp (maxSteps := 1000000) (disch := omega) only [go_sem, reduceIte, Nat.reduceEqDiff, Nat.reduceAdd, Nat.reduceLeDiff, Nat.reduceLT, Nat.reduceSub, Int.reduceLT, Int.reduceLE, Int.reduceEq, Int.reduceToNat, Option.map_some, List.length_map, List.getElem?_map, Int.toNat_natCast]
    have c2 := parse_x (txt (l.take j)) htl
    simp only [gx] at c2
    refine call_pure c2 (by simp [go_sem]) ?_
    rcases later_law hg hmv (agree_take l (by omega)) (by omega) with ⟨g', h⟩ | ⟨a, h, q1, q2⟩
    · rw [h]
      simp (maxSteps := 1000000) (disch := omega) only [go_sem, reduceIte, Nat.reduceEqDiff, Nat.reduceAdd, Nat.reduceLeDiff, Nat.reduceLT, Nat.reduceSub, Int.reduceLT, Int.reduceLE, Int.reduceEq, Int.reduceToNat, Option.map_some, List.length_map, List.getElem?_map, Int.toNat_natCast]
      exact .refl _
    · rw [h]
      rw [List.take_take, Nat.min_self] at q1
      have : a = ((txt (l.take j)).length : Int) := by omega
      subst this
      simp (maxSteps := 1000000) (disch := omega) only [go_sem, reduceIte, Nat.reduceEqDiff, Nat.reduceAdd, Nat.reduceLeDiff, Nat.reduceLT, Nat.reduceSub, Int.reduceLT, Int.reduceLE, Int.reduceEq, Int.reduceToNat, Option.map_some, List.length_map, List.getElem?_map, Int.toNat_natCast]
      exact .refl _
  · simp (maxSteps := 1000000) (disch := omega) only [go_sem, reduceIte, Nat.reduceEqDiff, Nat.reduceAdd, Nat.reduceLeDiff, Nat.reduceLT, Nat.reduceSub, Int.reduceLT, Int.reduceLE, Int.reduceEq, Int.reduceToNat, Option.map_some, List.length_map, List.getElem?_map, Int.toNat_natCast, h2, hb]
    exact .refl _
  · by_cases k1 : (lexL s).2.2 = 0
    · simp (maxSteps := 1000000) (disch := omega) only [go_sem, reduceIte, Nat.reduceEqDiff, Nat.reduceAdd, Nat.reduceLeDiff, Nat.reduceLT, Nat.reduceSub, Int.reduceLT, Int.reduceLE, Int.reduceEq, Int.reduceToNat, Option.map_some, List.length_map, List.getElem?_map, Int.toNat_natCast, h2, k1, hb]
      exact .refl _
    · simp (maxSteps := 1000000) (disch := omega) only [go_sem, reduceIte, Nat.reduceEqDiff, Nat.reduceAdd, Nat.reduceLeDiff, Nat.reduceLT, Nat.reduceSub, Int.reduceLT, Int.reduceLE, Int.reduceEq, Int.reduceToNat, Option.map_some, List.length_map, List.getElem?_map, Int.toNat_natCast, h2, k1, hb]
      exact .refl _
theorem cut_c (s : Str) (n : Int) (hs : s.length ≤ M) : CallsTo Tryz.prog 8 [.str s, .int .i64 n] (.bool true) := fn_calls mixed (cut_d s n hs) rfl (by kernel_rfl) rfl
theorem out_take {b : Bxs} {t e k ty : Nat} {l : List Tk} (hk : k ≠ 0) (hb : b t = ⟨e, k, 4, ty, l.map Tok.d⟩) {j : Nat} (hj : j ≤ l.length) : outD b (.osl t e 4 0 j) = some (.sl 4 ((l.take j).map Tok.d)) := by
  have hp := pureL_toks (l.take j)
  rw [List.map_take] at hp ⊢
  rw [outD_osl, hb]
  have : 0 + j ≤ (l.map Tok.d).length := by rw [List.length_map]; omega
  simp only [outB, List.drop_zero, hp, this, hk, if_true, and_self, ne_eq, not_false_eq_true]
theorem change_d (s : Str) (n : Int) (x : Tk) (hs : s.length ≤ M) (hx : x.t.length ≤ M) : fnD Tryz.prog (orac Tryz.prog) [(1000067, [])] Tryz.f7 [.str s, .int .i64 n, x.d] (.bool true) := by
  refine fn_intro _ [.tmp 6] _ rfl rfl rfl (by kernel_rfl) ?_
  have hxd : x.d = .agg [.int .i64 x.k, .str x.t, .int .i64 x.n, .int .i64 x.a] := rfl
  have hvc := validR_c x hx
  rw [hxd] at hvc ⊢
  simp (maxSteps := 1000000) (disch := omega) only [go_sem, reduceIte, Nat.reduceEqDiff, Nat.reduceAdd, Nat.reduceLeDiff, Nat.reduceLT, Nat.reduceSub, Int.reduceLT, Int.reduceLE, Int.reduceEq, Int.reduceToNat, Option.map_some, List.length_map, List.getElem?_map, Int.toNat_natCast]
  refine call_pure sane_c rfl ?_
  simp (maxSteps := 1000000) (disch := omega) only [go_sem, reduceIte, Nat.reduceEqDiff, Nat.reduceAdd, Nat.reduceLeDiff, Nat.reduceLT, Nat.reduceSub, Int.reduceLT, Int.reduceLE, Int.reduceEq, Int.reduceToNat, Option.map_some, List.length_map, List.getElem?_map, Int.toNat_natCast]
  refine call_pure (lex_x s hs) (by simp [go_sem]) ?_
  simp (maxSteps := 1000000) (disch := omega) only [go_sem, reduceIte, Nat.reduceEqDiff, Nat.reduceAdd, Nat.reduceLeDiff, Nat.reduceLT, Nat.reduceSub, Int.reduceLT, Int.reduceLE, Int.reduceEq, Int.reduceToNat, Option.map_some, List.length_map, List.getElem?_map, Int.toNat_natCast]
  have c1 := parse_x s hs
  simp only [gx] at c1
  refine call_pure c1 (by simp [go_sem]) ?_
  by_cases h2 : 2000 < (s.length : Int)
  · simp (maxSteps := 1000000) (disch := omega) only [go_sem, reduceIte, Nat.reduceEqDiff, Nat.reduceAdd, Nat.reduceLeDiff, Nat.reduceLT, Nat.reduceSub, Int.reduceLT, Int.reduceLE, Int.reduceEq, Int.reduceToNat, Option.map_some, List.length_map, List.getElem?_map, Int.toNat_natCast, h2]
    exact .refl _
  rcases src_cases s with ⟨hs', l, g, hv, hlen, h1, hg, hp⟩ | hb | hb
  · rw [h1, hp]
    by_cases h0 : (l.length : Int) = 0
    · simp (maxSteps := 1000000) (disch := omega) only [go_sem, reduceIte, Nat.reduceEqDiff, Nat.reduceAdd, Nat.reduceLeDiff, Nat.reduceLT, Nat.reduceSub, Int.reduceLT, Int.reduceLE, Int.reduceEq, Int.reduceToNat, Option.map_some, List.length_map, List.getElem?_map, Int.toNat_natCast, h2, h0]
      exact .refl _
    by_cases h3 : 1000 < (l.length : Int)
    · simp (maxSteps := 1000000) (disch := omega) only [go_sem, reduceIte, Nat.reduceEqDiff, Nat.reduceAdd, Nat.reduceLeDiff, Nat.reduceLT, Nat.reduceSub, Int.reduceLT, Int.reduceLE, Int.reduceEq, Int.reduceToNat, Option.map_some, List.length_map, List.getElem?_map, Int.toNat_natCast, h2, h3, h0]
      exact .refl _
    simp (maxSteps := 1000000) (disch := omega) only [go_sem, reduceIte, Nat.reduceEqDiff, Nat.reduceAdd, Nat.reduceLeDiff, Nat.reduceLT, Nat.reduceSub, Int.reduceLT, Int.reduceLE, Int.reduceEq, Int.reduceToNat, Option.map_some, List.length_map, List.getElem?_map, Int.toNat_natCast, h2, h3, h0]
    refine call_pure hvc rfl ?_
    simp (maxSteps := 1000000) (disch := omega) only [go_sem, reduceIte, Nat.reduceEqDiff, Nat.reduceAdd, Nat.reduceLeDiff, Nat.reduceLT, Nat.reduceSub, Int.reduceLT, Int.reduceLE, Int.reduceEq, Int.reduceToNat, Option.map_some, List.length_map, List.getElem?_map, Int.toNat_natCast, h2, h3, h0]
    refine condD_split (fun hval => ?_) (fun hval => ?_)
    case refine_2 =>
      simp (maxSteps := 1000000) (disch := omega) only [go_sem, reduceIte, Nat.reduceEqDiff, Nat.reduceAdd, Nat.reduceLeDiff, Nat.reduceLT, Nat.reduceSub, Int.reduceLT, Int.reduceLE, Int.reduceEq, Int.reduceToNat, Option.map_some, List.length_map, List.getElem?_map, Int.toNat_natCast]
      exact .refl _
    obtain ⟨j, hj, hn⟩ := u64_idx n (m := l.length) (by omega) (show _ ≤ 140737488355328 by omega)
    have hj2 : IntKind.i64.wrap (j : Int) = (j : Int) := wrap_i64 (by omega) (by omega)
    have hz : ¬ IntKind.u64.wrap (l.length : Int) = 0 := by rw [IntKind.wrap_u64]; omega
    have hjl : (j : Int) < (l.length : Int) := by omega
    simp (maxSteps := 1000000) (disch := omega) only [go_sem, reduceIte, Nat.reduceEqDiff, Nat.reduceAdd, Nat.reduceLeDiff, Nat.reduceLT, Nat.reduceSub, Int.reduceLT, Int.reduceLE, Int.reduceEq, Int.reduceToNat, Option.map_some, List.length_map, List.getElem?_map, Int.toNat_natCast, hz, hn, hj2, hjl]
    refine append_own (xs := []) (ts := [67]) (OwnV.mk (t := 67) (e := 1) (List.mem_cons_self ..) (upd_same _ _ _)) ?_ (by simp [go_sem]) ?_ (by omega) (by omega) (fun q hq => Nat.zero_le _) (fun e' b1 g1 g2 => ?_)
    · intro e; have := congrArg List.length e; rw [List.length_map, List.length_nil] at this; omega
    · simp; omega
    rw [List.nil_append] at g1 ⊢
    rw [List.length_map]
    have g5 : b1 5 = ⟨1, 1, 4, 42, [.agg [.int .i64 x.k, .str x.t, .int .i64 x.n, .int .i64 x.a]]⟩ := by
      rw [g2 5 (by decide) (by decide)]
      simp [upd]
    obtain ⟨y, hy⟩ := get_lt hj
    simp (maxSteps := 1000000) (disch := omega) only [go_sem, reduceIte, Nat.reduceEqDiff, Nat.reduceAdd, Nat.reduceLeDiff, Nat.reduceLT, Nat.reduceSub, Int.reduceLT, Int.reduceLE, Int.reduceEq, Int.reduceToNat, Option.map_some, List.length_map, List.getElem?_map, Int.toNat_natCast, g1, g5, hjl, hy, Tok.d]
    have hmv : (l.set j x).all validB = true := valid_set hv hval
    have hml : (l.set j x).length = l.length := List.length_set
    have hset : (l.map Tok.d).set j (.agg [.int .i64 x.k, .str x.t, .int .i64 x.n, .int .i64 x.a]) = (l.set j x).map Tok.d := by rw [List.map_set]; rfl
    rw [hset]
    obtain ⟨b2, hb2⟩ : ∃ b, b = upd b1 69 ⟨e', 1, 4, 42, (l.set j x).map Tok.d⟩ := ⟨_, rfl⟩
    rw [← hb2]
    have hb2 := (congrFun hb2 69).trans (upd_same _ _ _)
    have ho := out_take (by decide) hb2 (j := l.length) (by omega)
    rw [List.take_of_length_le (by omega)] at ho
    have htl : ∀ k, (txt ((l.set j x).take k)).length ≤ M := fun k => by
      have hmk := valid_take hmv k
      have h1 := join_len _ hmk
      have h2 := valid_sum hmk
      have h3 : ((l.set j x).take k).length ≤ l.length := by rw [List.length_take]; omega
      show _ ≤ 140737488355328
      simp only [txt]
      omega
    have ht1 := htl l.length
    rw [List.take_of_length_le (by omega)] at ht1
    refine call_frz (text_x (by omega) hmv) (by simp only [outL_cons, outL_nil, ho, consO_some]) rfl ?_
    have hf : frzL b2 [.osl 69 e' 4 0 l.length] = upd b2 69 ⟨e', 2, 4, 42, (l.set j x).map Tok.d⟩ := by simp [frzL, frzD, hb2]
    rw [hf]
    obtain ⟨b3, hb3⟩ : ∃ b, b = upd b2 69 ⟨e', 2, 4, 42, (l.set j x).map Tok.d⟩ := ⟨_, rfl⟩
    rw [← hb3]
    have hb3 := (congrFun hb3 69).trans (upd_same _ _ _)
    have ho3 := out_take (by decide) hb3 (j := j) (by omega)
    have hjl' : (j : Int) ≤ (l.length : Int) := by omega
    clear hf g1 g2 g5
    simp (maxSteps := 1000000) (disch := omega) only [go_sem, reduceIte, Nat.reduceEqDiff, Nat.reduceAdd, Nat.reduceLeDiff, Nat.reduceLT, Nat.reduceSub, Int.reduceLT, Int.reduceLE, Int.reduceEq, Int.reduceToNat, Option.map_some, List.length_map, List.getElem?_map, Int.toNat_natCast, hjl']
    rw [Nat.sub_zero]
    refine call_frz (text_x (by rw [List.length_take]; omega) (valid_take hmv j)) (by simp only [outL_cons, outL_nil, ho3, consO_some]) rfl ?_
    obtain ⟨t, ht⟩ := txt_prefix (l.set j x) j
    have hpre := hasPrefix_c (txt (l.set j x)) (txt ((l.set j x).take j))
    rw [prefix_of ht] at hpre
    simp (maxSteps := 1000000) (disch := omega) only [go_sem, reduceIte, Nat.reduceEqDiff, Nat.reduceAdd, Nat.reduceLeDiff, Nat.reduceLT, Nat.reduceSub, Int.reduceLT, Int.reduceLE, Int.reduceEq, Int.reduceToNat, Option.map_some, List.length_map, List.getElem?_map, Int.toNat_natCast]
    refine call_pure hpre (by simp [go_sem]) ?_
    simp (maxSteps := 1000000) (disch := omega) only [go_sem, reduceIte, Nat.reduceEqDiff, Nat.reduceAdd, Nat.reduceLeDiff, Nat.reduceLT, Nat.reduceSub, Int.reduceLT, Int.reduceLE, Int.reduceEq, Int.reduceToNat, Option.map_some, List.length_map, List.getElem?_map, Int.toNat_natCast]
    refine condD_dec (fun h4 => ?_) (fun h4 => ?_)
    · simp (maxSteps := 1000000) (disch := omega) only [go_sem, reduceIte, Nat.reduceEqDiff, Nat.reduceAdd, Nat.reduceLeDiff, Nat.reduceLT, Nat.reduceSub, Int.reduceLT, Int.reduceLE, Int.reduceEq, Int.reduceToNat, Option.map_some, List.length_map, List.getElem?_map, Int.toNat_natCast]
      exact .refl _
    simp (maxSteps := 1000000) (disch := omega) only [go_sem, reduceIte, Nat.reduceEqDiff, Nat.reduceAdd, Nat.reduceLeDiff, Nat.reduceLT, Nat.reduceSub, Int.reduceLT, Int.reduceLE, Int.reduceEq, Int.reduceToNat, Option.map_some, List.length_map, List.getElem?_map, Int.toNat_natCast]
    have c2 := parse_x (txt (l.set j x)) ht1
    simp only [gx] at c2
    refine call_pure c2 (by simp [go_sem]) ?_
    rcases later_law hg hmv (agree_set l x (by omega)) (by omega) with ⟨g', h⟩ | ⟨a, h, q1, q2⟩
    · rw [h]
      simp (maxSteps := 1000000) (disch := omega) only [go_sem, reduceIte, Nat.reduceEqDiff, Nat.reduceAdd, Nat.reduceLeDiff, Nat.reduceLT, Nat.reduceSub, Int.reduceLT, Int.reduceLE, Int.reduceEq, Int.reduceToNat, Option.map_some, List.length_map, List.getElem?_map, Int.toNat_natCast]
      exact .refl _
    · rw [h]
      simp (maxSteps := 1000000) (disch := omega) only [go_sem, reduceIte, Nat.reduceEqDiff, Nat.reduceAdd, Nat.reduceLeDiff, Nat.reduceLT, Nat.reduceSub, Int.reduceLT, Int.reduceLE, Int.reduceEq, Int.reduceToNat, Option.map_some, List.length_map, List.getElem?_map, Int.toNat_natCast, q1, q2]
      exact .refl _
  · simp (maxSteps := 1000000) (disch := omega) only [go_sem, reduceIte, Nat.reduceEqDiff, Nat.reduceAdd, Nat.reduceLeDiff, Nat.reduceLT, Nat.reduceSub, Int.reduceLT, Int.reduceLE, Int.reduceEq, Int.reduceToNat, Option.map_some, List.length_map, List.getElem?_map, Int.toNat_natCast, h2, hb]
    exact .refl _
  · by_cases k1 : (lexL s).2.2 = 0
    · simp (maxSteps := 1000000) (disch := omega) only [go_sem, reduceIte, Nat.reduceEqDiff, Nat.reduceAdd, Nat.reduceLeDiff, Nat.reduceLT, Nat.reduceSub, Int.reduceLT, Int.reduceLE, Int.reduceEq, Int.reduceToNat, Option.map_some, List.length_map, List.getElem?_map, Int.toNat_natCast, h2, k1, hb]
      exact .refl _
    · simp (maxSteps := 1000000) (disch := omega) only [go_sem, reduceIte, Nat.reduceEqDiff, Nat.reduceAdd, Nat.reduceLeDiff, Nat.reduceLT, Nat.reduceSub, Int.reduceLT, Int.reduceLE, Int.reduceEq, Int.reduceToNat, Option.map_some, List.length_map, List.getElem?_map, Int.toNat_natCast, h2, k1, hb]
      exact .refl _
theorem change_c (s : Str) (n : Int) (x : Tk) (hs : s.length ≤ M) (hx : x.t.length ≤ M) : CallsTo Tryz.prog 7 [.str s, .int .i64 n, x.d] (.bool true) := fn_calls mixed (change_d s n x hs hx) rfl (by kernel_rfl) rfl
end Go.V.Gr
