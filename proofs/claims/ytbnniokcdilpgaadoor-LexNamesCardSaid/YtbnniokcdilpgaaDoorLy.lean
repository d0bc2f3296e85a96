/-
  Lex: the statement LexSpaces on data.
-/
import Derived.Test.YtbnniokcdilpgaaDoorLv
namespace Go.V.Lx
open Go.Proofs Go.RowKit
set_option linter.unusedSimpArgs false
set_option linter.unusedVariables false
set_option maxRecDepth 20000

/-- what has no tokens, wherever it stands -/
def GapS (g : List UInt8) : Prop := ∀ (r : List UInt8) (i : Nat) (l : List Tok), LX r (i + g.length) l → LX (g ++ r) i l
theorem gap_nil : GapS [] := fun r i l h => h
theorem gap_cons {c : UInt8} {g : List UInt8} (hc : cls c = 1) (h : GapS g) : GapS (c :: g) := fun r i l hl => by
  rw [List.cons_append]
  refine LX.space hc (h r (i + 1) l ?_)
  rw [List.length_cons] at hl
  rwa [show i + 1 + g.length = i + (g.length + 1) by omega]
theorem gap_note {w : List UInt8} (hw : w.all noLf = true) : GapS (47 :: 47 :: (w ++ [10])) := fun r i l hl => by
  have e : (47 :: 47 :: (w ++ [10])) ++ r = (47 :: 47 :: w) ++ 10 :: r := by simp
  have ht : ((47 :: 47 :: w) ++ 10 :: r).takeWhile noLf = 47 :: 47 :: w := tw_all noLf _ _ (by rw [List.all_cons, List.all_cons, hw]; rfl) (fun x t' h => by injection h with h _; subst h; decide)
  have hs := st4 (r := 47 :: (w ++ 10 :: r)) cls_slash
  have e2 : (47 : UInt8) :: 47 :: (w ++ 10 :: r) = (47 :: 47 :: w) ++ 10 :: r := rfl
  rw [com_mk, if_pos rfl, e2, ht] at hs
  rw [e]
  have := LX.step (i := i) hs (l' := l) (by
    rw [List.drop_left]
    refine LX.space cls_lf ?_
    have hn : i + (47 :: 47 :: w).length + 1 = i + (47 :: 47 :: (w ++ [10])).length := by simp only [List.length_cons, List.length_append, List.length_nil]; omega
    rw [hn]
    exact hl)
  exact this
/-- the gaps of the statement -/
def gapsL (w : List UInt8) : List (List UInt8) := [[32], [9], [10], [13, 10], [32, 32], 47 :: 47 :: (w ++ [10]), [32, 47, 47, 32, 10], [10, 47, 47, 10]]
theorem gapsL_ok {w : List UInt8} (hw : w.all noLf = true) : ∀ g ∈ gapsL w, GapS g ∧ g.length ≤ w.length + 6 := by
  intro g hg
  have c9 : cls 9 = 1 := by decide +kernel
  have c13 : cls 13 = 1 := by decide +kernel
  simp only [gapsL, List.mem_cons, List.not_mem_nil, or_false] at hg
  rcases hg with rfl | rfl | rfl | rfl | rfl | rfl | rfl | rfl
  · exact ⟨gap_cons cls_blank gap_nil, by simp⟩
  · exact ⟨gap_cons c9 gap_nil, by simp⟩
  · exact ⟨gap_cons cls_lf gap_nil, by simp⟩
  · exact ⟨gap_cons c13 (gap_cons cls_lf gap_nil), by simp⟩
  · exact ⟨gap_cons cls_blank (gap_cons cls_blank gap_nil), by simp⟩
  · exact ⟨gap_note hw, by simp only [List.length_cons, List.length_append, List.length_nil]; omega⟩
  · exact ⟨gap_cons cls_blank (gap_note (w := [32]) (by decide)), by simp⟩
  · exact ⟨gap_cons cls_lf (gap_note (w := []) (by decide)), by simp⟩
def blk (p : Tok × List UInt8) : List UInt8 := word p.1 ++ [32] ++ p.2
theorem lx_blocks : ∀ (ps : List (Tok × List UInt8)) (i : Nat), (ps.map (·.1)).all validB = true → (∀ p ∈ ps, GapS p.2) → ∃ l', LX (ps.flatMap blk) i l' ∧ sameL (ps.map (·.1)) l' = true
  | [], i, _, _ => ⟨[], .nil i, rfl⟩
  | (x, g) :: ps, i, hv, hg => by
    rw [List.map_cons, List.all_cons, Bool.and_eq_true] at hv
    obtain ⟨l', h1, h2⟩ := lx_blocks ps (i + (word x).length + 1 + g.length) hv.2 (fun p hp => hg p (by simp [hp]))
    have e : ((x, g) :: ps).flatMap blk = word x ++ 32 :: (g ++ ps.flatMap blk) := by simp [blk, List.append_assoc]
    have hs := st_word hv.1 (stops_blank (g ++ ps.flatMap blk))
    refine ⟨atT i x :: l', ?_, by rw [List.map_cons, sameL, same1_at, h2]; rfl⟩
    rw [e]
    refine LX.step (i := i) (l' := l') hs ?_
    rw [List.drop_left]
    exact LX.space cls_blank (hg (x, g) (by simp) _ _ _ h1)
theorem blk_len (ps : List (Tok × List UInt8)) (B : Nat) (hv : (ps.map (·.1)).all validB = true) (hg : ∀ p ∈ ps, p.2.length ≤ B) : (ps.flatMap blk).length ≤ textSum (ps.map (·.1)) + (14 + B) * ps.length := by
  induction ps with
  | nil => exact Nat.zero_le _
  | cons p ps ih =>
    rw [List.map_cons, List.all_cons, Bool.and_eq_true] at hv
    have h1 := ih hv.2 (fun q hq => hg q (by simp [hq]))
    have h2 := word_le hv.1
    have h3 := hg p (by simp)
    rw [List.flatMap_cons, List.length_append, List.map_cons, sum_cons, List.length_cons, Nat.mul_succ]
    have h4 : (blk p).length = (word p.1).length + 1 + p.2.length := by simp only [blk, List.length_append, List.length_cons, List.length_nil]
    omega
theorem filter_take {s : List UInt8} {k : Nat} {c : UInt8} (hx : s[k]? = some c) : (s.take (k + 1)).filter noLf = (s.take k).filter noLf ++ (if noLf c then [c] else []) := by
  rw [List.take_add_one, hx, List.filter_append]
  simp [List.filter_cons]
theorem tmod8 {n : Int} (h : 0 ≤ n) : Int.tmod n 8 = n % 8 := Int.tmod_eq_emod_of_nonneg h

set_option maxHeartbeats 8000000 in
theorem lexSpaces_d (a : List Tok) (us : List Int) (s : List UInt8) (ha : a.length ≤ 140737488355328) (hta : ∀ x ∈ a, x.t.length ≤ 140737488355328) (hul : us.length ≤ 140737488355328) (hu : ∀ n ∈ us, 0 ≤ n ∧ n ≤ 255) (hs : s.length ≤ 140737488355328) :
    fnD Tryd.prog (orac Tryd.prog) [] Tryd.f7 [toks a, .sl 1 (us.map (D.int .u8)), .str s] (.bool true) := by
  refine fn_intro _ [.tmp 6] _ rfl rfl rfl (by kernel_rfl) ?_
  simp (maxSteps := 1000000) (disch := omega) only [go_sem, reduceIte, Nat.reduceEqDiff, Nat.reduceAdd, Nat.reduceLeDiff, Nat.reduceLT, Nat.reduceSub, Int.reduceLT, Int.reduceLE, Int.reduceEq, Int.reduceToNat, Option.map_some, List.length_map, List.getElem?_map, Int.toNat_natCast]
  refine call_pure sane_c rfl ?_
  simp (maxSteps := 1000000) (disch := omega) only [go_sem, reduceIte, Nat.reduceEqDiff, Nat.reduceAdd, Nat.reduceLeDiff, Nat.reduceLT, Nat.reduceSub, Int.reduceLT, Int.reduceLE, Int.reduceEq, Int.reduceToNat, Option.map_some, List.length_map, List.getElem?_map, Int.toNat_natCast]
  refine call_pure (few_c a ha hta) (pure1 _) ?_
  simp (maxSteps := 1000000) (disch := omega) only [go_sem, reduceIte, Nat.reduceEqDiff, Nat.reduceAdd, Nat.reduceLeDiff, Nat.reduceLT, Nat.reduceSub, Int.reduceLT, Int.reduceLE, Int.reduceEq, Int.reduceToNat, Option.map_some, List.length_map, List.getElem?_map, Int.toNat_natCast]
  refine condD_split (fun f1 => ?_) (fun f1 => ?_)
  case refine_2 =>
    simp (maxSteps := 1000000) (disch := omega) only [go_sem, reduceIte, Nat.reduceEqDiff, Nat.reduceAdd, Nat.reduceLeDiff, Nat.reduceLT, Nat.reduceSub, Int.reduceLT, Int.reduceLE, Int.reduceEq, Int.reduceToNat, Option.map_some, List.length_map, List.getElem?_map, Int.toNat_natCast, f1]
    exact .refl _
  obtain ⟨a1, a2⟩ := few_facts f1
  simp (maxSteps := 1000000) (disch := omega) only [go_sem, reduceIte, Nat.reduceEqDiff, Nat.reduceAdd, Nat.reduceLeDiff, Nat.reduceLT, Nat.reduceSub, Int.reduceLT, Int.reduceLE, Int.reduceEq, Int.reduceToNat, Option.map_some, List.length_map, List.getElem?_map, Int.toNat_natCast, f1]
  refine condD_dec (fun h1 => ?_) (fun h1 => ?_)
  · simp (maxSteps := 1000000) (disch := omega) only [go_sem, reduceIte, Nat.reduceEqDiff, Nat.reduceAdd, Nat.reduceLeDiff, Nat.reduceLT, Nat.reduceSub, Int.reduceLT, Int.reduceLE, Int.reduceEq, Int.reduceToNat, Option.map_some, List.length_map, List.getElem?_map, Int.toNat_natCast]
    exact .refl _
  simp (maxSteps := 1000000) (disch := omega) only [go_sem, reduceIte, Nat.reduceEqDiff, Nat.reduceAdd, Nat.reduceLeDiff, Nat.reduceLT, Nat.reduceSub, Int.reduceLT, Int.reduceLE, Int.reduceEq, Int.reduceToNat, Option.map_some, List.length_map, List.getElem?_map, Int.toNat_natCast]
  refine cD_for s.length (fun k σ bx => σ 0 = toks a ∧ σ 1 = .sl 1 (us.map (D.int .u8)) ∧ σ 2 = .str s ∧ σ 7 = .str ((s.take k).filter noLf) ∧ σ 8 = .int .i64 k)
    ⟨by simp [go_sem, argsF], by simp [go_sem, argsF], by simp [go_sem, argsF], by simp [go_sem], by simp [go_sem]⟩ ?_ ?_
  · rintro k σ bx hk ⟨h0, h1', h2, h7, h8⟩
    obtain ⟨c, hx⟩ := get_lt hk
    have hf := filter_take hx
    have hlf := noLf_eq c
    have hfl : ((s.take k).filter noLf).length ≤ s.length := Nat.le_trans (List.length_filter_le _ _) (by rw [List.length_take]; omega)
    have hwk : IntKind.i64.wrap ((k : Int) + 1) = ((k + 1 : Nat) : Int) := wrap_succ (by omega)
    simp (maxSteps := 1000000) (disch := omega) only [go_sem, reduceIte, Nat.reduceEqDiff, Nat.reduceAdd, Nat.reduceLeDiff, Nat.reduceLT, Nat.reduceSub, Int.reduceLT, Int.reduceLE, Int.reduceEq, Int.reduceToNat, Option.map_some, List.length_map, List.getElem?_map, Int.toNat_natCast, h0, h2, h7, h8]
    refine condD_yes (by omega) ?_
    simp (maxSteps := 1000000) (disch := omega) only [go_sem, reduceIte, Nat.reduceEqDiff, Nat.reduceAdd, Nat.reduceLeDiff, Nat.reduceLT, Nat.reduceSub, Int.reduceLT, Int.reduceLE, Int.reduceEq, Int.reduceToNat, Option.map_some, List.length_map, List.getElem?_map, Int.toNat_natCast, h0, h2, h7, h8, hx]
    refine condD_dec (fun hc => ?_) (fun hc => ?_)
    · rw [hlf, decide_eq_true hc] at hf
      simp only [Bool.not_true, Bool.false_eq_true, if_false, List.append_nil] at hf
      simp (maxSteps := 1000000) (disch := omega) only [go_sem, reduceIte, Nat.reduceEqDiff, Nat.reduceAdd, Nat.reduceLeDiff, Nat.reduceLT, Nat.reduceSub, Int.reduceLT, Int.reduceLE, Int.reduceEq, Int.reduceToNat, Option.map_some, List.length_map, List.getElem?_map, Int.toNat_natCast, h0, h1', h2, h7, h8, hx, hwk]
      exact congrArg D.str hf.symm
    · rw [hlf, decide_eq_false hc] at hf
      simp only [Bool.not_false, if_true] at hf
      have g1 : (k : Int) ≤ ((k + 1 : Nat) : Int) := by omega
      have g2 : ((k + 1 : Nat) : Int) ≤ (s.length : Int) := by omega
      have g3 : (s.drop k).take (k + 1 - k) = [c] := by rw [drop_at hx, show k + 1 - k = 1 by omega]; rfl
      have g4 : ([c] : List UInt8).length = 1 := rfl
      simp (maxSteps := 1000000) (disch := omega) only [go_sem, reduceIte, Nat.reduceEqDiff, Nat.reduceAdd, Nat.reduceLeDiff, Nat.reduceLT, Nat.reduceSub, Int.reduceLT, Int.reduceLE, Int.reduceEq, Int.reduceToNat, Option.map_some, List.length_map, List.getElem?_map, Int.toNat_natCast, h0, h1', h2, h7, h8, hx, hwk, g1, g2, g3]
      exact congrArg D.str hf.symm
  rintro σ bx ⟨h0, h1', h2, h7, h8⟩
  rw [List.take_length] at h7
  obtain ⟨w, hw⟩ : ∃ w, w = s.filter noLf := ⟨_, rfl⟩
  rw [← hw] at h7
  have hwn' : w.all noLf = true := by rw [hw, List.all_eq_true]; exact fun x hx => (List.mem_filter.1 hx).2
  have hwl : w.length ≤ s.length := by rw [hw]; exact List.length_filter_le _ _
  have q1 : ([47, 47] : List UInt8).length = 2 := rfl
  have q2 : (47 :: 47 :: w).length = w.length + 2 := rfl
  have q3 : ([10] : List UInt8).length = 1 := rfl
  have q4 : ([32] : List UInt8).length = 1 := rfl
  obtain ⟨sp, hsp⟩ : ∃ sp, sp = (gapsL w).map D.str := ⟨_, rfl⟩
  have hspl : sp.length = 8 := by rw [hsp, List.length_map]; rfl
  simp (maxSteps := 1000000) (disch := omega) only [go_sem, reduceIte, Nat.reduceEqDiff, Nat.reduceAdd, Nat.reduceLeDiff, Nat.reduceLT, Nat.reduceSub, Int.reduceLT, Int.reduceLE, Int.reduceEq, Int.reduceToNat, Option.map_some, List.length_map, List.getElem?_map, Int.toNat_natCast, h0, h2, h7, h8]
  refine condD_no (by omega) ?_
  simp (maxSteps := 1000000) (disch := omega) only [go_sem, reduceIte, Nat.reduceEqDiff, Nat.reduceAdd, Nat.reduceLeDiff, Nat.reduceLT, Nat.reduceSub, Int.reduceLT, Int.reduceLE, Int.reduceEq, Int.reduceToNat, Option.map_some, List.length_map, List.getElem?_map, Int.toNat_natCast, h0, h2, h7, h8, toks]
  refine cD_for a.length (fun k σ bx => ∃ ps : List (Tok × List UInt8), σ 0 = toks a ∧ σ 1 = .sl 1 (us.map (D.int .u8)) ∧ σ 9 = .sl 1 sp ∧ σ 10 = .str (10 :: ps.flatMap blk) ∧ σ 52 = toks a ∧ σ 53 = .int .i64 a.length ∧ σ 54 = .int .i64 k ∧ ps.map (·.1) = a.take k ∧ (a.take k).all validB = true ∧ ∀ p ∈ ps, GapS p.2 ∧ p.2.length ≤ 106)
    ⟨[], by simp [go_sem, h0, toks], by simp [go_sem, h1'], by simp [go_sem, hsp, gapsL], by simp [go_sem], by simp [go_sem, toks], by simp [go_sem], by simp [go_sem], rfl, rfl, fun p hp => by cases hp⟩ ?_ ?_
  · rintro k σ bx hk ⟨ps, g0, g1, g9, g10, g52, g53, g54, hps, hval, hgs⟩
    obtain ⟨x, hx⟩ := get_lt hk
    have hxd : x.d = .agg [.int .i64 x.k, .str x.t, .int .i64 x.n, .int .i64 x.a] := rfl
    have hxs := sum_mem (List.mem_of_getElem? hx)
    have hwk : IntKind.i64.wrap ((k : Int) + 1) = ((k + 1 : Nat) : Int) := wrap_succ (by omega)
    have htx := text_f [x] (by simp) (by rw [sum_cons]; simp only [textSum, List.map_nil, List.sum_nil]; omega)
    rw [text_one] at htx
    simp only [toks, List.map_cons, List.map_nil, hxd] at htx
    have hpl : ps.length = k := by
      have := congrArg List.length hps
      rw [List.length_map, List.length_take] at this
      omega
    have hbl := blk_len ps 106 (by rw [hps]; exact hval) (fun p hp => (hgs p hp).2)
    have hst := sum_take_le a k
    rw [hps] at hbl
    simp (maxSteps := 1000000) (disch := omega) only [go_sem, reduceIte, Nat.reduceEqDiff, Nat.reduceAdd, Nat.reduceLeDiff, Nat.reduceLT, Nat.reduceSub, Int.reduceLT, Int.reduceLE, Int.reduceEq, Int.reduceToNat, Option.map_some, List.length_map, List.getElem?_map, Int.toNat_natCast, g0, g1, g9, g10, g52, g53, g54, toks]
    refine condD_yes (by omega) ?_
    simp (maxSteps := 1000000) (disch := omega) only [go_sem, reduceIte, Nat.reduceEqDiff, Nat.reduceAdd, Nat.reduceLeDiff, Nat.reduceLT, Nat.reduceSub, Int.reduceLT, Int.reduceLE, Int.reduceEq, Int.reduceToNat, Option.map_some, List.length_map, List.getElem?_map, Int.toNat_natCast, g0, g1, g9, g10, g52, g53, g54, toks, hx, hxd]
    cases hxv : validB x with
    | false =>
      rw [hxv, if_neg (by simp)] at htx
      unfold textD at htx
      refine call_pure htx (by simp [go_sem]) ?_
      have hta := text_f a (by omega) (by omega)
      have e : textL a = ([], 30) := by unfold textL; rw [if_neg (by rw [all_of validB hx hxv]; simp)]
      rw [e] at hta
      unfold textD at hta
      simp (maxSteps := 1000000) (disch := omega) only [go_sem, reduceIte, Nat.reduceEqDiff, Nat.reduceAdd, Nat.reduceLeDiff, Nat.reduceLT, Nat.reduceSub, Int.reduceLT, Int.reduceLE, Int.reduceEq, Int.reduceToNat, Option.map_some, List.length_map, List.getElem?_map, Int.toNat_natCast, g0, g1, g9, g10, g52, g53, g54, hx, hxd]
      refine call_pure hta (pure1 _) ?_
      simp (maxSteps := 1000000) (disch := omega) only [go_sem, reduceIte, Nat.reduceEqDiff, Nat.reduceAdd, Nat.reduceLeDiff, Nat.reduceLT, Nat.reduceSub, Int.reduceLT, Int.reduceLE, Int.reduceEq, Int.reduceToNat, Option.map_some, List.length_map, List.getElem?_map, Int.toNat_natCast, g0]
      exact .refl _
    | true =>
      rw [hxv, if_pos rfl] at htx
      unfold textD at htx
      have hwx := word_le hxv
      have hw2 : (word x ++ [32]).length = (word x).length + 1 := by rw [List.length_append, q4]
      have hsum := sum_take hx
      have hall := take_all validB hx hval hxv
      have hs10 : (10 :: ps.flatMap blk).length = (ps.flatMap blk).length + 1 := rfl
      have fin : ∀ g : List UInt8, GapS g ∧ g.length ≤ 106 → ∃ ps' : List (Tok × List UInt8), 10 :: (ps.flatMap blk ++ (word x ++ [32] ++ g)) = 10 :: ps'.flatMap blk ∧ ps'.map (·.1) = a.take (k + 1) ∧ ∀ p ∈ ps', GapS p.2 ∧ p.2.length ≤ 106 := fun g hg => by
        refine ⟨ps ++ [(x, g)], ?_, ?_, fun p hp => ?_⟩
        · rw [List.flatMap_append]; simp [blk]
        · rw [List.map_append, hps, List.take_add_one, hx]; rfl
        · rcases List.mem_append.1 hp with hp | hp
          · exact hgs p hp
          · simp at hp; subst hp; exact hg
      refine call_pure htx (by simp [go_sem]) ?_
      simp (maxSteps := 1000000) (disch := omega) only [go_sem, reduceIte, Nat.reduceEqDiff, Nat.reduceAdd, Nat.reduceLeDiff, Nat.reduceLT, Nat.reduceSub, Int.reduceLT, Int.reduceLE, Int.reduceEq, Int.reduceToNat, Option.map_some, List.length_map, List.getElem?_map, Int.toNat_natCast, g0, g1, g9, g10, g52, g53, g54, hx, hxd]
      refine condD_dec (fun hlt => ?_) (fun hlt => ?_)
      · obtain ⟨n, hn⟩ := get_lt (l := us) (k := k) (by omega)
        obtain ⟨n0, n1⟩ := hu n (List.mem_of_getElem? hn)
        have hwn : IntKind.i64.wrap n = n := wrap_i64 (by omega) (by omega)
        have k8 : ((8 : Nat) : Int) = 8 := rfl
        have ht8 := tmod8 n0
        obtain ⟨m, hm⟩ : ∃ m : Nat, n % 8 = m := ⟨(n % 8).toNat, by omega⟩
        have hm8 : m < (gapsL w).length := by have : (gapsL w).length = 8 := rfl; omega
        obtain ⟨g, hgm⟩ := get_lt hm8
        have hgg := gapsL_ok hwn' g (List.mem_of_getElem? hgm)
        have hsm : sp[m]? = some (.str g) := by rw [hsp, List.getElem?_map, hgm]; rfl
        have m0 : (0 : Int) ≤ (m : Int) := by omega
        have hgl : g.length ≤ 106 := by omega
        have hw3 : (word x ++ [32] ++ g).length = (word x).length + 1 + g.length := by rw [List.length_append, hw2]
        obtain ⟨ps', p1, p2, p3⟩ := fin g ⟨hgg.1, hgl⟩
        simp (maxSteps := 1000000) (disch := omega) only [go_sem, reduceIte, Nat.reduceEqDiff, Nat.reduceAdd, Nat.reduceLeDiff, Nat.reduceLT, Nat.reduceSub, Int.reduceLT, Int.reduceLE, Int.reduceEq, Int.reduceToNat, Option.map_some, List.length_map, List.getElem?_map, Int.toNat_natCast, g0, g1, g9, g10, g52, g53, g54, hx, hxd, hn, hwn, hspl, k8, ht8, hm, hsm, m0, hwk]
        exact ⟨ps', rfl, congrArg D.str p1, rfl, p2, hall, p3⟩
      · have hgg : GapS [32] ∧ ([32] : List UInt8).length ≤ 106 := ⟨gap_cons cls_blank gap_nil, by simp⟩
        have hw3 : (word x ++ [32] ++ [32]).length = (word x).length + 1 + 1 := by rw [List.length_append, hw2]; rfl
        obtain ⟨ps', p1, p2, p3⟩ := fin [32] hgg
        simp (maxSteps := 1000000) (disch := omega) only [go_sem, reduceIte, Nat.reduceEqDiff, Nat.reduceAdd, Nat.reduceLeDiff, Nat.reduceLT, Nat.reduceSub, Int.reduceLT, Int.reduceLE, Int.reduceEq, Int.reduceToNat, Option.map_some, List.length_map, List.getElem?_map, Int.toNat_natCast, g0, g1, g9, g10, g52, g53, g54, hx, hxd, hwk]
        exact ⟨ps', rfl, congrArg D.str p1, rfl, p2, hall, p3⟩
  · rintro σ bx ⟨ps, g0, g1, g9, g10, g52, g53, g54, hps, hval, hgs⟩
    rw [List.take_length] at hps hval
    have hpl : ps.length = a.length := by
      have := congrArg List.length hps
      rwa [List.length_map] at this
    have hbl := blk_len ps 106 (by rw [hps]; exact hval) (fun p hp => (hgs p hp).2)
    rw [hps] at hbl
    have hs10 : (10 :: ps.flatMap blk).length = (ps.flatMap blk).length + 1 := rfl
    obtain ⟨l', h3, h4⟩ := lx_blocks ps 1 (by rw [hps]; exact hval) (fun p hp => (hgs p hp).1)
    rw [hps] at h4
    have hlx : LX (10 :: ps.flatMap blk) 0 l' := LX.space cls_lf h3
    have hc := lex_s (by omega) (hlx.lex (by omega))
    have hll := hlx.facts.2.2
    have hsame := same_c a l' (by omega) (by omega)
    rw [h4] at hsame
    simp (maxSteps := 1000000) (disch := omega) only [go_sem, reduceIte, Nat.reduceEqDiff, Nat.reduceAdd, Nat.reduceLeDiff, Nat.reduceLT, Nat.reduceSub, Int.reduceLT, Int.reduceLE, Int.reduceEq, Int.reduceToNat, Option.map_some, List.length_map, List.getElem?_map, Int.toNat_natCast, g0, g1, g9, g10, g52, g53, g54, toks]
    refine condD_no (by omega) ?_
    simp (maxSteps := 1000000) (disch := omega) only [go_sem, reduceIte, Nat.reduceEqDiff, Nat.reduceAdd, Nat.reduceLeDiff, Nat.reduceLT, Nat.reduceSub, Int.reduceLT, Int.reduceLE, Int.reduceEq, Int.reduceToNat, Option.map_some, List.length_map, List.getElem?_map, Int.toNat_natCast, g0, g1, g9, g10, g52, g53, g54]
    refine call_pure hc (by simp [go_sem, pureL_toks]) ?_
    simp (maxSteps := 1000000) (disch := omega) only [go_sem, reduceIte, Nat.reduceEqDiff, Nat.reduceAdd, Nat.reduceLeDiff, Nat.reduceLT, Nat.reduceSub, Int.reduceLT, Int.reduceLE, Int.reduceEq, Int.reduceToNat, Option.map_some, List.length_map, List.getElem?_map, Int.toNat_natCast, g0]
    refine call_pure hsame (by simp [toks, D.pureL, D.pure, pureL_toks]) ?_
    simp (maxSteps := 1000000) (disch := omega) only [go_sem, reduceIte, Nat.reduceEqDiff, Nat.reduceAdd, Nat.reduceLeDiff, Nat.reduceLT, Nat.reduceSub, Int.reduceLT, Int.reduceLE, Int.reduceEq, Int.reduceToNat, Option.map_some, List.length_map, List.getElem?_map, Int.toNat_natCast, g0]
    exact .refl _
theorem lexSpaces_c (a : List Tok) (us : List Int) (s : List UInt8) (ha : a.length ≤ 140737488355328) (hta : ∀ x ∈ a, x.t.length ≤ 140737488355328) (hul : us.length ≤ 140737488355328) (hu : ∀ n ∈ us, 0 ≤ n ∧ n ≤ 255) (hs : s.length ≤ 140737488355328) :
    CallsTo Tryd.prog 7 [toks a, .sl 1 (us.map (D.int .u8)), .str s] (.bool true) := fn_calls mixed (lexSpaces_d a us s ha hta hul hu hs) rfl (by kernel_rfl) rfl
end Go.V.Lx
