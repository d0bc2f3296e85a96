/-
  Grammar: the statement GrammarSpaces on data.
-/
import Derived.Test.YtiolflfjekiboaaGreatDoorGn
namespace Go.V.Gr
open Go.Proofs Go.RowKit Go.V.Lx
set_option linter.unusedSimpArgs false
set_option linter.unusedVariables false
set_option maxRecDepth 100000

def GapS (g : List UInt8) : Prop := ∀ (r : List UInt8) (i : Nat) (l : List Tk), LX r (i + g.length) l → LX (g ++ r) i l
theorem gap_nil : GapS [] := fun r i l h => h
theorem gap_cons {c : UInt8} {g : List UInt8} (hc : cls c = 1) (h : GapS g) : GapS (c :: g) := fun r i l hl => by
  rw [List.cons_append]
  refine LX.space hc (h r (i + 1) l ?_)
  rw [List.length_cons] at hl
  rwa [show i + 1 + g.length = i + (g.length + 1) by omega]
theorem gap_note {w : List UInt8} (hw : w.all noLf = true) : GapS (47 :: 47 :: (w ++ [10])) := fun r i l hl => by
  have e : (47 :: 47 :: (w ++ [10])) ++ r = (47 :: 47 :: w) ++ 10 :: r := by simp
  have ht : ((47 :: 47 :: w) ++ 10 :: r).takeWhile noLf = 47 :: 47 :: w := tw_all noLf _ _ (by rw [List.all_cons, List.all_cons, hw]; rfl) (fun x t' h => by injection h with h _; subst h; decide)
  have hs := st4 (r := 47 :: (w ++ 10 :: r)) cls_slash
  have e2 : (47 : UInt8) :: 47 :: (w ++ 10 :: r) = (47 :: 47 :: w) ++ 10 :: r := rfl
  rw [com_mk, if_pos rfl, e2, ht] at hs
  rw [e]
  have := LX.step (i := i) hs (l' := l) (by
    rw [List.drop_left]
    refine LX.space cls_lf ?_
    have hn : i + (47 :: 47 :: w).length + 1 = i + (47 :: 47 :: (w ++ [10])).length := by simp only [List.length_cons, List.length_append, List.length_nil]; omega
    rw [hn]
    exact hl)
  exact this

def gaps5 : List Str := [[32], [10, 9], [32, 47, 47, 32, 123, 32, 55, 10], [13, 32, 32], [32, 47, 47, 10]]
def GoodGap (g : Str) : Prop := GapS g ∧ g.length ≤ 8 ∧ ∃ c t, g = c :: t ∧ cls c = 1
theorem gaps5_ok : ∀ g ∈ gaps5, GoodGap g := by
  intro g hg
  have c9 : cls 9 = 1 := by decide +kernel
  have c13 : cls 13 = 1 := by decide +kernel
  simp only [gaps5, List.mem_cons, List.not_mem_nil, or_false] at hg
  rcases hg with rfl | rfl | rfl | rfl | rfl
  · exact ⟨gap_cons cls_blank gap_nil, by simp, _, _, rfl, cls_blank⟩
  · exact ⟨gap_cons cls_lf (gap_cons c9 gap_nil), by simp, _, _, rfl, cls_lf⟩
  · exact ⟨gap_cons cls_blank (gap_note (w := [32, 123, 32, 55]) (by decide)), by simp, _, _, rfl, cls_blank⟩
  · exact ⟨gap_cons c13 (gap_cons cls_blank (gap_cons cls_blank gap_nil)), by simp, _, _, rfl, c13⟩
  · exact ⟨gap_cons cls_blank (gap_note (w := []) (by decide)), by simp, _, _, rfl, cls_blank⟩
def blkB (p : Tk × Str) : Str := p.2 ++ word p.1
theorem lx_gaps : ∀ (ps : List (Tk × Str)) (i : Nat), (ps.map (·.1)).all validB = true → (∀ p ∈ ps, GoodGap p.2) → ∃ l', LX (ps.flatMap blkB ++ [10]) i l' ∧ sameL (ps.map (·.1)) l' = true ∧ Stops (ps.flatMap blkB ++ [10])
  | [], i, _, _ => ⟨[], .space cls_lf (.nil _), rfl, fun c t' h => by injection h with h1 h2; subst h1; exact cls_lf⟩
  | (x, g) :: ps, i, hv, hg => by
    rw [List.map_cons, List.all_cons, Bool.and_eq_true] at hv
    obtain ⟨l', h1, h2, h3⟩ := lx_gaps ps (i + g.length + (word x).length) hv.2 (fun p hp => hg p (by simp [hp]))
    obtain ⟨k1, k2, c, t, k3, k4⟩ := hg (x, g) (by simp)
    have e : ((x, g) :: ps).flatMap blkB ++ [10] = g ++ (word x ++ (ps.flatMap blkB ++ [10])) := by simp [blkB, List.append_assoc]
    have hs := st_word hv.1 h3
    refine ⟨atT (i + g.length) x :: l', ?_, by rw [List.map_cons, sameL, same1_at, h2]; rfl, ?_⟩
    · rw [e]
      refine k1 _ _ _ ?_
      refine LX.step (i := i + g.length) (l' := l') hs ?_
      rw [List.drop_left]
      exact h1
    · rw [e]
      simp only at k3
      rw [k3]
      exact fun c' t' h => by injection h with h1 h2; subst h1; exact k4
theorem gaps_len (ps : List (Tk × Str)) (hv : (ps.map (·.1)).all validB = true) (hg : ∀ p ∈ ps, GoodGap p.2) : (ps.flatMap blkB).length ≤ 60 * ps.length := by
  induction ps with
  | nil => exact Nat.zero_le _
  | cons p ps ih =>
    rw [List.map_cons, List.all_cons, Bool.and_eq_true] at hv
    have h1 := ih hv.2 (fun q hq => hg q (by simp [hq]))
    have h2 := word_le hv.1
    have h3 := (hg p (by simp)).2.1
    have h5 := valid_short hv.1
    rw [List.flatMap_cons, List.length_append, List.length_cons]
    have h4 : (blkB p).length = p.2.length + (word p.1).length := by simp only [blkB, List.length_append]
    omega
/-- Sources with like tokens are parsed alike. -/
theorem parse_alike {s t : Str} {l l' : List Tk} (hs : s.length ≤ 65536) (ht : t.length ≤ 65536) (h1 : LX s 0 l) (h2 : LX t 0 l') (h : sameL l l' = true) : (parseL s).1 = (parseL t).1 ∧ (parseL s).2.2 = (parseL t).2.2 := by
  have hp : parseL s = readL l s.length := by unfold parseL; rw [h1.lex hs]; rfl
  have hq : parseL t = readL l' t.length := by unfold parseL; rw [h2.lex ht]; rfl
  rw [hp, hq]
  unfold readL
  rcases gram_same l l' h with ⟨a, k, e1, e2⟩ | ⟨k, e1, e2⟩
  · rw [e1, e2]; exact ⟨rfl, rfl⟩
  · rw [e1, e2]; exact ⟨rfl, rfl⟩
theorem idx5 {size : Nat} {ag : Bool} {z : List D} (gs : List Str) (h : gs.length = 5) {m : Nat} {g : Str} (hm : gs[m]? = some g) : indexD ⟨.arr 5 1 false, size, ag, z⟩ (.agg (gs.map D.str)) (m : Int) = some (.str g) := by
  have h1 : m < 5 := by rw [← h]; exact (List.getElem?_eq_some_iff.1 hm).1
  have h2 : (0 : Int) ≤ (m : Int) ∧ (m : Int) < ((5 : Nat) : Int) ∧ 0 < 1 := ⟨by omega, by omega, by decide⟩
  have h3 : ((gs.map D.str))[(m : Int).toNat * 1]? = some (D.str g) := by
    rw [Int.toNat_natCast, Nat.mul_one, List.getElem?_map, hm]; rfl
  simp only [indexD, pickD, D.cells]
  rw [if_pos h2, if_neg (by decide)]
  exact h3
theorem tmod5 {n : Int} (h : 0 ≤ n) : Int.tmod n 5 = n % 5 := Int.tmod_eq_emod_of_nonneg h

set_option maxHeartbeats 8000000 in
theorem spaces_d (s : Str) (us : List Int) (hs : s.length ≤ M) (hul : us.length ≤ M) (hu : ∀ n ∈ us, 0 ≤ n ∧ n ≤ 255) :
    fnD Tryz.prog (orac Tryz.prog) [] Tryz.f6 [.str s, .sl 1 (us.map (D.int .u8))] (.bool true) := by
  refine fn_intro _ [.tmp 4] _ rfl rfl rfl (by kernel_rfl) ?_
  simp (maxSteps := 1000000) (disch := omega) only [go_sem, reduceIte, Nat.reduceEqDiff, Nat.reduceAdd, Nat.reduceLeDiff, Nat.reduceLT, Nat.reduceSub, Int.reduceLT, Int.reduceLE, Int.reduceEq, Int.reduceToNat, Option.map_some, List.length_map, List.getElem?_map, Int.toNat_natCast]
  refine call_pure sane_c rfl ?_
  simp (maxSteps := 1000000) (disch := omega) only [go_sem, reduceIte, Nat.reduceEqDiff, Nat.reduceAdd, Nat.reduceLeDiff, Nat.reduceLT, Nat.reduceSub, Int.reduceLT, Int.reduceLE, Int.reduceEq, Int.reduceToNat, Option.map_some, List.length_map, List.getElem?_map, Int.toNat_natCast]
  refine call_pure (lex_x s hs) (by simp [go_sem]) ?_
  by_cases h2 : 1000 < (s.length : Int)
  · simp (maxSteps := 1000000) (disch := omega) only [go_sem, reduceIte, Nat.reduceEqDiff, Nat.reduceAdd, Nat.reduceLeDiff, Nat.reduceLT, Nat.reduceSub, Int.reduceLT, Int.reduceLE, Int.reduceEq, Int.reduceToNat, Option.map_some, List.length_map, List.getElem?_map, Int.toNat_natCast, h2]
    exact .refl _
  rcases lex_cases s (by omega) with ⟨l, hl, h1⟩ | ⟨k, hl, h1⟩
  case inr =>
    rw [h1]
    simp (maxSteps := 1000000) (disch := omega) only [go_sem, reduceIte, Nat.reduceEqDiff, Nat.reduceAdd, Nat.reduceLeDiff, Nat.reduceLT, Nat.reduceSub, Int.reduceLT, Int.reduceLE, Int.reduceEq, Int.reduceToNat, Option.map_some, List.length_map, List.getElem?_map, Int.toNat_natCast, h2]
    exact .refl _
  rw [h1]
  obtain ⟨hv, -, hll⟩ := hl.facts
  simp (maxSteps := 1000000) (disch := omega) only [go_sem, reduceIte, Nat.reduceEqDiff, Nat.reduceAdd, Nat.reduceLeDiff, Nat.reduceLT, Nat.reduceSub, Int.reduceLT, Int.reduceLE, Int.reduceEq, Int.reduceToNat, Option.map_some, List.length_map, List.getElem?_map, Int.toNat_natCast, h2]
  refine cD_for l.length (fun k σ bx => ∃ ps : List (Tk × Str), σ 0 = .str s ∧ σ 1 = .sl 1 (us.map (D.int .u8)) ∧ σ 8 = .str (ps.flatMap blkB) ∧ σ 35 = .sl 4 (l.map Tok.d) ∧ σ 36 = .int .i64 l.length ∧ σ 37 = .int .i64 k ∧ ps.map (·.1) = l.take k ∧ ∀ p ∈ ps, GoodGap p.2)
    ⟨[], by simp [go_sem, argsF], by simp [go_sem, argsF], by simp [go_sem], by simp [go_sem], by simp [go_sem], by simp [go_sem], rfl, fun p hp => by cases hp⟩ ?_ ?_
  · rintro k σ bx hk ⟨ps, g0, g1, g8, g35, g36, g37, hps, hgs⟩
    obtain ⟨x, hx⟩ := get_lt hk
    have hxd : x.d = .agg [.int .i64 x.k, .str x.t, .int .i64 x.n, .int .i64 x.a] := rfl
    have hxv : validB x = true := List.all_eq_true.1 hv x (List.mem_of_getElem? hx)
    have hwk : IntKind.i64.wrap ((k : Int) + 1) = ((k + 1 : Nat) : Int) := wrap_succ (by omega)
    have hlt : (k : Int) < (l.length : Int) := by omega
    have htx := text_x (l := [x]) (by simp) (by simp [hxv])
    rw [txt_one] at htx
    simp only [List.map_cons, List.map_nil, hxd] at htx
    have hwx := word_le hxv
    have hwx2 := valid_short hxv
    have h100 : ¬ 100 < ((word x).length : Int) := by omega
    have hbl := gaps_len ps (by rw [hps]; exact valid_take hv k) hgs
    have hpl : ps.length = k := by
      have := congrArg List.length hps
      rw [List.length_map, List.length_take] at this
      omega
    have fin : ∀ g : Str, GoodGap g → ∃ ps' : List (Tk × Str), ps.flatMap blkB ++ (g ++ word x) = ps'.flatMap blkB ∧ ps'.map (·.1) = l.take (k + 1) ∧ ∀ p ∈ ps', GoodGap p.2 := fun g hg => by
      refine ⟨ps ++ [(x, g)], ?_, ?_, fun p hp => ?_⟩
      · rw [List.flatMap_append]; simp [blkB]
      · rw [List.map_append, hps, List.take_add_one, hx]; rfl
      · rcases List.mem_append.1 hp with hp | hp
        · exact hgs p hp
        · simp at hp; subst hp; exact hg
    simp (maxSteps := 1000000) (disch := omega) only [go_sem, reduceIte, Nat.reduceEqDiff, Nat.reduceAdd, Nat.reduceLeDiff, Nat.reduceLT, Nat.reduceSub, Int.reduceLT, Int.reduceLE, Int.reduceEq, Int.reduceToNat, Option.map_some, List.length_map, List.getElem?_map, Int.toNat_natCast, g0, g1, g8, g35, g36, g37, hlt, hx, hxd]
    refine call_pure htx (by simp [go_sem]) ?_
    simp (maxSteps := 1000000) (disch := omega) only [go_sem, reduceIte, Nat.reduceEqDiff, Nat.reduceAdd, Nat.reduceLeDiff, Nat.reduceLT, Nat.reduceSub, Int.reduceLT, Int.reduceLE, Int.reduceEq, Int.reduceToNat, Option.map_some, List.length_map, List.getElem?_map, Int.toNat_natCast, g0, g1, g8, g35, g36, g37, h100]
    refine condD_dec (fun hlt2 => ?_) (fun hlt2 => ?_)
    · obtain ⟨n, hn⟩ := get_lt (l := us) (k := k) (by omega)
      obtain ⟨n0, n1⟩ := hu n (List.mem_of_getElem? hn)
      have hwn : IntKind.i64.wrap n = n := wrap_i64 (by omega) (by omega)
      have ht5 := tmod5 n0
      obtain ⟨m, hm⟩ : ∃ m : Nat, n % 5 = m := ⟨(n % 5).toNat, by omega⟩
      have hm5 : m < gaps5.length := by have : gaps5.length = 5 := rfl; omega
      obtain ⟨g, hgm⟩ := get_lt hm5
      have hgg := gaps5_ok g (List.mem_of_getElem? hgm)
      obtain ⟨ps', p1, p2, p3⟩ := fin g hgg
      have m0 : (0 : Int) ≤ (m : Int) := by omega
      have m5 : (m : Int) < 5 := by omega
      simp (maxSteps := 1000000) (disch := omega) only [go_sem, reduceIte, Nat.reduceEqDiff, Nat.reduceAdd, Nat.reduceLeDiff, Nat.reduceLT, Nat.reduceSub, Int.reduceLT, Int.reduceLE, Int.reduceEq, Int.reduceToNat, Option.map_some, List.length_map, List.getElem?_map, Int.toNat_natCast, g0, g1, g8, g35, g36, g37, hn, hwn, ht5, hm, m0, m5, Nat.reduceMul, List.take_succ_cons, List.take_zero, List.drop_succ_cons, List.drop_zero, List.cons_append, List.nil_append, List.length_cons, List.length_nil]
      have hidx : indexD ⟨.arr 5 1 false, 5, true, [D.str [], D.str [], D.str [], D.str [], D.str []]⟩ (D.agg [D.str [32], D.str [10, 9], D.str [32, 47, 47, 32, 123, 32, 55, 10], D.str [13, 32, 32], D.str [32, 47, 47, 10]]) (m : Int) = some (.str g) := idx5 gaps5 rfl hgm
      have hg8 := hgg.2.1
      have hgl : (g ++ word x).length = g.length + (word x).length := List.length_append
      simp (maxSteps := 1000000) (disch := omega) only [go_sem, reduceIte, Nat.reduceEqDiff, Nat.reduceAdd, Nat.reduceLeDiff, Nat.reduceLT, Nat.reduceSub, Int.reduceLT, Int.reduceLE, Int.reduceEq, Int.reduceToNat, Option.map_some, List.length_map, List.getElem?_map, Int.toNat_natCast, hidx, g0, g1, g8, g35, g36, g37, hwk]
      exact ⟨ps', congrArg D.str p1, p2, p3⟩
    · obtain ⟨ps', p1, p2, p3⟩ := fin [32] (gaps5_ok _ (by simp [gaps5]))
      simp (maxSteps := 1000000) (disch := omega) only [go_sem, reduceIte, Nat.reduceEqDiff, Nat.reduceAdd, Nat.reduceLeDiff, Nat.reduceLT, Nat.reduceSub, Int.reduceLT, Int.reduceLE, Int.reduceEq, Int.reduceToNat, Option.map_some, List.length_map, List.getElem?_map, Int.toNat_natCast, g0, g1, g8, g35, g36, g37, Nat.reduceMul, List.take_succ_cons, List.take_zero, List.drop_succ_cons, List.drop_zero, List.cons_append, List.nil_append, List.length_cons, List.length_nil]
      have hidx : indexD ⟨.arr 5 1 false, 5, true, [D.str [], D.str [], D.str [], D.str [], D.str []]⟩ (D.agg [D.str [32], D.str [10, 9], D.str [32, 47, 47, 32, 123, 32, 55, 10], D.str [13, 32, 32], D.str [32, 47, 47, 10]]) 0 = some (.str [32]) := idx5 (m := 0) gaps5 rfl rfl
      have hg8 : ([32] : Str).length = 1 := rfl
      have hgl : (32 :: word x).length = (word x).length + 1 := rfl
      simp (maxSteps := 1000000) (disch := omega) only [go_sem, reduceIte, Nat.reduceEqDiff, Nat.reduceAdd, Nat.reduceLeDiff, Nat.reduceLT, Nat.reduceSub, Int.reduceLT, Int.reduceLE, Int.reduceEq, Int.reduceToNat, Option.map_some, List.length_map, List.getElem?_map, Int.toNat_natCast, hidx, g0, g1, g8, g35, g36, g37, hwk]
      exact ⟨ps', congrArg D.str p1, p2, p3⟩
  · rintro σ bx ⟨ps, g0, g1, g8, g35, g36, g37, hps, hgs⟩
    rw [List.take_length] at hps
    have hpl : ps.length = l.length := by
      have := congrArg List.length hps
      rwa [List.length_map] at this
    have hbl := gaps_len ps (by rw [hps]; exact hv) hgs
    obtain ⟨l', h3, h4, -⟩ := lx_gaps ps 0 (by rw [hps]; exact hv) hgs
    rw [hps] at h4
    have hlen : (ps.flatMap blkB ++ [10]).length = (ps.flatMap blkB).length + 1 := by rw [List.length_append]; rfl
    obtain ⟨e1, e2⟩ := parse_alike (s := s) (t := ps.flatMap blkB ++ [10]) (by omega) (by omega) hl h3 h4
    have hlt : ¬ (l.length : Int) < (l.length : Int) := by omega
    have c1 := parse_x s hs
    have c2 := parse_x (ps.flatMap blkB ++ [10]) (show _ ≤ 140737488355328 by omega)
    have c3 := same_x (parse_pr s).sz (parse_pr s).sz
    have hp2 := gx_pure2 (parseL s).1 (parseL s).1
    rw [← e1, ← e2] at c2
    rw [decide_eq_true rfl] at c3
    simp only [gx] at c1 c2 c3 hp2
    have h10 : ([10] : Str).length = 1 := rfl
    simp (maxSteps := 1000000) (disch := omega) only [go_sem, reduceIte, Nat.reduceEqDiff, Nat.reduceAdd, Nat.reduceLeDiff, Nat.reduceLT, Nat.reduceSub, Int.reduceLT, Int.reduceLE, Int.reduceEq, Int.reduceToNat, Option.map_some, List.length_map, List.getElem?_map, Int.toNat_natCast, g0, g1, g8, g35, g36, g37, hlt]
    refine call_pure c1 (by simp [go_sem]) ?_
    simp (maxSteps := 1000000) (disch := omega) only [go_sem, reduceIte, Nat.reduceEqDiff, Nat.reduceAdd, Nat.reduceLeDiff, Nat.reduceLT, Nat.reduceSub, Int.reduceLT, Int.reduceLE, Int.reduceEq, Int.reduceToNat, Option.map_some, List.length_map, List.getElem?_map, Int.toNat_natCast, g0, g1, g8, g35, g36, g37]
    refine call_pure c2 (by simp [go_sem]) ?_
    simp (maxSteps := 1000000) (disch := omega) only [go_sem, reduceIte, Nat.reduceEqDiff, Nat.reduceAdd, Nat.reduceLeDiff, Nat.reduceLT, Nat.reduceSub, Int.reduceLT, Int.reduceLE, Int.reduceEq, Int.reduceToNat, Option.map_some, List.length_map, List.getElem?_map, Int.toNat_natCast]
    refine call_pure c3 hp2 ?_
    simp (maxSteps := 1000000) (disch := omega) only [go_sem, reduceIte, Nat.reduceEqDiff, Nat.reduceAdd, Nat.reduceLeDiff, Nat.reduceLT, Nat.reduceSub, Int.reduceLT, Int.reduceLE, Int.reduceEq, Int.reduceToNat, Option.map_some, List.length_map, List.getElem?_map, Int.toNat_natCast]
    exact .refl _
theorem spaces_c (s : Str) (us : List Int) (hs : s.length ≤ M) (hul : us.length ≤ M) (hu : ∀ n ∈ us, 0 ≤ n ∧ n ≤ 255) : CallsTo Tryz.prog 6 [.str s, .sl 1 (us.map (D.int .u8))] (.bool true) := fn_calls mixed (spaces_d s us hs hul hu) rfl (by kernel_rfl) rfl
end Go.V.Gr
