/-
  Grammar: the reference's rules.
-/
import Derived.Test.YtiolflfjekiboaaGreatDoorHg
namespace Go.V.Gr
open Go.Proofs Go.RowKit Go.V.Lx
set_option linter.unusedSimpArgs false
set_option linter.unusedVariables false
set_option maxRecDepth 100000

set_option maxHeartbeats 8000000 in
theorem rule_r (p : RP) (hl : p.l.length ≤ 1000000) : fnD Tryz.prog (orac Tryz.prog) [(16, [(2, 1)])] Tryz.f60 [px p] (.tup [(ruleR p).1.d, px (ruleR p).2]) := by
  refine fn_intro _ [.cell 2 68, .cell 3 59] _ rfl rfl rfl (by kernel_rfl) ?_
  have b0 : ∀ n, n ≤ 1000000 → n ≤ M := fun n h => by show n ≤ 140737488355328; omega
  obtain ⟨s1, p1, e1⟩ : ∃ s q, nameW 1 wRule p = (s, q) := ⟨_, _, rfl⟩
  obtain ⟨p2, e2⟩ : ∃ q, expR 3 [61] p1 = q := ⟨_, rfl⟩
  obtain ⟨a, p3, e3⟩ : ∃ s q, partR p2 = (s, q) := ⟨_, _, rfl⟩
  obtain ⟨ps, p4, e4⟩ : ∃ s q, manyR morePR partR [a] p3 = (s, q) := ⟨_, _, rfl⟩
  obtain ⟨p5, e5⟩ : ∃ q, expR 1 wGives p4 = q := ⟨_, rfl⟩
  obtain ⟨y, p6, e6⟩ : ∃ s q, giveR p5 = (s, q) := ⟨_, _, rfl⟩
  obtain ⟨gs, p7, e7⟩ : ∃ s q, manyR moreGR giveR [y] p6 = (s, q) := ⟨_, _, rfl⟩
  obtain ⟨n, p8, e8⟩ : ∃ s q, costR p7 = (s, q) := ⟨_, _, rfl⟩
  have hE : ruleR p = (⟨s1, 0, ps, gs, n⟩, p8) := by
    unfold ruleR
    simp only [RS.bind, wantR, e1, e2, e3, e4, e5, e6, e7, e8, RS.pure]
  rw [hE]
  have l1 : p1.l = p.l := by have := keepW (k := 1) (t := wRule) (p := p); rw [e1] at this; exact this
  have l2 : p2.l = p.l := by have := exp_len 3 [61] p1; rw [e2] at this; exact this.trans l1
  have l3 : p3.l = p.l := by have := (dec_part p2).1; rw [e3] at this; exact this.trans l2
  have l4 : p4.l = p.l := by have := (low_many (more := morePR) dec_part [a] p3).1; rw [e4] at this; exact this.trans l3
  have l5 : p5.l = p.l := by have := exp_len 1 wGives p4; rw [e5] at this; exact this.trans l4
  have l6 : p6.l = p.l := by have := (dec_give p5).1; rw [e6] at this; exact this.trans l5
  have l7 : p7.l = p.l := by have := (low_many (more := moreGR) dec_give [y] p6).1; rw [e7] at this; exact this.trans l6
  have m3 : meas p3 ≤ 1 + p.l.length := by unfold meas; rw [l3]; split <;> omega
  have m6 : meas p6 ≤ 1 + p.l.length := by unfold meas; rw [l6]; split <;> omega
  have c1 := word_rc p wRule (b0 _ hl)
  have d1 := name_rc (expR 1 wRule p) (by rw [exp_len]; exact b0 _ hl)
  rw [show nameR (expR 1 wRule p) = (s1, p1) from e1] at d1
  have c2 := sign_rc p1 [61] (by rw [l1]; exact b0 _ hl)
  rw [e2] at c2
  have c3 := part_rc p2 (by rw [l2]; exact b0 _ hl)
  rw [e3] at c3
  have c5 := word_rc p4 wGives (by rw [l4]; exact b0 _ hl)
  rw [e5] at c5
  have c6 := give_rc p5 (by rw [l5]; exact b0 _ hl)
  rw [e6] at c6
  have c8 := cost_rc p7 (by rw [l7]; exact b0 _ hl)
  rw [e8] at c8
  have had : a.d = .agg [.str a.cat, .int .i64 a.no, .str a.text] := rfl
  have hyd : y.d = .agg [.int .i64 y.part, .str y.text] := rfl
  simp (maxSteps := 1000000) (disch := omega) only [go_sem, reduceIte, Nat.reduceEqDiff, Nat.reduceAdd, Nat.reduceLeDiff, Nat.reduceLT, Nat.reduceSub, Int.reduceLT, Int.reduceLE, Int.reduceEq, Int.reduceToNat, Option.map_some, List.length_map, List.getElem?_map, Int.toNat_natCast, px]
  refine call_pure c1 (px_pure2 _ _) ?_
  simp (maxSteps := 1000000) (disch := omega) only [go_sem, reduceIte, Nat.reduceEqDiff, Nat.reduceAdd, Nat.reduceLeDiff, Nat.reduceLT, Nat.reduceSub, Int.reduceLT, Int.reduceLE, Int.reduceEq, Int.reduceToNat, Option.map_some, List.length_map, List.getElem?_map, Int.toNat_natCast, px]
  refine call_pure d1 (px_pure1 _) ?_
  simp (maxSteps := 1000000) (disch := omega) only [go_sem, reduceIte, Nat.reduceEqDiff, Nat.reduceAdd, Nat.reduceLeDiff, Nat.reduceLT, Nat.reduceSub, Int.reduceLT, Int.reduceLE, Int.reduceEq, Int.reduceToNat, Option.map_some, List.length_map, List.getElem?_map, Int.toNat_natCast, px]
  refine call_pure c2 (px_pure2 _ _) ?_
  simp (maxSteps := 1000000) (disch := omega) only [go_sem, reduceIte, Nat.reduceEqDiff, Nat.reduceAdd, Nat.reduceLeDiff, Nat.reduceLT, Nat.reduceSub, Int.reduceLT, Int.reduceLE, Int.reduceEq, Int.reduceToNat, Option.map_some, List.length_map, List.getElem?_map, Int.toNat_natCast, px]
  refine call_pure c3 (px_pure1 _) ?_
  simp (maxSteps := 1000000) (disch := omega) only [go_sem, reduceIte, Nat.reduceEqDiff, Nat.reduceAdd, Nat.reduceLeDiff, Nat.reduceLT, Nat.reduceSub, Int.reduceLT, Int.reduceLE, Int.reduceEq, Int.reduceToNat, Option.map_some, List.length_map, List.getElem?_map, Int.toNat_natCast, px, had]
  refine append_own (xs := []) (ts := []) (OwnV.nil _ _ _ _) (by simp) (by simp [go_sem]) (by simp) (by omega) (by omega) (fun q hq => Nat.zero_le _) (fun e' b1 g1 g2 => ?_)
  have w1 : b1 1 = ⟨1, 1, 5, 59, [px p3]⟩ := by rw [g2 1 (by decide) (by decide)]; simp [upd, px]
  have w2 : b1 2 = ⟨1, 1, 5, 68, [.agg [.str [], .int .i64 0, .nilsl, .nilsl, .int .i64 0]]⟩ := by rw [g2 2 (by decide) (by decide)]; simp [upd]
  have w3 : b1 3 = ⟨1, 1, 5, 59, [.agg [.nilsl, .int .i64 0, .int .i64 0, .bool false, .int .i64 0]]⟩ := by rw [g2 3 (by decide) (by decide)]; simp [upd]
  have w4 : b1 4 = ⟨1, 1, 5, 68, [.agg [.str s1, .int .i64 0, .nilsl, .nilsl, .int .i64 0]]⟩ := by rw [g2 4 (by decide) (by decide)]; simp [upd]
  clear g2
  simp (maxSteps := 1000000) (disch := omega) only [go_sem, reduceIte, Nat.reduceEqDiff, Nat.reduceAdd, Nat.reduceLeDiff, Nat.reduceLT, Nat.reduceSub, Int.reduceLT, Int.reduceLE, Int.reduceEq, Int.reduceToNat, Option.map_some, List.length_map, List.getElem?_map, Int.toNat_natCast, w1, w2, w3, w4, g1]
  refine cD_loop (fun σ bx => ∃ (xs : List Part) (q : RP) (v : D), σ 1 = .loc 1 1 0 0 ∧ σ 2 = .loc 2 1 0 0 ∧ σ 3 = .loc 3 1 0 0 ∧ σ 4 = .loc 4 1 0 0 ∧ bx 1 = ⟨1, 1, 5, 59, [px q]⟩ ∧ bx 2 = ⟨1, 1, 5, 68, [.agg [.str [], .int .i64 0, .nilsl, .nilsl, .int .i64 0]]⟩ ∧ bx 3 = ⟨1, 1, 5, 59, [.agg [.nilsl, .int .i64 0, .int .i64 0, .bool false, .int .i64 0]]⟩ ∧ bx 4 = ⟨1, 1, 5, 68, [.agg [.str s1, .int .i64 0, v, .nilsl, .int .i64 0]]⟩ ∧ OwnV bx [29, 46] 87 3 v (xs.map Part.d) ∧ q.l = p.l ∧ xs.length + meas q ≤ 2 + p.l.length ∧ loopR morePR partR (meas q) xs q = (ps, p4)) (fun _ bx => measB p.l.length (bx 1)) ⟨[a], p3, _, by simp [go_sem], by simp [go_sem], by simp [go_sem], by simp [go_sem], by simp [upd, w1], by simp [upd, w2], by simp [upd, w3], by simp [upd], .inr ⟨29, e', by simp, rfl, by simp [upd, g1]; rfl⟩, l3, by simp; omega, e4⟩ ?_
  rintro σ bx ⟨xs, q, v, h1, h2, h3, h4, b1', b2', b3', b4', hv, hq, hlen, htot⟩
  obtain ⟨v1, v2, v3⟩ := hv.facts
  have c9 := isName_rc q
  have c10 := isSign_rc q [58]
  cases h : morePR q with
  | false =>
    rw [loop_stop h] at htot
    injection htot with t1 t2
    have t1' := t1.symm
    subst t1'; subst t2
    have hn : isNmR q = false := by unfold morePR at h; exact (Bool.or_eq_false_iff.1 h).1
    have hs : nextR 3 [58] q = false := by unfold morePR at h; exact (Bool.or_eq_false_iff.1 h).2
    rw [hn] at c9
    rw [hs] at c10
    simp (maxSteps := 1000000) (disch := omega) only [go_sem, reduceIte, Nat.reduceEqDiff, Nat.reduceAdd, Nat.reduceLeDiff, Nat.reduceLT, Nat.reduceSub, Int.reduceLT, Int.reduceLE, Int.reduceEq, Int.reduceToNat, Option.map_some, List.length_map, List.getElem?_map, Int.toNat_natCast, h1, h2, h3, h4, b1', px]
    refine call_pure c9 (px_pure1 _) ?_
    simp (maxSteps := 1000000) (disch := omega) only [go_sem, reduceIte, Nat.reduceEqDiff, Nat.reduceAdd, Nat.reduceLeDiff, Nat.reduceLT, Nat.reduceSub, Int.reduceLT, Int.reduceLE, Int.reduceEq, Int.reduceToNat, Option.map_some, List.length_map, List.getElem?_map, Int.toNat_natCast, h1, h2, h3, h4, b1', px]
    refine call_pure c10 (px_pure2 _ _) ?_
    simp (maxSteps := 1000000) (disch := omega) only [go_sem, reduceIte, Nat.reduceEqDiff, Nat.reduceAdd, Nat.reduceLeDiff, Nat.reduceLT, Nat.reduceSub, Int.reduceLT, Int.reduceLE, Int.reduceEq, Int.reduceToNat, Option.map_some, List.length_map, List.getElem?_map, Int.toNat_natCast, h1, h2, h3, h4, b1', px]
    refine call_pure c5 (px_pure2 _ _) ?_
    simp (maxSteps := 1000000) (disch := omega) only [go_sem, reduceIte, Nat.reduceEqDiff, Nat.reduceAdd, Nat.reduceLeDiff, Nat.reduceLT, Nat.reduceSub, Int.reduceLT, Int.reduceLE, Int.reduceEq, Int.reduceToNat, Option.map_some, List.length_map, List.getElem?_map, Int.toNat_natCast, h1, h2, h3, h4, b1', px]
    refine call_pure c6 (px_pure1 _) ?_
    simp (maxSteps := 1000000) (disch := omega) only [go_sem, reduceIte, Nat.reduceEqDiff, Nat.reduceAdd, Nat.reduceLeDiff, Nat.reduceLT, Nat.reduceSub, Int.reduceLT, Int.reduceLE, Int.reduceEq, Int.reduceToNat, Option.map_some, List.length_map, List.getElem?_map, Int.toNat_natCast, h1, h2, h3, h4, b1', b2', b3', b4', px, v1, v2, v3, hyd]
    refine append_own (xs := []) (ts := []) (OwnV.nil _ _ _ _) (by simp) (by simp [go_sem]) (by simp) (by omega) (by omega) (fun q hq => Nat.zero_le _) (fun e' b1 g1 g2 => ?_)
    have w1 : b1 1 = ⟨1, 1, 5, 59, [px p6]⟩ := by rw [g2 1 (by decide) (by decide)]; simp [upd, px]
    have w2 : b1 2 = ⟨1, 1, 5, 68, [.agg [.str [], .int .i64 0, .nilsl, .nilsl, .int .i64 0]]⟩ := by rw [g2 2 (by decide) (by decide)]; simp [upd, b2']
    have w3 : b1 3 = ⟨1, 1, 5, 59, [.agg [.nilsl, .int .i64 0, .int .i64 0, .bool false, .int .i64 0]]⟩ := by rw [g2 3 (by decide) (by decide)]; simp [upd, b3']
    have w4 : b1 4 = ⟨1, 1, 5, 68, [.agg [.str s1, .int .i64 0, v, .nilsl, .int .i64 0]]⟩ := by rw [g2 4 (by decide) (by decide)]; simp [upd, b4']
    have hv1 : OwnV b1 [29, 46] 87 3 v (ps.map Part.d) := hv.of fun t ht => by
      have ht' : t = 29 ∨ t = 46 := by simpa using ht
      rcases ht' with rfl | rfl <;> (rw [g2 _ (by decide) (by decide)]; simp [upd])
    clear g2
    simp (maxSteps := 1000000) (disch := omega) only [go_sem, reduceIte, Nat.reduceEqDiff, Nat.reduceAdd, Nat.reduceLeDiff, Nat.reduceLT, Nat.reduceSub, Int.reduceLT, Int.reduceLE, Int.reduceEq, Int.reduceToNat, Option.map_some, List.length_map, List.getElem?_map, Int.toNat_natCast, h1, h2, h3, h4, w1, w2, w3, w4, g1, v1, v2, v3]
    have hv2 : ∀ a, OwnV (upd b1 4 a) [29, 46] 87 3 v (ps.map Part.d) := fun a => hv1.of fun t ht => by
      have ht' : t = 29 ∨ t = 46 := by simpa using ht
      rcases ht' with rfl | rfl <;> simp [upd]
    clear hv hv1 hlen b1' b2' b3' b4'
    refine cD_loop (fun σ bx => ∃ (xs : List Give) (q : RP) (u v : D), σ 1 = .loc 1 1 0 0 ∧ σ 2 = .loc 2 1 0 0 ∧ σ 3 = .loc 3 1 0 0 ∧ σ 4 = .loc 4 1 0 0 ∧ bx 1 = ⟨1, 1, 5, 59, [px q]⟩ ∧ bx 2 = ⟨1, 1, 5, 68, [.agg [.str [], .int .i64 0, .nilsl, .nilsl, .int .i64 0]]⟩ ∧ bx 3 = ⟨1, 1, 5, 59, [.agg [.nilsl, .int .i64 0, .int .i64 0, .bool false, .int .i64 0]]⟩ ∧ bx 4 = ⟨1, 1, 5, 68, [.agg [.str s1, .int .i64 0, u, v, .int .i64 0]]⟩ ∧ OwnV bx [29, 46] 87 3 u (ps.map Part.d) ∧ OwnV bx [59, 76] 89 2 v (xs.map Give.d) ∧ q.l = p.l ∧ xs.length + meas q ≤ 2 + p.l.length ∧ loopR moreGR giveR (meas q) xs q = (gs, p7)) (fun _ bx => measB p.l.length (bx 1)) ⟨[y], p6, v, _, by simp [go_sem, h1], by simp [go_sem, h2], by simp [go_sem, h3], by simp [go_sem, h4], by simp [upd, w1], by simp [upd, w2], by simp [upd, w3], by simp [upd], hv2 _, .inr ⟨59, e', by simp, rfl, by simp [upd, g1]; rfl⟩, l6, by simp; omega, e7⟩ ?_
    clear h1 h2 h3 h4 w1 w2 w3 w4 hv2 g1 v1 v2 v3 v hq c9 c10 h hn hs b1
    rintro σ bx ⟨xs, q, u, v, h1, h2, h3, h4, b1', b2', b3', b4', hu, hv, hq, hlen, htot⟩
    obtain ⟨v1, v2, v3⟩ := hv.facts
    obtain ⟨u1, u2, u3⟩ := hu.facts
    have c9 := isNumber_rc q
    have c10 := isSign_rc q [58]
    cases h : moreGR q with
    | false =>
      rw [loop_stop h] at htot
      injection htot with t1 t2
      subst t1; subst t2
      have hn : isNoR q = false := by unfold moreGR at h; exact (Bool.or_eq_false_iff.1 h).1
      have hs : nextR 3 [58] q = false := by unfold moreGR at h; exact (Bool.or_eq_false_iff.1 h).2
      rw [hn] at c9
      rw [hs] at c10
      simp (maxSteps := 1000000) (disch := omega) only [go_sem, reduceIte, Nat.reduceEqDiff, Nat.reduceAdd, Nat.reduceLeDiff, Nat.reduceLT, Nat.reduceSub, Int.reduceLT, Int.reduceLE, Int.reduceEq, Int.reduceToNat, Option.map_some, List.length_map, List.getElem?_map, Int.toNat_natCast, h1, h2, h3, h4, b1', px]
      refine call_pure c9 (px_pure1 _) ?_
      simp (maxSteps := 1000000) (disch := omega) only [go_sem, reduceIte, Nat.reduceEqDiff, Nat.reduceAdd, Nat.reduceLeDiff, Nat.reduceLT, Nat.reduceSub, Int.reduceLT, Int.reduceLE, Int.reduceEq, Int.reduceToNat, Option.map_some, List.length_map, List.getElem?_map, Int.toNat_natCast, h1, h2, h3, h4, b1', px]
      refine call_pure c10 (px_pure2 _ _) ?_
      simp (maxSteps := 1000000) (disch := omega) only [go_sem, reduceIte, Nat.reduceEqDiff, Nat.reduceAdd, Nat.reduceLeDiff, Nat.reduceLT, Nat.reduceSub, Int.reduceLT, Int.reduceLE, Int.reduceEq, Int.reduceToNat, Option.map_some, List.length_map, List.getElem?_map, Int.toNat_natCast, h1, h2, h3, h4, b1', px]
      refine call_pure c8 (px_pure1 _) ?_
      obtain ⟨r, o1, o2⟩ := own_outs hu (pure_part _)
      have ho : ∀ a b c d, outD (upd (upd (upd (upd bx 4 a) 1 b) 2 c) 3 d) u = some r := fun a b c d => o2 _ fun t ht => by
        have ht' : t = 29 ∨ t = 46 := by simpa using ht
        rcases ht' with rfl | rfl <;> simp [upd]
      obtain ⟨r', o1', o2'⟩ := own_outs hv (pure_give _)
      have ho' : ∀ a b c d, outD (upd (upd (upd (upd bx 4 a) 1 b) 2 c) 3 d) v = some r' := fun a b c d => o2' _ fun t ht => by
        have ht' : t = 59 ∨ t = 76 := by simpa using ht
        rcases ht' with rfl | rfl <;> simp [upd]
      simp (maxSteps := 1000000) (disch := omega) only [go_sem, reduceIte, Nat.reduceEqDiff, Nat.reduceAdd, Nat.reduceLeDiff, Nat.reduceLT, Nat.reduceSub, Int.reduceLT, Int.reduceLE, Int.reduceEq, Int.reduceToNat, Option.map_some, List.length_map, List.getElem?_map, Int.toNat_natCast, h1, h2, h3, h4, b1', b2', b3', b4', px, v1, v2, v3, u1, u2, u3, ho, ho']
      exact WL.tup ⟨WL.agg ⟨.refl _, .refl _, o1, o1', .refl _, trivial⟩, .refl _, trivial⟩
    | true =>
      obtain ⟨st1, st2⟩ := loop_step mg_bad dec_give h xs
      rw [st1] at htot
      obtain ⟨z, q4, e9⟩ : ∃ s r, giveR q = (s, r) := ⟨_, _, rfl⟩
      rw [e9] at htot st2
      have c11 := give_rc q (by rw [hq]; exact b0 _ hl)
      rw [e9] at c11
      have l9 : q4.l = p.l := by have := (dec_give q).1; rw [e9] at this; exact this.trans hq
      have hzd : z.d = .agg [.int .i64 z.part, .str z.text] := rfl
      simp only at htot st2
      cases hn : isNoR q with
      | true =>
        rw [hn] at c9
        simp (maxSteps := 1000000) (disch := omega) only [go_sem, reduceIte, Nat.reduceEqDiff, Nat.reduceAdd, Nat.reduceLeDiff, Nat.reduceLT, Nat.reduceSub, Int.reduceLT, Int.reduceLE, Int.reduceEq, Int.reduceToNat, Option.map_some, List.length_map, List.getElem?_map, Int.toNat_natCast, h1, h2, h3, h4, b1', px]
        refine call_pure c9 (px_pure1 _) ?_
        simp (maxSteps := 1000000) (disch := omega) only [go_sem, reduceIte, Nat.reduceEqDiff, Nat.reduceAdd, Nat.reduceLeDiff, Nat.reduceLT, Nat.reduceSub, Int.reduceLT, Int.reduceLE, Int.reduceEq, Int.reduceToNat, Option.map_some, List.length_map, List.getElem?_map, Int.toNat_natCast, h1, h2, h3, h4, b1', px]
        refine call_pure c11 (px_pure1 _) ?_
        simp (maxSteps := 1000000) (disch := omega) only [go_sem, reduceIte, Nat.reduceEqDiff, Nat.reduceAdd, Nat.reduceLeDiff, Nat.reduceLT, Nat.reduceSub, Int.reduceLT, Int.reduceLE, Int.reduceEq, Int.reduceToNat, Option.map_some, List.length_map, List.getElem?_map, Int.toNat_natCast, h1, h2, h3, h4, b1', b2', b3', b4', px, v1, v2, v3, u1, u2, u3, hzd]
        refine append_own (hv.of fun t ht => ?_) (by simp) (by simp [go_sem]) (by simp; omega) (by omega) (by omega) (fun q hq => Nat.zero_le _) (fun e' b1 g1 g2 => ?_)
        · simp at ht
          rcases ht with rfl | rfl <;> simp [upd]
        have w1 : b1 1 = ⟨1, 1, 5, 59, [px q]⟩ := by rw [g2 1 (by decide) (by decide)]; simp [upd, b1']
        have w2 := (g2 2 (by decide) (by decide)).trans ((((upd_ne (by decide)).trans (upd_ne (by decide))).trans ((upd_ne (by decide)).trans (upd_ne (by decide)))).trans b2')
        have w3 := (g2 3 (by decide) (by decide)).trans ((((upd_ne (by decide)).trans (upd_ne (by decide))).trans ((upd_ne (by decide)).trans (upd_ne (by decide)))).trans b3')
        have w4 := (g2 4 (by decide) (by decide)).trans ((((upd_ne (by decide)).trans (upd_ne (by decide))).trans ((upd_ne (by decide)).trans (upd_ne (by decide)))).trans b4')
        have w7 := (g2 10 (by decide) (by decide)).trans (upd_same _ _ _)
        have hu1 : OwnV b1 [29, 46] 87 3 u (ps.map Part.d) := hu.of fun t ht => by
          have ht' : t = 29 ∨ t = 46 := by simpa using ht
          rcases ht' with rfl | rfl <;> (rw [g2 _ (by decide) (by decide)]; simp [upd])
        have hu2 : ∀ a b, OwnV (upd (upd b1 4 a) 1 b) [29, 46] 87 3 u (ps.map Part.d) := fun a b => hu1.of fun t ht => by
          have ht' : t = 29 ∨ t = 46 := by simpa using ht
          rcases ht' with rfl | rfl <;> simp [upd]
        clear g2
        simp (maxSteps := 1000000) (disch := omega) only [go_sem, reduceIte, Nat.reduceEqDiff, Nat.reduceAdd, Nat.reduceLeDiff, Nat.reduceLT, Nat.reduceSub, Int.reduceLT, Int.reduceLE, Int.reduceEq, Int.reduceToNat, Option.map_some, List.length_map, List.getElem?_map, Int.toNat_natCast, h1, h2, h3, h4, w1, w2, w3, w4, w7, g1, v1, v2, v3, u1, u2, u3, px]
        have hm : xs.map Give.d ++ [.agg [.int .i64 z.part, .str z.text]] = (xs ++ [z]).map Give.d := by rw [List.map_append]; rfl
        rw [hm] at g1 ⊢
        have k1 : measB p.l.length (bx 1) = meas q := by
          rw [b1', ← hq]; exact measB_px
        have k2 : ∀ e k sz ty, measB p.l.length ⟨e, k, sz, ty, [px q4]⟩ = meas q4 := fun e k sz ty => by rw [← l9]; exact measB_px
        refine ⟨⟨xs ++ [z], q4, u, _, rfl, rfl, hu2 _ _, .inr ⟨76, e', by simp, rfl, by simp [upd, g1]⟩, l9, by rw [List.length_append, List.length_cons, List.length_nil]; omega, htot⟩, ?_⟩
        rw [k1]
        exact Nat.lt_of_le_of_lt (Nat.le_of_eq (k2 _ _ _ _)) st2
      | false =>
        have hs : nextR 3 [58] q = true := by unfold moreGR at h; rw [hn, Bool.false_or] at h; exact h
        rw [hn] at c9
        rw [hs] at c10
        simp (maxSteps := 1000000) (disch := omega) only [go_sem, reduceIte, Nat.reduceEqDiff, Nat.reduceAdd, Nat.reduceLeDiff, Nat.reduceLT, Nat.reduceSub, Int.reduceLT, Int.reduceLE, Int.reduceEq, Int.reduceToNat, Option.map_some, List.length_map, List.getElem?_map, Int.toNat_natCast, h1, h2, h3, h4, b1', px]
        refine call_pure c9 (px_pure1 _) ?_
        simp (maxSteps := 1000000) (disch := omega) only [go_sem, reduceIte, Nat.reduceEqDiff, Nat.reduceAdd, Nat.reduceLeDiff, Nat.reduceLT, Nat.reduceSub, Int.reduceLT, Int.reduceLE, Int.reduceEq, Int.reduceToNat, Option.map_some, List.length_map, List.getElem?_map, Int.toNat_natCast, h1, h2, h3, h4, b1', px]
        refine call_pure c10 (px_pure2 _ _) ?_
        simp (maxSteps := 1000000) (disch := omega) only [go_sem, reduceIte, Nat.reduceEqDiff, Nat.reduceAdd, Nat.reduceLeDiff, Nat.reduceLT, Nat.reduceSub, Int.reduceLT, Int.reduceLE, Int.reduceEq, Int.reduceToNat, Option.map_some, List.length_map, List.getElem?_map, Int.toNat_natCast, h1, h2, h3, h4, b1', px]
        refine call_pure c11 (px_pure1 _) ?_
        simp (maxSteps := 1000000) (disch := omega) only [go_sem, reduceIte, Nat.reduceEqDiff, Nat.reduceAdd, Nat.reduceLeDiff, Nat.reduceLT, Nat.reduceSub, Int.reduceLT, Int.reduceLE, Int.reduceEq, Int.reduceToNat, Option.map_some, List.length_map, List.getElem?_map, Int.toNat_natCast, h1, h2, h3, h4, b1', b2', b3', b4', px, v1, v2, v3, u1, u2, u3, hzd]
        refine append_own (hv.of fun t ht => ?_) (by simp) (by simp [go_sem]) (by simp; omega) (by omega) (by omega) (fun q hq => Nat.zero_le _) (fun e' b1 g1 g2 => ?_)
        · simp at ht
          rcases ht with rfl | rfl <;> simp [upd]
        have w1 : b1 1 = ⟨1, 1, 5, 59, [px q]⟩ := by rw [g2 1 (by decide) (by decide)]; simp [upd, b1']
        have w2 := (g2 2 (by decide) (by decide)).trans ((((upd_ne (by decide)).trans (upd_ne (by decide))).trans ((upd_ne (by decide)).trans (upd_ne (by decide)))).trans b2')
        have w3 := (g2 3 (by decide) (by decide)).trans ((((upd_ne (by decide)).trans (upd_ne (by decide))).trans ((upd_ne (by decide)).trans (upd_ne (by decide)))).trans b3')
        have w4 := (g2 4 (by decide) (by decide)).trans ((((upd_ne (by decide)).trans (upd_ne (by decide))).trans ((upd_ne (by decide)).trans (upd_ne (by decide)))).trans b4')
        have w7 := (g2 10 (by decide) (by decide)).trans (upd_same _ _ _)
        have hu1 : OwnV b1 [29, 46] 87 3 u (ps.map Part.d) := hu.of fun t ht => by
          have ht' : t = 29 ∨ t = 46 := by simpa using ht
          rcases ht' with rfl | rfl <;> (rw [g2 _ (by decide) (by decide)]; simp [upd])
        have hu2 : ∀ a b, OwnV (upd (upd b1 4 a) 1 b) [29, 46] 87 3 u (ps.map Part.d) := fun a b => hu1.of fun t ht => by
          have ht' : t = 29 ∨ t = 46 := by simpa using ht
          rcases ht' with rfl | rfl <;> simp [upd]
        clear g2
        simp (maxSteps := 1000000) (disch := omega) only [go_sem, reduceIte, Nat.reduceEqDiff, Nat.reduceAdd, Nat.reduceLeDiff, Nat.reduceLT, Nat.reduceSub, Int.reduceLT, Int.reduceLE, Int.reduceEq, Int.reduceToNat, Option.map_some, List.length_map, List.getElem?_map, Int.toNat_natCast, h1, h2, h3, h4, w1, w2, w3, w4, w7, g1, v1, v2, v3, u1, u2, u3, px]
        have hm : xs.map Give.d ++ [.agg [.int .i64 z.part, .str z.text]] = (xs ++ [z]).map Give.d := by rw [List.map_append]; rfl
        rw [hm] at g1 ⊢
        have k1 : measB p.l.length (bx 1) = meas q := by
          rw [b1', ← hq]; exact measB_px
        have k2 : ∀ e k sz ty, measB p.l.length ⟨e, k, sz, ty, [px q4]⟩ = meas q4 := fun e k sz ty => by rw [← l9]; exact measB_px
        refine ⟨⟨xs ++ [z], q4, u, _, rfl, rfl, hu2 _ _, .inr ⟨76, e', by simp, rfl, by simp [upd, g1]⟩, l9, by rw [List.length_append, List.length_cons, List.length_nil]; omega, htot⟩, ?_⟩
        rw [k1]
        exact Nat.lt_of_le_of_lt (Nat.le_of_eq (k2 _ _ _ _)) st2
  | true =>
    obtain ⟨st1, st2⟩ := loop_step mp_bad dec_part h xs
    rw [st1] at htot
    obtain ⟨z, q4, e9⟩ : ∃ s r, partR q = (s, r) := ⟨_, _, rfl⟩
    rw [e9] at htot st2
    have c11 := part_rc q (by rw [hq]; exact b0 _ hl)
    rw [e9] at c11
    have l9 : q4.l = p.l := by have := (dec_part q).1; rw [e9] at this; exact this.trans hq
    have hzd : z.d = .agg [.str z.cat, .int .i64 z.no, .str z.text] := rfl
    simp only at htot st2
    cases hn : isNmR q with
    | true =>
      rw [hn] at c9
      simp (maxSteps := 1000000) (disch := omega) only [go_sem, reduceIte, Nat.reduceEqDiff, Nat.reduceAdd, Nat.reduceLeDiff, Nat.reduceLT, Nat.reduceSub, Int.reduceLT, Int.reduceLE, Int.reduceEq, Int.reduceToNat, Option.map_some, List.length_map, List.getElem?_map, Int.toNat_natCast, h1, h2, h3, h4, b1', px]
      refine call_pure c9 (px_pure1 _) ?_
      simp (maxSteps := 1000000) (disch := omega) only [go_sem, reduceIte, Nat.reduceEqDiff, Nat.reduceAdd, Nat.reduceLeDiff, Nat.reduceLT, Nat.reduceSub, Int.reduceLT, Int.reduceLE, Int.reduceEq, Int.reduceToNat, Option.map_some, List.length_map, List.getElem?_map, Int.toNat_natCast, h1, h2, h3, h4, b1', px]
      refine call_pure c11 (px_pure1 _) ?_
      simp (maxSteps := 1000000) (disch := omega) only [go_sem, reduceIte, Nat.reduceEqDiff, Nat.reduceAdd, Nat.reduceLeDiff, Nat.reduceLT, Nat.reduceSub, Int.reduceLT, Int.reduceLE, Int.reduceEq, Int.reduceToNat, Option.map_some, List.length_map, List.getElem?_map, Int.toNat_natCast, h1, h2, h3, h4, b1', b2', b3', b4', px, v1, v2, v3, hzd]
      refine append_own (hv.of fun t ht => ?_) (by simp) (by simp [go_sem]) (by simp; omega) (by omega) (by omega) (fun q hq => Nat.zero_le _) (fun e' b1 g1 g2 => ?_)
      · simp at ht
        rcases ht with rfl | rfl <;> simp [upd]
      have w1 : b1 1 = ⟨1, 1, 5, 59, [px q]⟩ := by rw [g2 1 (by decide) (by decide)]; simp [upd, b1']
      have w2 := (g2 2 (by decide) (by decide)).trans ((((upd_ne (by decide)).trans (upd_ne (by decide))).trans ((upd_ne (by decide)).trans (upd_ne (by decide)))).trans b2')
      have w3 := (g2 3 (by decide) (by decide)).trans ((((upd_ne (by decide)).trans (upd_ne (by decide))).trans ((upd_ne (by decide)).trans (upd_ne (by decide)))).trans b3')
      have w4 := (g2 4 (by decide) (by decide)).trans ((((upd_ne (by decide)).trans (upd_ne (by decide))).trans ((upd_ne (by decide)).trans (upd_ne (by decide)))).trans b4')
      have w7 := (g2 7 (by decide) (by decide)).trans (upd_same _ _ _)
      clear g2
      simp (maxSteps := 1000000) (disch := omega) only [go_sem, reduceIte, Nat.reduceEqDiff, Nat.reduceAdd, Nat.reduceLeDiff, Nat.reduceLT, Nat.reduceSub, Int.reduceLT, Int.reduceLE, Int.reduceEq, Int.reduceToNat, Option.map_some, List.length_map, List.getElem?_map, Int.toNat_natCast, h1, h2, h3, h4, w1, w2, w3, w4, w7, g1, v1, v2, v3, px]
      have hm : xs.map Part.d ++ [.agg [.str z.cat, .int .i64 z.no, .str z.text]] = (xs ++ [z]).map Part.d := by rw [List.map_append]; rfl
      rw [hm] at g1 ⊢
      have k1 : measB p.l.length (bx 1) = meas q := by
        rw [b1', ← hq]; exact measB_px
      have k2 : ∀ e k sz ty, measB p.l.length ⟨e, k, sz, ty, [px q4]⟩ = meas q4 := fun e k sz ty => by rw [← l9]; exact measB_px
      refine ⟨⟨xs ++ [z], q4, _, rfl, rfl, .inr ⟨46, e', by simp, rfl, by simp [upd, g1]⟩, l9, by rw [List.length_append, List.length_cons, List.length_nil]; omega, htot⟩, ?_⟩
      rw [k1]
      exact Nat.lt_of_le_of_lt (Nat.le_of_eq (k2 _ _ _ _)) st2
    | false =>
      have hs : nextR 3 [58] q = true := by unfold morePR at h; rw [hn, Bool.false_or] at h; exact h
      rw [hn] at c9
      rw [hs] at c10
      simp (maxSteps := 1000000) (disch := omega) only [go_sem, reduceIte, Nat.reduceEqDiff, Nat.reduceAdd, Nat.reduceLeDiff, Nat.reduceLT, Nat.reduceSub, Int.reduceLT, Int.reduceLE, Int.reduceEq, Int.reduceToNat, Option.map_some, List.length_map, List.getElem?_map, Int.toNat_natCast, h1, h2, h3, h4, b1', px]
      refine call_pure c9 (px_pure1 _) ?_
      simp (maxSteps := 1000000) (disch := omega) only [go_sem, reduceIte, Nat.reduceEqDiff, Nat.reduceAdd, Nat.reduceLeDiff, Nat.reduceLT, Nat.reduceSub, Int.reduceLT, Int.reduceLE, Int.reduceEq, Int.reduceToNat, Option.map_some, List.length_map, List.getElem?_map, Int.toNat_natCast, h1, h2, h3, h4, b1', px]
      refine call_pure c10 (px_pure2 _ _) ?_
      simp (maxSteps := 1000000) (disch := omega) only [go_sem, reduceIte, Nat.reduceEqDiff, Nat.reduceAdd, Nat.reduceLeDiff, Nat.reduceLT, Nat.reduceSub, Int.reduceLT, Int.reduceLE, Int.reduceEq, Int.reduceToNat, Option.map_some, List.length_map, List.getElem?_map, Int.toNat_natCast, h1, h2, h3, h4, b1', px]
      refine call_pure c11 (px_pure1 _) ?_
      simp (maxSteps := 1000000) (disch := omega) only [go_sem, reduceIte, Nat.reduceEqDiff, Nat.reduceAdd, Nat.reduceLeDiff, Nat.reduceLT, Nat.reduceSub, Int.reduceLT, Int.reduceLE, Int.reduceEq, Int.reduceToNat, Option.map_some, List.length_map, List.getElem?_map, Int.toNat_natCast, h1, h2, h3, h4, b1', b2', b3', b4', px, v1, v2, v3, hzd]
      refine append_own (hv.of fun t ht => ?_) (by simp) (by simp [go_sem]) (by simp; omega) (by omega) (by omega) (fun q hq => Nat.zero_le _) (fun e' b1 g1 g2 => ?_)
      · simp at ht
        rcases ht with rfl | rfl <;> simp [upd]
      have w1 : b1 1 = ⟨1, 1, 5, 59, [px q]⟩ := by rw [g2 1 (by decide) (by decide)]; simp [upd, b1']
      have w2 := (g2 2 (by decide) (by decide)).trans ((((upd_ne (by decide)).trans (upd_ne (by decide))).trans ((upd_ne (by decide)).trans (upd_ne (by decide)))).trans b2')
      have w3 := (g2 3 (by decide) (by decide)).trans ((((upd_ne (by decide)).trans (upd_ne (by decide))).trans ((upd_ne (by decide)).trans (upd_ne (by decide)))).trans b3')
      have w4 := (g2 4 (by decide) (by decide)).trans ((((upd_ne (by decide)).trans (upd_ne (by decide))).trans ((upd_ne (by decide)).trans (upd_ne (by decide)))).trans b4')
      have w7 := (g2 7 (by decide) (by decide)).trans (upd_same _ _ _)
      clear g2
      simp (maxSteps := 1000000) (disch := omega) only [go_sem, reduceIte, Nat.reduceEqDiff, Nat.reduceAdd, Nat.reduceLeDiff, Nat.reduceLT, Nat.reduceSub, Int.reduceLT, Int.reduceLE, Int.reduceEq, Int.reduceToNat, Option.map_some, List.length_map, List.getElem?_map, Int.toNat_natCast, h1, h2, h3, h4, w1, w2, w3, w4, w7, g1, v1, v2, v3, px]
      have hm : xs.map Part.d ++ [.agg [.str z.cat, .int .i64 z.no, .str z.text]] = (xs ++ [z]).map Part.d := by rw [List.map_append]; rfl
      rw [hm] at g1 ⊢
      have k1 : measB p.l.length (bx 1) = meas q := by
        rw [b1', ← hq]; exact measB_px
      have k2 : ∀ e k sz ty, measB p.l.length ⟨e, k, sz, ty, [px q4]⟩ = meas q4 := fun e k sz ty => by rw [← l9]; exact measB_px
      refine ⟨⟨xs ++ [z], q4, _, rfl, rfl, .inr ⟨46, e', by simp, rfl, by simp [upd, g1]⟩, l9, by rw [List.length_append, List.length_cons, List.length_nil]; omega, htot⟩, ?_⟩
      rw [k1]
      exact Nat.lt_of_le_of_lt (Nat.le_of_eq (k2 _ _ _ _)) st2
theorem rule_rc (p : RP) (hl : p.l.length ≤ 1000000) : CallsTo Tryz.prog 60 [px p] (.tup [(ruleR p).1.d, px (ruleR p).2]) := fn_calls mixed (rule_r p hl) rfl (by kernel_rfl) rfl
end Go.V.Gr
