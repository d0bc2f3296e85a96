/-
  Grammar: the reference's reader of grammars.
-/
import Derived.Test.YtiolflfjekiboaaGreatDoorHh
namespace Go.V.Gr
open Go.Proofs Go.RowKit Go.V.Lx
set_option linter.unusedSimpArgs false
set_option linter.unusedVariables false
set_option maxRecDepth 100000

set_option maxHeartbeats 16000000 in
theorem read_r (p : RP) (hl : p.l.length ≤ 1000000) : fnD Tryz.prog (orac Tryz.prog) [(19, [(4, 2)]), (20, [(2, 1)])] Tryz.f24 [px p] (.tup [(readR p).1.d, px (readR p).2]) := by
  refine fn_intro _ [.cell 2 27, .cell 3 59] _ rfl rfl rfl (by kernel_rfl) ?_
  have b0 : ∀ n, n ≤ 1000000 → n ≤ M := fun n h => by show n ≤ 140737488355328; omega
  obtain ⟨n, p1, e1⟩ : ∃ s q, nameW 1 wGrammar p = (s, q) := ⟨_, _, rfl⟩
  obtain ⟨p2, e2⟩ : ∃ q, expR 3 [59] p1 = q := ⟨_, rfl⟩
  obtain ⟨cs, p3, e3⟩ : ∃ s q, manyR (nextR 1 wCategory) catR [] p2 = (s, q) := ⟨_, _, rfl⟩
  obtain ⟨s, p4, e4⟩ : ∃ s q, nameW 1 wStart p3 = (s, q) := ⟨_, _, rfl⟩
  obtain ⟨p5, e5⟩ : ∃ q, expR 3 [59] p4 = q := ⟨_, rfl⟩
  obtain ⟨es, p6, e6⟩ : ∃ s q, manyR (nextR 1 wWord) entryR [] p5 = (s, q) := ⟨_, _, rfl⟩
  obtain ⟨rs, p7, e7⟩ : ∃ s q, manyR (nextR 1 wRule) ruleR [] p6 = (s, q) := ⟨_, _, rfl⟩
  have hE : readR p = (⟨n, cs, s, 0, es, rs⟩, if p7.n < p7.l.length then failR p7 else p7) := by
    unfold readR
    simp only [RS.bind, wantR, e1, e2, e3, e4, e5, e6, e7, endR]
  rw [hE]
  clear hE
  have l1 : p1.l = p.l := by have := keepW (k := 1) (t := wGrammar) (p := p); rw [e1] at this; exact this
  have l2 : p2.l = p.l := by have := exp_len 3 [59] p1; rw [e2] at this; exact this.trans l1
  have l3 : p3.l = p.l := by have := (low_many (more := nextR 1 wCategory) dec_cat [] p2).1; rw [e3] at this; exact this.trans l2
  have l4 : p4.l = p.l := by have := keepW (k := 1) (t := wStart) (p := p3); rw [e4] at this; exact this.trans l3
  have l5 : p5.l = p.l := by have := exp_len 3 [59] p4; rw [e5] at this; exact this.trans l4
  have l6 : p6.l = p.l := by have := (low_many (more := nextR 1 wWord) dec_entry [] p5).1; rw [e6] at this; exact this.trans l5
  have m2 : meas p2 ≤ 1 + p.l.length := by unfold meas; rw [l2]; split <;> omega
  have m5 : meas p5 ≤ 1 + p.l.length := by unfold meas; rw [l5]; split <;> omega
  have m6 : meas p6 ≤ 1 + p.l.length := by unfold meas; rw [l6]; split <;> omega
  have c1 := word_rc p wGrammar (b0 _ hl)
  have d1 := name_rc (expR 1 wGrammar p) (by rw [exp_len]; exact b0 _ hl)
  rw [show nameR (expR 1 wGrammar p) = (n, p1) from e1] at d1
  have c2 := sign_rc p1 [59] (by rw [l1]; exact b0 _ hl)
  rw [e2] at c2
  have c4 := word_rc p3 wStart (by rw [l3]; exact b0 _ hl)
  have d4 := name_rc (expR 1 wStart p3) (by rw [exp_len, l3]; exact b0 _ hl)
  rw [show nameR (expR 1 wStart p3) = (s, p4) from e4] at d4
  have c5 := sign_rc p4 [59] (by rw [l4]; exact b0 _ hl)
  rw [e5] at c5
  simp (maxSteps := 1000000) (disch := omega) only [go_sem, reduceIte, Nat.reduceEqDiff, Nat.reduceAdd, Nat.reduceLeDiff, Nat.reduceLT, Nat.reduceSub, Int.reduceLT, Int.reduceLE, Int.reduceEq, Int.reduceToNat, Option.map_some, List.length_map, List.getElem?_map, Int.toNat_natCast, px]
  refine call_pure c1 (px_pure2 _ _) ?_
  simp (maxSteps := 1000000) (disch := omega) only [go_sem, reduceIte, Nat.reduceEqDiff, Nat.reduceAdd, Nat.reduceLeDiff, Nat.reduceLT, Nat.reduceSub, Int.reduceLT, Int.reduceLE, Int.reduceEq, Int.reduceToNat, Option.map_some, List.length_map, List.getElem?_map, Int.toNat_natCast, px]
  refine call_pure d1 (px_pure1 _) ?_
  simp (maxSteps := 1000000) (disch := omega) only [go_sem, reduceIte, Nat.reduceEqDiff, Nat.reduceAdd, Nat.reduceLeDiff, Nat.reduceLT, Nat.reduceSub, Int.reduceLT, Int.reduceLE, Int.reduceEq, Int.reduceToNat, Option.map_some, List.length_map, List.getElem?_map, Int.toNat_natCast, px]
  refine call_pure c2 (px_pure2 _ _) ?_
  simp (maxSteps := 1000000) (disch := omega) only [go_sem, reduceIte, Nat.reduceEqDiff, Nat.reduceAdd, Nat.reduceLeDiff, Nat.reduceLT, Nat.reduceSub, Int.reduceLT, Int.reduceLE, Int.reduceEq, Int.reduceToNat, Option.map_some, List.length_map, List.getElem?_map, Int.toNat_natCast, px]
  refine cD_loop (fun σ bx => ∃ (xs : List Str) (q : RP) (v : D), σ 1 = .loc 1 1 0 0 ∧ σ 2 = .loc 2 1 0 0 ∧ σ 3 = .loc 3 1 0 0 ∧ σ 4 = .loc 4 1 0 0 ∧ bx 1 = ⟨1, 1, 5, 59, [px q]⟩ ∧ bx 2 = ⟨1, 1, 6, 27, [.agg [.str [], .nilsl, .str [], .int .i64 0, .nilsl, .nilsl]]⟩ ∧ bx 3 = ⟨1, 1, 5, 59, [.agg [.nilsl, .int .i64 0, .int .i64 0, .bool false, .int .i64 0]]⟩ ∧ bx 4 = ⟨1, 1, 6, 27, [.agg [.str n, v, .str [], .int .i64 0, .nilsl, .nilsl]]⟩ ∧ OwnV bx [33] 9 1 v (xs.map D.str) ∧ q.l = p.l ∧ xs.length + meas q ≤ 1 + p.l.length ∧ loopR (nextR 1 wCategory) catR (meas q) xs q = (cs, p3)) (fun _ bx => measB p.l.length (bx 1)) ⟨[], p2, _, by simp [go_sem], by simp [go_sem], by simp [go_sem], by simp [go_sem], by simp [upd, px], by simp [upd], by simp [upd], by simp [upd], .inl ⟨rfl, rfl⟩, l2, by simp; omega, e3⟩ ?_
  rintro σ bx ⟨xs, q, v, h1, h2, h3, h4, b1', b2', b3', b4', hv, hq, hlen, htot⟩
  obtain ⟨v1, v2, v3⟩ := hv.facts
  have c10 := isWord_rc q wCategory
  simp (maxSteps := 1000000) (disch := omega) only [go_sem, reduceIte, Nat.reduceEqDiff, Nat.reduceAdd, Nat.reduceLeDiff, Nat.reduceLT, Nat.reduceSub, Int.reduceLT, Int.reduceLE, Int.reduceEq, Int.reduceToNat, Option.map_some, List.length_map, List.getElem?_map, Int.toNat_natCast, h1, h2, h3, h4, b1', px]
  refine call_pure c10 (px_pure2 _ _) ?_
  cases h : nextR 1 wCategory q with
  | true =>
    obtain ⟨st1, st2⟩ := loop_step (fun p hp => next_bad hp) dec_cat h xs
    rw [st1] at htot
    obtain ⟨z, q4, e9⟩ : ∃ s r, catR q = (s, r) := ⟨_, _, rfl⟩
    rw [e9] at htot st2
    have l9 : q4.l = p.l := by have := (dec_cat q).1; rw [e9] at this; exact this.trans hq
    simp only at htot st2
    obtain ⟨z', r4, e10⟩ : ∃ s r, nameW 1 wCategory q = (s, r) := ⟨_, _, rfl⟩
    have ez : z' = z ∧ expR 3 [59] r4 = q4 := by
      unfold catR at e9
      simp only [RS.bind, e10, wantR, RS.pure] at e9
      injection e9 with g1 g2
      exact ⟨g1, g2⟩
    obtain ⟨rfl, ez⟩ := ez
    have l10 : r4.l = p.l := by have := keepW (k := 1) (t := wCategory) (p := q); rw [e10] at this; exact this.trans hq
    have c11 := word_rc q wCategory (by rw [hq]; exact b0 _ hl)
    have d11 := name_rc (expR 1 wCategory q) (by rw [exp_len, hq]; exact b0 _ hl)
    rw [show nameR (expR 1 wCategory q) = (z', r4) from e10] at d11
    have c12 := sign_rc r4 [59] (by rw [l10]; exact b0 _ hl)
    rw [ez] at c12
    simp (maxSteps := 1000000) (disch := omega) only [go_sem, reduceIte, Nat.reduceEqDiff, Nat.reduceAdd, Nat.reduceLeDiff, Nat.reduceLT, Nat.reduceSub, Int.reduceLT, Int.reduceLE, Int.reduceEq, Int.reduceToNat, Option.map_some, List.length_map, List.getElem?_map, Int.toNat_natCast, h1, h2, h3, h4, b1', px]
    refine call_pure c11 (px_pure2 _ _) ?_
    simp (maxSteps := 1000000) (disch := omega) only [go_sem, reduceIte, Nat.reduceEqDiff, Nat.reduceAdd, Nat.reduceLeDiff, Nat.reduceLT, Nat.reduceSub, Int.reduceLT, Int.reduceLE, Int.reduceEq, Int.reduceToNat, Option.map_some, List.length_map, List.getElem?_map, Int.toNat_natCast, h1, h2, h3, h4, b1', px]
    refine call_pure d11 (px_pure1 _) ?_
    simp (maxSteps := 1000000) (disch := omega) only [go_sem, reduceIte, Nat.reduceEqDiff, Nat.reduceAdd, Nat.reduceLeDiff, Nat.reduceLT, Nat.reduceSub, Int.reduceLT, Int.reduceLE, Int.reduceEq, Int.reduceToNat, Option.map_some, List.length_map, List.getElem?_map, Int.toNat_natCast, h1, h2, h3, h4, b1', b2', b3', b4', px, v1, v2, v3]
    refine append_own (hv.of fun t ht => ?_) (by simp) (by simp [go_sem]) (by simp; omega) (by omega) (by omega) (fun q hq => Nat.zero_le _) (fun e' b1 g1 g2 => ?_)
    · have ht' : t = 33 := by simpa using ht
      subst ht'
      simp [upd]
    have w1 : b1 1 = ⟨1, 1, 5, 59, [px q]⟩ := by rw [g2 1 (by decide) (by decide)]; simp [upd, b1']
    have w2 : b1 2 = ⟨1, 1, 6, 27, [.agg [.str [], .nilsl, .str [], .int .i64 0, .nilsl, .nilsl]]⟩ := by rw [g2 2 (by decide) (by decide)]; simp [upd, b2']
    have w3 : b1 3 = ⟨1, 1, 5, 59, [.agg [.nilsl, .int .i64 0, .int .i64 0, .bool false, .int .i64 0]]⟩ := by rw [g2 3 (by decide) (by decide)]; simp [upd, b3']
    have w4 : b1 4 = ⟨1, 1, 6, 27, [.agg [.str n, v, .str [], .int .i64 0, .nilsl, .nilsl]]⟩ := by rw [g2 4 (by decide) (by decide)]; simp [upd, b4']
    have w7 := (g2 6 (by decide) (by decide)).trans (upd_same _ _ _)
    clear g2
    simp (maxSteps := 1000000) (disch := omega) only [go_sem, reduceIte, Nat.reduceEqDiff, Nat.reduceAdd, Nat.reduceLeDiff, Nat.reduceLT, Nat.reduceSub, Int.reduceLT, Int.reduceLE, Int.reduceEq, Int.reduceToNat, Option.map_some, List.length_map, List.getElem?_map, Int.toNat_natCast, h1, h2, h3, h4, w1, w2, w3, w4, w7, g1, v1, v2, v3, px]
    refine call_pure c12 (px_pure2 _ _) ?_
    simp (maxSteps := 1000000) (disch := omega) only [go_sem, reduceIte, Nat.reduceEqDiff, Nat.reduceAdd, Nat.reduceLeDiff, Nat.reduceLT, Nat.reduceSub, Int.reduceLT, Int.reduceLE, Int.reduceEq, Int.reduceToNat, Option.map_some, List.length_map, List.getElem?_map, Int.toNat_natCast, h1, h2, h3, h4, w1, w2, w3, w4, w7, g1, v1, v2, v3, px]
    have hm : xs.map D.str ++ [.str z'] = (xs ++ [z']).map D.str := by rw [List.map_append]; rfl
    rw [hm] at g1 ⊢
    have k1 : measB p.l.length (bx 1) = meas q := by
      rw [b1', ← hq]; exact measB_px
    have k2 : ∀ e k sz ty, measB p.l.length ⟨e, k, sz, ty, [px q4]⟩ = meas q4 := fun e k sz ty => by rw [← l9]; exact measB_px
    refine ⟨⟨xs ++ [z'], q4, _, rfl, rfl, .inr ⟨33, e', by simp, rfl, by simp [upd, g1]⟩, l9, by rw [List.length_append, List.length_cons, List.length_nil]; omega, htot⟩, ?_⟩
    rw [k1]
    exact Nat.lt_of_le_of_lt (Nat.le_of_eq (k2 _ _ _ _)) st2
  | false =>
    rw [loop_stop h] at htot
    injection htot with t1 t2
    have t1' := t1.symm
    have t2' := t2.symm
    subst t1'; subst t2'
    simp (maxSteps := 1000000) (disch := omega) only [go_sem, reduceIte, Nat.reduceEqDiff, Nat.reduceAdd, Nat.reduceLeDiff, Nat.reduceLT, Nat.reduceSub, Int.reduceLT, Int.reduceLE, Int.reduceEq, Int.reduceToNat, Option.map_some, List.length_map, List.getElem?_map, Int.toNat_natCast, h1, h2, h3, h4, b1', px]
    refine call_pure c4 (px_pure2 _ _) ?_
    simp (maxSteps := 1000000) (disch := omega) only [go_sem, reduceIte, Nat.reduceEqDiff, Nat.reduceAdd, Nat.reduceLeDiff, Nat.reduceLT, Nat.reduceSub, Int.reduceLT, Int.reduceLE, Int.reduceEq, Int.reduceToNat, Option.map_some, List.length_map, List.getElem?_map, Int.toNat_natCast, h1, h2, h3, h4, b1', px]
    refine call_pure d4 (px_pure1 _) ?_
    simp (maxSteps := 1000000) (disch := omega) only [go_sem, reduceIte, Nat.reduceEqDiff, Nat.reduceAdd, Nat.reduceLeDiff, Nat.reduceLT, Nat.reduceSub, Int.reduceLT, Int.reduceLE, Int.reduceEq, Int.reduceToNat, Option.map_some, List.length_map, List.getElem?_map, Int.toNat_natCast, h1, h2, h3, h4, b1', b2', b3', b4', px, v1, v2, v3]
    refine call_pure c5 (px_pure2 _ _) ?_
    simp (maxSteps := 1000000) (disch := omega) only [go_sem, reduceIte, Nat.reduceEqDiff, Nat.reduceAdd, Nat.reduceLeDiff, Nat.reduceLT, Nat.reduceSub, Int.reduceLT, Int.reduceLE, Int.reduceEq, Int.reduceToNat, Option.map_some, List.length_map, List.getElem?_map, Int.toNat_natCast, h1, h2, h3, h4, b1', b2', b3', b4', px, v1, v2, v3]
    have hv2 : ∀ a b c, OwnV (upd (upd (upd bx 4 a) 1 b) 1 c) [33] 9 1 v (cs.map D.str) := fun a b c => hv.of fun t ht => by
      have ht' : t = 33 := by simpa using ht
      subst ht'
      simp [upd]
    refine cD_loop (fun σ bx => ∃ (xs : List Entry) (q : RP) (u v : D), σ 1 = .loc 1 1 0 0 ∧ σ 2 = .loc 2 1 0 0 ∧ σ 3 = .loc 3 1 0 0 ∧ σ 4 = .loc 4 1 0 0 ∧ bx 1 = ⟨1, 1, 5, 59, [px q]⟩ ∧ bx 2 = ⟨1, 1, 6, 27, [.agg [.str [], .nilsl, .str [], .int .i64 0, .nilsl, .nilsl]]⟩ ∧ bx 3 = ⟨1, 1, 5, 59, [.agg [.nilsl, .int .i64 0, .int .i64 0, .bool false, .int .i64 0]]⟩ ∧ bx 4 = ⟨1, 1, 6, 27, [.agg [.str n, u, .str s, .int .i64 0, v, .nilsl]]⟩ ∧ OwnV bx [33] 9 1 u (cs.map D.str) ∧ OwnV bx [57] 52 5 v (xs.map Entry.d) ∧ q.l = p.l ∧ xs.length + meas q ≤ 1 + p.l.length ∧ loopR (nextR 1 wWord) entryR (meas q) xs q = (es, p6)) (fun _ bx => measB p.l.length (bx 1)) ⟨[], p5, v, _, by simp [go_sem, h1], by simp [go_sem, h2], by simp [go_sem, h3], by simp [go_sem, h4], by simp [upd, px], by simp [upd, b2'], by simp [upd, b3'], by simp [upd], hv2 _ _ _, .inl ⟨rfl, rfl⟩, l5, by simp; omega, e6⟩ ?_
    clear h1 h2 h3 h4 b1' b2' b3' b4' hv hv2 v1 v2 v3 v hq hlen c10 h t1 t2 σ bx
    rintro σ bx ⟨xs, q, u, v, h1, h2, h3, h4, b1', b2', b3', b4', hu, hv, hq, hlen, htot⟩
    obtain ⟨v1, v2, v3⟩ := hv.facts
    obtain ⟨u1, u2, u3⟩ := hu.facts
    have c10 := isWord_rc q wWord
    simp (maxSteps := 1000000) (disch := omega) only [go_sem, reduceIte, Nat.reduceEqDiff, Nat.reduceAdd, Nat.reduceLeDiff, Nat.reduceLT, Nat.reduceSub, Int.reduceLT, Int.reduceLE, Int.reduceEq, Int.reduceToNat, Option.map_some, List.length_map, List.getElem?_map, Int.toNat_natCast, h1, h2, h3, h4, b1', px]
    refine call_pure c10 (px_pure2 _ _) ?_
    cases h : nextR 1 wWord q with
    | true =>
      obtain ⟨st1, st2⟩ := loop_step (fun p hp => next_bad hp) dec_entry h xs
      rw [st1] at htot
      obtain ⟨z, q4, e9⟩ : ∃ s r, entryR q = (s, r) := ⟨_, _, rfl⟩
      rw [e9] at htot st2
      have l9 : q4.l = p.l := by have := (dec_entry q).1; rw [e9] at this; exact this.trans hq
      simp only at htot st2
      have c11 := entry_rc q (by rw [hq]; exact hl)
      rw [e9] at c11
      have hzd : z.d = .agg [.str z.text, .str z.cat, .int .i64 z.no, .sl 1 (z.gives.map D.str), .int .i64 z.cost] := rfl
      rw [hzd] at c11
      have hzp : D.pure (.agg [.str z.text, .str z.cat, .int .i64 z.no, .sl 1 (z.gives.map D.str), .int .i64 z.cost]) = true := by simp [D.pure, D.pureL, pureL_strs]
      simp (maxSteps := 1000000) (disch := omega) only [go_sem, reduceIte, Nat.reduceEqDiff, Nat.reduceAdd, Nat.reduceLeDiff, Nat.reduceLT, Nat.reduceSub, Int.reduceLT, Int.reduceLE, Int.reduceEq, Int.reduceToNat, Option.map_some, List.length_map, List.getElem?_map, Int.toNat_natCast, h1, h2, h3, h4, b1', px]
      refine call_pure c11 (px_pure1 _) ?_
      simp (maxSteps := 1000000) (disch := omega) only [go_sem, reduceIte, Nat.reduceEqDiff, Nat.reduceAdd, Nat.reduceLeDiff, Nat.reduceLT, Nat.reduceSub, Int.reduceLT, Int.reduceLE, Int.reduceEq, Int.reduceToNat, Option.map_some, List.length_map, List.getElem?_map, Int.toNat_natCast, h1, h2, h3, h4, b1', b2', b3', b4', px, v1, v2, v3, u1, u2, u3, hzp]
      refine append_own (hv.of fun t ht => ?_) (by simp) (by simp [go_sem]) (by simp; omega) (by omega) (by omega) (fun q hq => Nat.zero_le _) (fun e' b1 g1 g2 => ?_)
      · have ht' : t = 57 := by simpa using ht
        subst ht'
        simp [upd]
      have w1 : b1 1 = ⟨1, 1, 5, 59, [px q]⟩ := by rw [g2 1 (by decide) (by decide)]; simp [upd, b1']
      have w2 : b1 2 = ⟨1, 1, 6, 27, [.agg [.str [], .nilsl, .str [], .int .i64 0, .nilsl, .nilsl]]⟩ := by rw [g2 2 (by decide) (by decide)]; simp [upd, b2']
      have w3 : b1 3 = ⟨1, 1, 5, 59, [.agg [.nilsl, .int .i64 0, .int .i64 0, .bool false, .int .i64 0]]⟩ := by rw [g2 3 (by decide) (by decide)]; simp [upd, b3']
      have w4 : b1 4 = ⟨1, 1, 6, 27, [.agg [.str n, u, .str s, .int .i64 0, v, .nilsl]]⟩ := by rw [g2 4 (by decide) (by decide)]; simp [upd, b4']
      have w7 := (g2 8 (by decide) (by decide)).trans (upd_same _ _ _)
      have hu1 : OwnV b1 [33] 9 1 u (cs.map D.str) := hu.of fun t ht => by
        have ht' : t = 33 := by simpa using ht
        subst ht'
        rw [g2 _ (by decide) (by decide)]
        simp [upd]
      have hu2 : ∀ a b, OwnV (upd (upd b1 4 a) 1 b) [33] 9 1 u (cs.map D.str) := fun a b => hu1.of fun t ht => by
        have ht' : t = 33 := by simpa using ht
        subst ht'
        simp [upd]
      clear g2
      simp (maxSteps := 1000000) (disch := omega) only [go_sem, reduceIte, Nat.reduceEqDiff, Nat.reduceAdd, Nat.reduceLeDiff, Nat.reduceLT, Nat.reduceSub, Int.reduceLT, Int.reduceLE, Int.reduceEq, Int.reduceToNat, Option.map_some, List.length_map, List.getElem?_map, Int.toNat_natCast, h1, h2, h3, h4, w1, w2, w3, w4, w7, g1, v1, v2, v3, u1, u2, u3, px]
      have hm : xs.map Entry.d ++ [.agg [.str z.text, .str z.cat, .int .i64 z.no, .sl 1 (z.gives.map D.str), .int .i64 z.cost]] = (xs ++ [z]).map Entry.d := by rw [List.map_append]; rfl
      rw [hm] at g1 ⊢
      have k1 : measB p.l.length (bx 1) = meas q := by
        rw [b1', ← hq]; exact measB_px
      have k2 : ∀ e k sz ty, measB p.l.length ⟨e, k, sz, ty, [px q4]⟩ = meas q4 := fun e k sz ty => by rw [← l9]; exact measB_px
      refine ⟨⟨xs ++ [z], q4, u, _, rfl, rfl, hu2 _ _, .inr ⟨57, e', by simp, rfl, by simp [upd, g1]⟩, l9, by rw [List.length_append, List.length_cons, List.length_nil]; omega, htot⟩, ?_⟩
      rw [k1]
      exact Nat.lt_of_le_of_lt (Nat.le_of_eq (k2 _ _ _ _)) st2
    | false =>
      rw [loop_stop h] at htot
      injection htot with t1 t2
      have t1' := t1.symm
      have t2' := t2.symm
      subst t1'; subst t2'
      simp (maxSteps := 1000000) (disch := omega) only [go_sem, reduceIte, Nat.reduceEqDiff, Nat.reduceAdd, Nat.reduceLeDiff, Nat.reduceLT, Nat.reduceSub, Int.reduceLT, Int.reduceLE, Int.reduceEq, Int.reduceToNat, Option.map_some, List.length_map, List.getElem?_map, Int.toNat_natCast, h1, h2, h3, h4, b1', px]
      refine cD_loop (fun σ bx => ∃ (xs : List Rule) (q : RP) (u w v : D), σ 1 = .loc 1 1 0 0 ∧ σ 2 = .loc 2 1 0 0 ∧ σ 3 = .loc 3 1 0 0 ∧ σ 4 = .loc 4 1 0 0 ∧ bx 1 = ⟨1, 1, 5, 59, [px q]⟩ ∧ bx 2 = ⟨1, 1, 6, 27, [.agg [.str [], .nilsl, .str [], .int .i64 0, .nilsl, .nilsl]]⟩ ∧ bx 3 = ⟨1, 1, 5, 59, [.agg [.nilsl, .int .i64 0, .int .i64 0, .bool false, .int .i64 0]]⟩ ∧ bx 4 = ⟨1, 1, 6, 27, [.agg [.str n, u, .str s, .int .i64 0, w, v]]⟩ ∧ OwnV bx [33] 9 1 u (cs.map D.str) ∧ OwnV bx [57] 52 5 w (es.map Entry.d) ∧ OwnV bx [71] 68 5 v (xs.map Rule.d) ∧ q.l = p.l ∧ xs.length + meas q ≤ 1 + p.l.length ∧ loopR (nextR 1 wRule) ruleR (meas q) xs q = (rs, p7)) (fun _ bx => measB p.l.length (bx 1)) ⟨[], p6, u, v, _, by simp [go_sem, h1], by simp [go_sem, h2], by simp [go_sem, h3], by simp [go_sem, h4], b1', b2', b3', b4', hu, hv, .inl ⟨rfl, rfl⟩, l6, by simp; omega, e7⟩ ?_
      clear h1 h2 h3 h4 b1' b2' b3' b4' hv hu v1 v2 v3 u1 u2 u3 u v hq hlen c10 h t1 t2 σ bx
      rintro σ bx ⟨xs, q, u, w, v, h1, h2, h3, h4, b1', b2', b3', b4', hu, hw, hv, hq, hlen, htot⟩
      obtain ⟨v1, v2, v3⟩ := hv.facts
      obtain ⟨u1, u2, u3⟩ := hu.facts
      obtain ⟨x1, x2, x3⟩ := hw.facts
      have c10 := isWord_rc q wRule
      simp (maxSteps := 1000000) (disch := omega) only [go_sem, reduceIte, Nat.reduceEqDiff, Nat.reduceAdd, Nat.reduceLeDiff, Nat.reduceLT, Nat.reduceSub, Int.reduceLT, Int.reduceLE, Int.reduceEq, Int.reduceToNat, Option.map_some, List.length_map, List.getElem?_map, Int.toNat_natCast, h1, h2, h3, h4, b1', px]
      refine call_pure c10 (px_pure2 _ _) ?_
      cases h : nextR 1 wRule q with
      | true =>
        obtain ⟨st1, st2⟩ := loop_step (fun p hp => next_bad hp) dec_rule h xs
        rw [st1] at htot
        obtain ⟨z, q4, e9⟩ : ∃ s r, ruleR q = (s, r) := ⟨_, _, rfl⟩
        rw [e9] at htot st2
        have l9 : q4.l = p.l := by have := (dec_rule q).1; rw [e9] at this; exact this.trans hq
        simp only at htot st2
        have c11 := rule_rc q (by rw [hq]; exact hl)
        rw [e9] at c11
        have hzd : z.d = .agg [.str z.cat, .int .i64 z.no, .sl 3 (z.parts.map Part.d), .sl 2 (z.gives.map Give.d), .int .i64 z.cost] := rfl
        rw [hzd] at c11
        have hzp : D.pure (.agg [.str z.cat, .int .i64 z.no, .sl 3 (z.parts.map Part.d), .sl 2 (z.gives.map Give.d), .int .i64 z.cost]) = true := by simp [D.pure, D.pureL, pure_part, pure_give]
        simp (maxSteps := 1000000) (disch := omega) only [go_sem, reduceIte, Nat.reduceEqDiff, Nat.reduceAdd, Nat.reduceLeDiff, Nat.reduceLT, Nat.reduceSub, Int.reduceLT, Int.reduceLE, Int.reduceEq, Int.reduceToNat, Option.map_some, List.length_map, List.getElem?_map, Int.toNat_natCast, h1, h2, h3, h4, b1', px]
        refine call_pure c11 (px_pure1 _) ?_
        simp (maxSteps := 1000000) (disch := omega) only [go_sem, reduceIte, Nat.reduceEqDiff, Nat.reduceAdd, Nat.reduceLeDiff, Nat.reduceLT, Nat.reduceSub, Int.reduceLT, Int.reduceLE, Int.reduceEq, Int.reduceToNat, Option.map_some, List.length_map, List.getElem?_map, Int.toNat_natCast, h1, h2, h3, h4, b1', b2', b3', b4', px, v1, v2, v3, u1, u2, u3, x1, x2, x3, hzp]
        refine append_own (hv.of fun t ht => ?_) (by simp) (by simp [go_sem]) (by simp; omega) (by omega) (by omega) (fun q hq => Nat.zero_le _) (fun e' b1 g1 g2 => ?_)
        · have ht' : t = 71 := by simpa using ht
          subst ht'
          simp [upd]
        have w1 : b1 1 = ⟨1, 1, 5, 59, [px q]⟩ := by rw [g2 1 (by decide) (by decide)]; simp [upd, b1']
        have w2 : b1 2 = ⟨1, 1, 6, 27, [.agg [.str [], .nilsl, .str [], .int .i64 0, .nilsl, .nilsl]]⟩ := by rw [g2 2 (by decide) (by decide)]; simp [upd, b2']
        have w3 : b1 3 = ⟨1, 1, 5, 59, [.agg [.nilsl, .int .i64 0, .int .i64 0, .bool false, .int .i64 0]]⟩ := by rw [g2 3 (by decide) (by decide)]; simp [upd, b3']
        have w4 : b1 4 = ⟨1, 1, 6, 27, [.agg [.str n, u, .str s, .int .i64 0, w, v]]⟩ := by rw [g2 4 (by decide) (by decide)]; simp [upd, b4']
        have w7 := (g2 10 (by decide) (by decide)).trans (upd_same _ _ _)
        have hu1 : OwnV b1 [33] 9 1 u (cs.map D.str) := hu.of fun t ht => by
          have ht' : t = 33 := by simpa using ht
          subst ht'
          rw [g2 _ (by decide) (by decide)]
          simp [upd]
        have hu2 : ∀ a b, OwnV (upd (upd b1 4 a) 1 b) [33] 9 1 u (cs.map D.str) := fun a b => hu1.of fun t ht => by
          have ht' : t = 33 := by simpa using ht
          subst ht'
          simp [upd]
        have hw1 : OwnV b1 [57] 52 5 w (es.map Entry.d) := hw.of fun t ht => by
          have ht' : t = 57 := by simpa using ht
          subst ht'
          rw [g2 _ (by decide) (by decide)]
          simp [upd]
        have hw2 : ∀ a b, OwnV (upd (upd b1 4 a) 1 b) [57] 52 5 w (es.map Entry.d) := fun a b => hw1.of fun t ht => by
          have ht' : t = 57 := by simpa using ht
          subst ht'
          simp [upd]
        clear g2
        simp (maxSteps := 1000000) (disch := omega) only [go_sem, reduceIte, Nat.reduceEqDiff, Nat.reduceAdd, Nat.reduceLeDiff, Nat.reduceLT, Nat.reduceSub, Int.reduceLT, Int.reduceLE, Int.reduceEq, Int.reduceToNat, Option.map_some, List.length_map, List.getElem?_map, Int.toNat_natCast, h1, h2, h3, h4, w1, w2, w3, w4, w7, g1, v1, v2, v3, u1, u2, u3, x1, x2, x3, px]
        have hm : xs.map Rule.d ++ [.agg [.str z.cat, .int .i64 z.no, .sl 3 (z.parts.map Part.d), .sl 2 (z.gives.map Give.d), .int .i64 z.cost]] = (xs ++ [z]).map Rule.d := by rw [List.map_append]; rfl
        rw [hm] at g1 ⊢
        have k1 : measB p.l.length (bx 1) = meas q := by
          rw [b1', ← hq]; exact measB_px
        have k2 : ∀ e k sz ty, measB p.l.length ⟨e, k, sz, ty, [px q4]⟩ = meas q4 := fun e k sz ty => by rw [← l9]; exact measB_px
        refine ⟨⟨xs ++ [z], q4, u, w, _, rfl, rfl, hu2 _ _, hw2 _ _, .inr ⟨71, e', by simp, rfl, by simp [upd, g1]⟩, l9, by rw [List.length_append, List.length_cons, List.length_nil]; omega, htot⟩, ?_⟩
        rw [k1]
        exact Nat.lt_of_le_of_lt (Nat.le_of_eq (k2 _ _ _ _)) st2
      | false =>
        rw [loop_stop h] at htot
        injection htot with t1 t2
        have t1' := t1.symm
        have t2' := t2.symm
        subst t1'; subst t2'
        simp (maxSteps := 1000000) (disch := omega) only [go_sem, reduceIte, Nat.reduceEqDiff, Nat.reduceAdd, Nat.reduceLeDiff, Nat.reduceLT, Nat.reduceSub, Int.reduceLT, Int.reduceLE, Int.reduceEq, Int.reduceToNat, Option.map_some, List.length_map, List.getElem?_map, Int.toNat_natCast, h1, h2, h3, h4, b1', px]
        have hlt : p7.n < p7.l.length ∨ ¬ p7.n < p7.l.length := Classical.em _
        obtain ⟨r1, o1, o2⟩ := own_outs hu (pureL_strs _)
        obtain ⟨r2, o3, o4⟩ := own_outs hw (pure_ent _)
        obtain ⟨r3, o5, o6⟩ := own_outs hv (pure_rls _)
        have ho1 : ∀ a b, outD (upd (upd bx 2 a) 3 b) u = some r1 := fun a b => o2 _ fun t ht => by
          have ht' : t = 33 := by simpa using ht
          subst ht'
          simp [upd]
        have ho2 : ∀ a b, outD (upd (upd bx 2 a) 3 b) w = some r2 := fun a b => o4 _ fun t ht => by
          have ht' : t = 57 := by simpa using ht
          subst ht'
          simp [upd]
        have ho3 : ∀ a b, outD (upd (upd bx 2 a) 3 b) v = some r3 := fun a b => o6 _ fun t ht => by
          have ht' : t = 71 := by simpa using ht
          subst ht'
          simp [upd]
        rcases hlt with hlt | hlt
        · have hlt' : (p7.n : Int) < (p7.l.length : Int) := by omega
          rw [if_pos hlt]
          have cf := fail_rc p7
          simp (maxSteps := 1000000) (disch := omega) only [go_sem, reduceIte, Nat.reduceEqDiff, Nat.reduceAdd, Nat.reduceLeDiff, Nat.reduceLT, Nat.reduceSub, Int.reduceLT, Int.reduceLE, Int.reduceEq, Int.reduceToNat, Option.map_some, List.length_map, List.getElem?_map, Int.toNat_natCast, h1, h2, h3, h4, b1', b2', b3', b4', px, v1, v2, v3, u1, u2, u3, x1, x2, x3, hlt']
          refine call_pure cf (px_pure1 _) ?_
          simp (maxSteps := 1000000) (disch := omega) only [go_sem, reduceIte, Nat.reduceEqDiff, Nat.reduceAdd, Nat.reduceLeDiff, Nat.reduceLT, Nat.reduceSub, Int.reduceLT, Int.reduceLE, Int.reduceEq, Int.reduceToNat, Option.map_some, List.length_map, List.getElem?_map, Int.toNat_natCast, h1, h2, h3, h4, b1', b2', b3', b4', px, v1, v2, v3, u1, u2, u3, x1, x2, x3, ho1, ho2, ho3]
          exact WL.tup ⟨WL.agg ⟨.refl _, o1, .refl _, .refl _, o3, o5, trivial⟩, .refl _, trivial⟩
        · have hlt' : ¬ (p7.n : Int) < (p7.l.length : Int) := by omega
          rw [if_neg hlt]
          simp (maxSteps := 1000000) (disch := omega) only [go_sem, reduceIte, Nat.reduceEqDiff, Nat.reduceAdd, Nat.reduceLeDiff, Nat.reduceLT, Nat.reduceSub, Int.reduceLT, Int.reduceLE, Int.reduceEq, Int.reduceToNat, Option.map_some, List.length_map, List.getElem?_map, Int.toNat_natCast, h1, h2, h3, h4, b1', b2', b3', b4', px, v1, v2, v3, u1, u2, u3, x1, x2, x3, hlt', ho1, ho2, ho3]
          exact WL.tup ⟨WL.agg ⟨.refl _, o1, .refl _, .refl _, o3, o5, trivial⟩, .refl _, trivial⟩
theorem read_rc (p : RP) (hl : p.l.length ≤ 1000000) : CallsTo Tryz.prog 24 [px p] (.tup [(readR p).1.d, px (readR p).2]) := fn_calls mixed (read_r p hl) rfl (by kernel_rfl) rfl
end Go.V.Gr
