/-
  Grammar: the reference's entries.
-/
import Derived.Test.YtiolflfjekiboaaGreatDoorHf
namespace Go.V.Gr
open Go.Proofs Go.RowKit Go.V.Lx
set_option linter.unusedSimpArgs false
set_option linter.unusedVariables false
set_option maxRecDepth 100000

def WL : List D → List D → Prop
  | [], [] => True
  | a :: l, b :: m => Weak a b ∧ WL l m
  | _, _ => False
theorem WL.at : ∀ {l m : List D}, WL l m → l.length = m.length ∧ ∀ (i : Nat) x y, l[i]? = some x → m[i]? = some y → Weak x y
  | [], [], _ => ⟨rfl, fun i x y h _ => by simp at h⟩
  | a :: l, b :: m, h => by
    obtain ⟨h1, h2⟩ := WL.at h.2
    refine ⟨by simp [h1], fun i x y hx hy => ?_⟩
    cases i with
    | zero => simp at hx hy; subst hx; subst hy; exact h.1
    | succ i => simp at hx hy; exact h2 i x y hx hy
  | [], _ :: _, h => h.elim
  | _ :: _, [], h => h.elim
theorem WL.agg {l m : List D} (h : WL l m) : Weak (.agg l) (.agg m) := .agg h.at.1 h.at.2
theorem WL.tup {l m : List D} (h : WL l m) : Weak (.tup l) (.tup m) := .tup h.at.1 h.at.2
theorem own_outs {bx : Bxs} {ts : List Nat} {el esz : Nat} {x : D} {xs : List D} (h : OwnV bx ts el esz x xs) (hp : D.pureL xs = true) : ∃ r, Weak r (.sl esz xs) ∧ ∀ bx' : Bxs, (∀ t, t ∈ ts → bx' t = bx t) → outD bx' x = some r := by
  rcases h with ⟨rfl, rfl⟩ | ⟨t, e, ht, rfl, hb⟩
  · exact ⟨.nilsl, .nil _, fun _ _ => outD_nilsl⟩
  · refine ⟨.sl esz xs, .refl _, fun bx' hb' => ?_⟩
    rw [outD_osl, hb' t ht, hb]
    exact outB_all _ _ _ _ _ _ (by decide) rfl hp
theorem keepW {k : Int} {t : Str} {p : RP} : (nameW k t p).2.l = p.l := (dec_nameW k t p).1
set_option maxHeartbeats 8000000 in
theorem entry_r (p : RP) (hl : p.l.length ≤ 1000000) : fnD Tryz.prog (orac Tryz.prog) [(11, [(2, 1)])] Tryz.f59 [px p] (.tup [(entryR p).1.d, px (entryR p).2]) := by
  refine fn_intro _ [.cell 2 52, .cell 3 59] _ rfl rfl rfl (by kernel_rfl) ?_
  have b0 : ∀ n, n ≤ 1000000 → n ≤ M := fun n h => by show n ≤ 140737488355328; omega
  obtain ⟨s1, p1, e1⟩ : ∃ s q, nameW 1 wWord p = (s, q) := ⟨_, _, rfl⟩
  obtain ⟨s2, p2, e2⟩ : ∃ s q, nameW 1 wIs p1 = (s, q) := ⟨_, _, rfl⟩
  obtain ⟨s3, p3, e3⟩ : ∃ s q, nameW 1 wGives p2 = (s, q) := ⟨_, _, rfl⟩
  obtain ⟨gs, p4, e4⟩ : ∃ s q, manyR (nextR 3 [44]) (nameW 3 [44]) [s3] p3 = (s, q) := ⟨_, _, rfl⟩
  obtain ⟨n, p5, e5⟩ : ∃ s q, costR p4 = (s, q) := ⟨_, _, rfl⟩
  have hE : entryR p = (⟨s1, s2, 0, gs, n⟩, p5) := by
    unfold entryR
    simp only [RS.bind, e1, e2, e3, e4, e5, RS.pure]
  rw [hE]
  have l1 : p1.l = p.l := by have := keepW (k := 1) (t := wWord) (p := p); rw [e1] at this; exact this
  have l2 : p2.l = p.l := by have := keepW (k := 1) (t := wIs) (p := p1); rw [e2] at this; exact this.trans l1
  have l3 : p3.l = p.l := by have := keepW (k := 1) (t := wGives) (p := p2); rw [e3] at this; exact this.trans l2
  have l4 : p4.l = p.l := by have := (low_many (more := nextR 3 [44]) (dec_nameW 3 [44]) [s3] p3).1; rw [e4] at this; exact this.trans l3
  have m3 : meas p3 ≤ 1 + p.l.length := by unfold meas; rw [l3]; split <;> omega
  have c1 := word_rc p wWord (b0 _ hl)
  have d1 := name_rc (expR 1 wWord p) (by rw [exp_len]; exact b0 _ hl)
  rw [show nameR (expR 1 wWord p) = (s1, p1) from e1] at d1
  have c2 := word_rc p1 wIs (by rw [l1]; exact b0 _ hl)
  have d2 := name_rc (expR 1 wIs p1) (by rw [exp_len, l1]; exact b0 _ hl)
  rw [show nameR (expR 1 wIs p1) = (s2, p2) from e2] at d2
  have c3 := word_rc p2 wGives (by rw [l2]; exact b0 _ hl)
  have d3 := name_rc (expR 1 wGives p2) (by rw [exp_len, l2]; exact b0 _ hl)
  rw [show nameR (expR 1 wGives p2) = (s3, p3) from e3] at d3
  have c5 := cost_rc p4 (by rw [l4]; exact b0 _ hl)
  rw [e5] at c5
  simp (maxSteps := 1000000) (disch := omega) only [go_sem, reduceIte, Nat.reduceEqDiff, Nat.reduceAdd, Nat.reduceLeDiff, Nat.reduceLT, Nat.reduceSub, Int.reduceLT, Int.reduceLE, Int.reduceEq, Int.reduceToNat, Option.map_some, List.length_map, List.getElem?_map, Int.toNat_natCast, px]
  refine call_pure c1 (px_pure2 _ _) ?_
  simp (maxSteps := 1000000) (disch := omega) only [go_sem, reduceIte, Nat.reduceEqDiff, Nat.reduceAdd, Nat.reduceLeDiff, Nat.reduceLT, Nat.reduceSub, Int.reduceLT, Int.reduceLE, Int.reduceEq, Int.reduceToNat, Option.map_some, List.length_map, List.getElem?_map, Int.toNat_natCast, px]
  refine call_pure d1 (px_pure1 _) ?_
  simp (maxSteps := 1000000) (disch := omega) only [go_sem, reduceIte, Nat.reduceEqDiff, Nat.reduceAdd, Nat.reduceLeDiff, Nat.reduceLT, Nat.reduceSub, Int.reduceLT, Int.reduceLE, Int.reduceEq, Int.reduceToNat, Option.map_some, List.length_map, List.getElem?_map, Int.toNat_natCast, px]
  refine call_pure c2 (px_pure2 _ _) ?_
  simp (maxSteps := 1000000) (disch := omega) only [go_sem, reduceIte, Nat.reduceEqDiff, Nat.reduceAdd, Nat.reduceLeDiff, Nat.reduceLT, Nat.reduceSub, Int.reduceLT, Int.reduceLE, Int.reduceEq, Int.reduceToNat, Option.map_some, List.length_map, List.getElem?_map, Int.toNat_natCast, px]
  refine call_pure d2 (px_pure1 _) ?_
  simp (maxSteps := 1000000) (disch := omega) only [go_sem, reduceIte, Nat.reduceEqDiff, Nat.reduceAdd, Nat.reduceLeDiff, Nat.reduceLT, Nat.reduceSub, Int.reduceLT, Int.reduceLE, Int.reduceEq, Int.reduceToNat, Option.map_some, List.length_map, List.getElem?_map, Int.toNat_natCast, px]
  refine call_pure c3 (px_pure2 _ _) ?_
  simp (maxSteps := 1000000) (disch := omega) only [go_sem, reduceIte, Nat.reduceEqDiff, Nat.reduceAdd, Nat.reduceLeDiff, Nat.reduceLT, Nat.reduceSub, Int.reduceLT, Int.reduceLE, Int.reduceEq, Int.reduceToNat, Option.map_some, List.length_map, List.getElem?_map, Int.toNat_natCast, px]
  refine call_pure d3 (px_pure1 _) ?_
  simp (maxSteps := 1000000) (disch := omega) only [go_sem, reduceIte, Nat.reduceEqDiff, Nat.reduceAdd, Nat.reduceLeDiff, Nat.reduceLT, Nat.reduceSub, Int.reduceLT, Int.reduceLE, Int.reduceEq, Int.reduceToNat, Option.map_some, List.length_map, List.getElem?_map, Int.toNat_natCast, px]
  refine append_own (xs := []) (ts := []) (OwnV.nil _ _ _ _) (by simp) (by simp [go_sem]) (by simp) (by omega) (by omega) (fun q hq => Nat.zero_le _) (fun e' b1 g1 g2 => ?_)
  have w1 : b1 1 = ⟨1, 1, 5, 59, [px p3]⟩ := by rw [g2 1 (by decide) (by decide)]; simp [upd, px]
  have w2 : b1 2 = ⟨1, 1, 5, 52, [.agg [.str [], .str [], .int .i64 0, .nilsl, .int .i64 0]]⟩ := by rw [g2 2 (by decide) (by decide)]; simp [upd]
  have w3 : b1 3 = ⟨1, 1, 5, 59, [.agg [.nilsl, .int .i64 0, .int .i64 0, .bool false, .int .i64 0]]⟩ := by rw [g2 3 (by decide) (by decide)]; simp [upd]
  have w4 : b1 4 = ⟨1, 1, 5, 52, [.agg [.str s1, .str s2, .int .i64 0, .nilsl, .int .i64 0]]⟩ := by rw [g2 4 (by decide) (by decide)]; simp [upd]
  clear g2
  simp (maxSteps := 1000000) (disch := omega) only [go_sem, reduceIte, Nat.reduceEqDiff, Nat.reduceAdd, Nat.reduceLeDiff, Nat.reduceLT, Nat.reduceSub, Int.reduceLT, Int.reduceLE, Int.reduceEq, Int.reduceToNat, Option.map_some, List.length_map, List.getElem?_map, Int.toNat_natCast, w1, w2, w3, w4, g1]
  refine cD_loop (fun σ bx => ∃ (xs : List Str) (q : RP) (v : D), σ 1 = .loc 1 1 0 0 ∧ σ 2 = .loc 2 1 0 0 ∧ σ 3 = .loc 3 1 0 0 ∧ σ 4 = .loc 4 1 0 0 ∧ bx 1 = ⟨1, 1, 5, 59, [px q]⟩ ∧ bx 2 = ⟨1, 1, 5, 52, [.agg [.str [], .str [], .int .i64 0, .nilsl, .int .i64 0]]⟩ ∧ bx 3 = ⟨1, 1, 5, 59, [.agg [.nilsl, .int .i64 0, .int .i64 0, .bool false, .int .i64 0]]⟩ ∧ bx 4 = ⟨1, 1, 5, 52, [.agg [.str s1, .str s2, .int .i64 0, v, .int .i64 0]]⟩ ∧ OwnV bx [33, 47] 9 1 v (xs.map D.str) ∧ q.l = p.l ∧ xs.length + meas q ≤ 2 + p.l.length ∧ loopR (nextR 3 [44]) (nameW 3 [44]) (meas q) xs q = (gs, p4)) (fun _ bx => measB p.l.length (bx 1)) ⟨[s3], p3, _, by simp [go_sem], by simp [go_sem], by simp [go_sem], by simp [go_sem], by simp [upd, w1], by simp [upd, w2], by simp [upd, w3], by simp [upd], .inr ⟨33, e', by simp, rfl, by simp [upd, g1]⟩, l3, by simp; omega, e4⟩ ?_
  rintro σ bx ⟨xs, q, v, h1, h2, h3, h4, b1', b2', b3', b4', hv, hq, hlen, htot⟩
  obtain ⟨v1, v2, v3⟩ := hv.facts
  have c6 := isSign_rc q [44]
  simp (maxSteps := 1000000) (disch := omega) only [go_sem, reduceIte, Nat.reduceEqDiff, Nat.reduceAdd, Nat.reduceLeDiff, Nat.reduceLT, Nat.reduceSub, Int.reduceLT, Int.reduceLE, Int.reduceEq, Int.reduceToNat, Option.map_some, List.length_map, List.getElem?_map, Int.toNat_natCast, h1, h2, h3, h4, b1', px]
  refine call_pure c6 (px_pure2 _ _) ?_
  cases h : nextR 3 [44] q with
  | false =>
    rw [loop_stop h] at htot
    injection htot with t1 t2
    subst t1; subst t2
    simp (maxSteps := 1000000) (disch := omega) only [go_sem, reduceIte, Nat.reduceEqDiff, Nat.reduceAdd, Nat.reduceLeDiff, Nat.reduceLT, Nat.reduceSub, Int.reduceLT, Int.reduceLE, Int.reduceEq, Int.reduceToNat, Option.map_some, List.length_map, List.getElem?_map, Int.toNat_natCast, h1, h2, h3, h4, b1', px]
    refine call_pure c5 (px_pure1 _) ?_
    simp (maxSteps := 1000000) (disch := omega) only [go_sem, reduceIte, Nat.reduceEqDiff, Nat.reduceAdd, Nat.reduceLeDiff, Nat.reduceLT, Nat.reduceSub, Int.reduceLT, Int.reduceLE, Int.reduceEq, Int.reduceToNat, Option.map_some, List.length_map, List.getElem?_map, Int.toNat_natCast, h1, h2, h3, h4, b1', b2', b3', b4', px, v1, v2, v3]
    obtain ⟨r, o1, o2⟩ := own_outs hv (pureL_strs xs)
    have ho : ∀ a b c d, outD (upd (upd (upd (upd bx 4 a) 1 b) 2 c) 3 d) v = some r := fun a b c d => o2 _ fun t ht => by
      simp at ht
      rcases ht with rfl | rfl <;> simp [upd]
    simp (maxSteps := 1000000) (disch := omega) only [go_sem, reduceIte, Nat.reduceEqDiff, Nat.reduceAdd, Nat.reduceLeDiff, Nat.reduceLT, Nat.reduceSub, Int.reduceLT, Int.reduceLE, Int.reduceEq, Int.reduceToNat, Option.map_some, List.length_map, List.getElem?_map, Int.toNat_natCast, ho]
    exact WL.tup ⟨WL.agg ⟨.refl _, .refl _, .refl _, o1, .refl _, trivial⟩, .refl _, trivial⟩
  | true =>
    obtain ⟨st1, st2⟩ := loop_step (fun p hp => next_bad hp) (dec_nameW 3 [44]) h xs
    rw [st1] at htot
    obtain ⟨s4, q4, e6⟩ : ∃ s r, nameW 3 [44] q = (s, r) := ⟨_, _, rfl⟩
    rw [e6] at htot st2
    have c7 := sign_rc q [44] (by rw [hq]; exact b0 _ hl)
    have d7 := name_rc (expR 3 [44] q) (by rw [exp_len, hq]; exact b0 _ hl)
    rw [show nameR (expR 3 [44] q) = (s4, q4) from e6] at d7
    have l6 : q4.l = p.l := by have := keepW (k := 3) (t := [44]) (p := q); rw [e6] at this; exact this.trans hq
    simp only at htot st2
    simp (maxSteps := 1000000) (disch := omega) only [go_sem, reduceIte, Nat.reduceEqDiff, Nat.reduceAdd, Nat.reduceLeDiff, Nat.reduceLT, Nat.reduceSub, Int.reduceLT, Int.reduceLE, Int.reduceEq, Int.reduceToNat, Option.map_some, List.length_map, List.getElem?_map, Int.toNat_natCast, h1, h2, h3, h4, b1', px]
    refine call_pure c7 (px_pure2 _ _) ?_
    simp (maxSteps := 1000000) (disch := omega) only [go_sem, reduceIte, Nat.reduceEqDiff, Nat.reduceAdd, Nat.reduceLeDiff, Nat.reduceLT, Nat.reduceSub, Int.reduceLT, Int.reduceLE, Int.reduceEq, Int.reduceToNat, Option.map_some, List.length_map, List.getElem?_map, Int.toNat_natCast, h1, h2, h3, h4, b1', px]
    refine call_pure d7 (px_pure1 _) ?_
    simp (maxSteps := 1000000) (disch := omega) only [go_sem, reduceIte, Nat.reduceEqDiff, Nat.reduceAdd, Nat.reduceLeDiff, Nat.reduceLT, Nat.reduceSub, Int.reduceLT, Int.reduceLE, Int.reduceEq, Int.reduceToNat, Option.map_some, List.length_map, List.getElem?_map, Int.toNat_natCast, h1, h2, h3, h4, b1', b2', b3', b4', px, v1, v2, v3]
    refine append_own (hv.of fun t ht => ?_) (by simp) (by simp [go_sem]) (by simp; omega) (by omega) (by omega) (fun q hq => Nat.zero_le _) (fun e' b1 g1 g2 => ?_)
    · simp at ht
      rcases ht with rfl | rfl <;> simp [upd]
    have w1 : b1 1 = ⟨1, 1, 5, 59, [px q]⟩ := by rw [g2 1 (by decide) (by decide)]; simp [upd, b1']
    have w2 := (g2 2 (by decide) (by decide)).trans (((upd_ne (by decide)).trans (upd_ne (by decide))).trans b2')
    have w3 := (g2 3 (by decide) (by decide)).trans (((upd_ne (by decide)).trans (upd_ne (by decide))).trans b3')
    have w4 := (g2 4 (by decide) (by decide)).trans (((upd_ne (by decide)).trans (upd_ne (by decide))).trans b4')
    have w7 := (g2 7 (by decide) (by decide)).trans (upd_same _ _ _)
    clear g2
    simp (maxSteps := 1000000) (disch := omega) only [go_sem, reduceIte, Nat.reduceEqDiff, Nat.reduceAdd, Nat.reduceLeDiff, Nat.reduceLT, Nat.reduceSub, Int.reduceLT, Int.reduceLE, Int.reduceEq, Int.reduceToNat, Option.map_some, List.length_map, List.getElem?_map, Int.toNat_natCast, h1, h2, h3, h4, w1, w2, w3, w4, w7, g1, v1, v2, v3, px]
    have hm : xs.map D.str ++ [.str s4] = (xs ++ [s4]).map D.str := by simp
    rw [hm] at g1 ⊢
    have k1 : measB p.l.length (bx 1) = meas q := by
      rw [b1', ← hq]; exact measB_px
    have k2 : ∀ e k sz ty, measB p.l.length ⟨e, k, sz, ty, [px q4]⟩ = meas q4 := fun e k sz ty => by rw [← l6]; exact measB_px
    refine ⟨⟨xs ++ [s4], q4, _, rfl, rfl, .inr ⟨47, e', by simp, rfl, by simp [upd, g1]⟩, l6, by rw [List.length_append, List.length_cons, List.length_nil]; omega, htot⟩, ?_⟩
    rw [k1]
    exact Nat.lt_of_le_of_lt (Nat.le_of_eq (k2 _ _ _ _)) st2
theorem entry_rc (p : RP) (hl : p.l.length ≤ 1000000) : CallsTo Tryz.prog 59 [px p] (.tup [(entryR p).1.d, px (entryR p).2]) := fn_calls mixed (entry_r p hl) rfl (by kernel_rfl) rfl
end Go.V.Gr
