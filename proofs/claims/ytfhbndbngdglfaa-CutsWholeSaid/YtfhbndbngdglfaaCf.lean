/-
  Cuts: Then of the program, on data.
-/
import Derived.Test.YtfhbndbngdglfaaCe
namespace Go.V.Cu
open Go.Proofs Go.RowKit
set_option linter.unusedSimpArgs false
set_option linter.unusedVariables false

theorem foldl_len (l acc : List Span) : acc.length ≤ (l.foldl addZ acc).length := by
  induction l generalizing acc with
  | nil => simp
  | cons x l ih =>
    have h1 := ih (addZ acc x)
    have h2 := (addZ_len acc x).1
    simp only [List.foldl_cons]; omega
theorem joinZ_append (l m : List Span) : joinZ (l ++ m) = m.foldl addZ (joinZ l) := by simp [joinZ]
theorem then_len (a b : List Span) (k : Nat) : (joinZ ((b.take k).flatMap fun x => shownZ x 0 a)).length ≤ (thenZ a b).length := by
  have : thenZ a b = ((b.drop k).flatMap fun x => shownZ x 0 a).foldl addZ (joinZ ((b.take k).flatMap fun x => shownZ x 0 a)) := by
    rw [← joinZ_append, ← List.flatMap_append, List.take_append_drop]; rfl
  rw [this]; exact foldl_len _ _
theorem outD_cut {bx : Bxs} {v : D} {acc : List Span} {s : Nat} (h : OwnS bx s 41 2 v (acc.map Span.d)) : ∃ r, outD bx v = some r ∧ Weak r (spans acc) := h.toV.out (pureL_spans _)

theorem then_d (a b : List Span) (ha : a.length ≤ 140737488351232) (hb : b.length ≤ 140737488351232) : fnD Try.prog (orac Try.prog) [] Try.f18 [spans a, spans b] (thenD (then_ a b)) := by
  refine fn_intro _ [.tmp 4, .tmp 5] 53 rfl rfl rfl (by kernel_rfl) ?_
  simp (disch := omega) only [go_sem, reduceIte, Nat.reduceEqDiff, Nat.reduceAdd, Nat.reduceLeDiff, Nat.reduceLT, Nat.reduceSub, Int.reduceLT, Int.reduceLE, Int.reduceEq, Int.reduceToNat, Option.map_some, List.length_map, List.getElem?_map, Int.toNat_natCast]
  refine call_pure (check_c a ha) (by simp [go_sem, spans]) ?_
  simp (disch := omega) only [go_sem, reduceIte, Nat.reduceEqDiff, Nat.reduceAdd, Nat.reduceLeDiff, Nat.reduceLT, Nat.reduceSub, Int.reduceLT, Int.reduceLE, Int.reduceEq, Int.reduceToNat, Option.map_some, List.length_map, List.getElem?_map, Int.toNat_natCast]
  refine condD_dec (fun h => ?_) (fun h => ?_)
  case refine_2 =>
    simp (disch := omega) only [go_sem, reduceIte, Nat.reduceEqDiff, Nat.reduceAdd, Nat.reduceLeDiff, Nat.reduceLT, Nat.reduceSub, Int.reduceLT, Int.reduceLE, Int.reduceEq, Int.reduceToNat, Option.map_some, List.length_map, List.getElem?_map, Int.toNat_natCast, h]
    simp only [then_, h, thenD, ne_eq, not_false_eq_true, if_true]
    exact weak_tup2 (.nil _) (.refl _)
  simp (disch := omega) only [go_sem, reduceIte, Nat.reduceEqDiff, Nat.reduceAdd, Nat.reduceLeDiff, Nat.reduceLT, Nat.reduceSub, Int.reduceLT, Int.reduceLE, Int.reduceEq, Int.reduceToNat, Option.map_some, List.length_map, List.getElem?_map, Int.toNat_natCast]
  refine call_pure (check_c b hb) (by simp [go_sem, spans]) ?_
  simp (disch := omega) only [go_sem, reduceIte, Nat.reduceEqDiff, Nat.reduceAdd, Nat.reduceLeDiff, Nat.reduceLT, Nat.reduceSub, Int.reduceLT, Int.reduceLE, Int.reduceEq, Int.reduceToNat, Option.map_some, List.length_map, List.getElem?_map, Int.toNat_natCast]
  refine condD_dec (fun h2 => ?_) (fun h2 => ?_)
  case refine_2 =>
    simp (disch := omega) only [go_sem, reduceIte, Nat.reduceEqDiff, Nat.reduceAdd, Nat.reduceLeDiff, Nat.reduceLT, Nat.reduceSub, Int.reduceLT, Int.reduceLE, Int.reduceEq, Int.reduceToNat, Option.map_some, List.length_map, List.getElem?_map, Int.toNat_natCast, h2]
    simp only [then_, h, h2, thenD, ne_eq, not_true_eq_false, not_false_eq_true, if_false, if_true]
    exact weak_tup2 (.nil _) (.refl _)
  have ga := good_of_check h
  have gb := good_of_check h2
  have la := ga.1
  have lb := gb.1
  simp (disch := omega) only [go_sem, reduceIte, Nat.reduceEqDiff, Nat.reduceAdd, Nat.reduceLeDiff, Nat.reduceLT, Nat.reduceSub, Int.reduceLT, Int.reduceLE, Int.reduceEq, Int.reduceToNat, Option.map_some, List.length_map, List.getElem?_map, Int.toNat_natCast, spans]
  refine cD_for b.length (fun k σ bx => σ 0 = spans a ∧ σ 24 = spans b ∧ σ 25 = .int .i64 b.length ∧ σ 26 = .int .i64 k ∧ σ 6 = .loc 6 1 0 0 ∧ ∃ v, bx 6 = ⟨1, 1, 1, 46, [v]⟩ ∧ OwnS bx 44 41 2 v ((joinZ ((b.take k).flatMap fun x => shownZ x 0 a)).map Span.d) ∧ (joinZ ((b.take k).flatMap fun x => shownZ x 0 a)).length ≤ 256)
    ⟨by simp [go_sem, spans], by simp [go_sem, spans], by simp [go_sem], by simp [go_sem], by simp [go_sem], .nilsl, by simp [go_sem], OwnS.nil (by simp [go_sem]), by simp [joinZ]⟩ ?_ ?_
  · rintro k σ bx hk ⟨h0, h24, h25, h26, h6, v, b6, ov, hacc⟩
    obtain ⟨x, hx⟩ := get_lt hk
    have gx := good_at gb hx
    have htk : (b.take (k + 1)).flatMap (fun x => shownZ x 0 a) = (b.take k).flatMap (fun x => shownZ x 0 a) ++ shownZ x 0 a := by
      rw [List.take_add_one, hx, List.flatMap_append]; simp
    simp (disch := omega) only [go_sem, reduceIte, Nat.reduceEqDiff, Nat.reduceAdd, Nat.reduceLeDiff, Nat.reduceLT, Nat.reduceSub, Int.reduceLT, Int.reduceLE, Int.reduceEq, Int.reduceToNat, Option.map_some, List.length_map, List.getElem?_map, Int.toNat_natCast, h0, h24, h25, h26, h6, spans]
    refine condD_yes (by omega) ?_
    simp (disch := omega) only [go_sem, reduceIte, Nat.reduceEqDiff, Nat.reduceAdd, Nat.reduceLeDiff, Nat.reduceLT, Nat.reduceSub, Int.reduceLT, Int.reduceLE, Int.reduceEq, Int.reduceToNat, Option.map_some, List.length_map, List.getElem?_map, Int.toNat_natCast, h0, h24, h25, h26, h6, spans, hx, Span.d]
    refine call_pure (pieces_c a) (by simp [go_sem, spans]) ?_
    simp (disch := omega) only [go_sem, reduceIte, Nat.reduceEqDiff, Nat.reduceAdd, Nat.reduceLeDiff, Nat.reduceLT, Nat.reduceSub, Int.reduceLT, Int.reduceLE, Int.reduceEq, Int.reduceToNat, Option.map_some, List.length_map, List.getElem?_map, Int.toNat_natCast, h0, h24, h25, h26, h6]
    refine cD_range 30 [.cref (spans a) 0] (pieceItems a) 26 (fun n c => c 8 = ⟨(bx 8).ep + 1, 1, 2, 41, [x.d]⟩ ∧ c 9 = ⟨(bx 9).ep + 1, 1, 1, 48, [.fn (.func 26) [.loc 8 ((bx 8).ep + 1) 0 0]]⟩ ∧ ∃ acc v, c 6 = ⟨1, 1, 1, 46, [v]⟩ ∧ OwnS c 44 41 2 v (acc.map Span.d) ∧ acc.length ≤ 256 ∧ (shownZ x (lenZ (a.take n)) (a.drop n)).foldl addZ acc = joinZ ((b.take (k + 1)).flatMap fun x => shownZ x 0 a)) (by simp [go_sem]) (by simp [go_sem]) (pieces1_c a ga) ?_ ?_ ?_
    · simp (disch := omega) only [go_sem, reduceIte, Nat.reduceEqDiff, Nat.reduceAdd, Nat.reduceLeDiff, Nat.reduceLT, Nat.reduceSub, Int.reduceLT, Int.reduceLE, Int.reduceEq, Int.reduceToNat, Option.map_some, List.length_map, List.getElem?_map, Int.toNat_natCast, b6, h6, Span.d]
      refine ⟨joinZ ((b.take k).flatMap fun x => shownZ x 0 a), v, rfl, ?_, hacc, ?_⟩
      · exact ov.of (by simp [go_sem, upd])
      · rw [htk, joinZ_append]; rfl
    · rintro n it bx1 hi ⟨c8, c9, acc, w, c6, ow, hacc, hb⟩
      simp (disch := omega) only [go_sem, reduceIte, Nat.reduceEqDiff, Nat.reduceAdd, Nat.reduceLeDiff, Nat.reduceLT, Nat.reduceSub, Int.reduceLT, Int.reduceLE, Int.reduceEq, Int.reduceToNat, Option.map_some, List.length_map, List.getElem?_map, Int.toNat_natCast] at c8 c9 c6
      obtain ⟨y, hy, rfl⟩ := pieceItems_get hi
      replace ow := ow.of (bx' := bx1) (by simp [cutB])
      obtain ⟨v1, v2, v3⟩ := ow.toV.facts
      have gy := good_at ga hy
      have hz := lenZ_take_bound ga n
      rw [shownZ_at x hy] at hb
      refine ⟨rfl, ?_⟩
      simp (disch := omega) only [go_sem, reduceIte, Nat.reduceEqDiff, Nat.reduceAdd, Nat.reduceLeDiff, Nat.reduceLT, Nat.reduceSub, Int.reduceLT, Int.reduceLE, Int.reduceEq, Int.reduceToNat, Option.map_some, List.length_map, List.getElem?_map, Int.toNat_natCast, c8, c9, c6, v1, v2, v3, h6, Span.d]
      refine call_read (clip_c x y _ gx gy hz) (by simp (disch := omega) only [go_sem, reduceIte, Nat.reduceEqDiff, Nat.reduceAdd, Nat.reduceLeDiff, Nat.reduceLT, Nat.reduceSub, Int.reduceLT, Int.reduceLE, Int.reduceEq, Int.reduceToNat, Option.map_some, List.length_map, List.getElem?_map, Int.toNat_natCast, c8, Span.d]) (by simp [D.bare, D.bareL, Span.d]) ?_
      simp (disch := omega) only [go_sem, reduceIte, Nat.reduceEqDiff, Nat.reduceAdd, Nat.reduceLeDiff, Nat.reduceLT, Nat.reduceSub, Int.reduceLT, Int.reduceLE, Int.reduceEq, Int.reduceToNat, Option.map_some, List.length_map, List.getElem?_map, Int.toNat_natCast, c8, c9, c6, v1, v2, v3, h6, Span.d]
      refine condD_dec (fun h3 => ?_) (fun h3 => ?_)
      · rw [if_pos h3] at hb
        simp (disch := omega) only [go_sem, reduceIte, Nat.reduceEqDiff, Nat.reduceAdd, Nat.reduceLeDiff, Nat.reduceLT, Nat.reduceSub, Int.reduceLT, Int.reduceLE, Int.reduceEq, Int.reduceToNat, Option.map_some, List.length_map, List.getElem?_map, Int.toNat_natCast, c8, c9, c6, v1, v2, v3, h6]
        refine call_boxes (add_c 79 6 1 44 acc (clipZ x (lenZ (a.take n)) y) w _ (by omega) (by omega) (by omega) (by omega) (by simp [upd, c6]) (ow.of (by simp [upd]))) rfl ?_
        rintro d bx2 ⟨rfl, w2, g1, g2, g3⟩
        obtain ⟨w1, w2', w3⟩ := g2.toV.facts
        have hlen := g2.toV.len 41 16 true
        simp (disch := omega) only [go_sem, reduceIte, Nat.reduceEqDiff, Nat.reduceAdd, Nat.reduceLeDiff, Nat.reduceLT, Nat.reduceSub, Int.reduceLT, Int.reduceLE, Int.reduceEq, Int.reduceToNat, Option.map_some, List.length_map, List.getElem?_map, Int.toNat_natCast, g1, w1, w2', w3, h6, hlen]
        have hbig : 256 < (addZ acc (clipZ x (lenZ (a.take n)) y)).length → 256 < (thenZ a b).length := fun hl => by
          have l1 := foldl_len (shownZ x (lenZ (a.take (n + 1))) (a.drop (n + 1))) (addZ acc (clipZ x (lenZ (a.take n)) y))
          have l2 := then_len a b (k + 1)
          simp only [List.cons_append, List.nil_append, List.foldl_cons] at hb
          rw [hb] at l1
          omega
        refine condD_dec (fun h4 => ?_) (fun h4 => ?_)
        · simp (disch := omega) only [go_sem, reduceIte, Nat.reduceEqDiff, Nat.reduceAdd, Nat.reduceLeDiff, Nat.reduceLT, Nat.reduceSub, Int.reduceLT, Int.reduceLE, Int.reduceEq, Int.reduceToNat, Option.map_some, List.length_map, List.getElem?_map, Int.toNat_natCast]
          refine ⟨by (intro s q1 q2; simp (disch := omega) only [upd_ne, if_neg, g3]), fun bx3 hb3 => ?_⟩
          have e6 := cut_at (s := 6) hb3 (by omega)
          have e44 := cut_at (s := 44) hb3 (by omega)
          rw [g1] at e6
          have g2' := g2.of e44
          simp (disch := omega) only [go_sem, reduceIte, Nat.reduceEqDiff, Nat.reduceAdd, Nat.reduceLeDiff, Nat.reduceLT, Nat.reduceSub, Int.reduceLT, Int.reduceLE, Int.reduceEq, Int.reduceToNat, Option.map_some, List.length_map, List.getElem?_map, Int.toNat_natCast, e6, w1, w2', w3, h6, hlen]
          refine condD_yes h4 ?_
          simp (disch := omega) only [go_sem, reduceIte, Nat.reduceEqDiff, Nat.reduceAdd, Nat.reduceLeDiff, Nat.reduceLT, Nat.reduceSub, Int.reduceLT, Int.reduceLE, Int.reduceEq, Int.reduceToNat, Option.map_some, List.length_map, List.getElem?_map, Int.toNat_natCast]
          have e : then_ a b = ([], 2) := by
            unfold then_
            rw [if_neg (by simp [h]), if_neg (by simp [h2]), if_pos (hbig (by omega))]
          rw [e]
          exact weak_tup2 (.nil _) (.refl _)
        · simp (disch := omega) only [go_sem, reduceIte, Nat.reduceEqDiff, Nat.reduceAdd, Nat.reduceLeDiff, Nat.reduceLT, Nat.reduceSub, Int.reduceLT, Int.reduceLE, Int.reduceEq, Int.reduceToNat, Option.map_some, List.length_map, List.getElem?_map, Int.toNat_natCast]
          refine ⟨by (intro s q1 q2; simp (disch := omega) only [upd_ne, if_neg, g3]), ?_⟩
          simp (disch := omega) only [go_sem, reduceIte, Nat.reduceEqDiff, Nat.reduceAdd, Nat.reduceLeDiff, Nat.reduceLT, Nat.reduceSub, Int.reduceLT, Int.reduceLE, Int.reduceEq, Int.reduceToNat, Option.map_some, List.length_map, List.getElem?_map, Int.toNat_natCast, g3, c8, c9, g1, Span.d]
          refine ⟨_, w2, rfl, g2.of (by simp [cutB]), by omega, ?_⟩
          simpa using hb
      · rw [if_neg h3] at hb
        have hlen := ow.toV.len 41 16 true
        simp (disch := omega) only [go_sem, reduceIte, Nat.reduceEqDiff, Nat.reduceAdd, Nat.reduceLeDiff, Nat.reduceLT, Nat.reduceSub, Int.reduceLT, Int.reduceLE, Int.reduceEq, Int.reduceToNat, Option.map_some, List.length_map, List.getElem?_map, Int.toNat_natCast, c8, c9, c6, v1, v2, v3, h6, hlen]
        refine condD_no (by omega) ?_
        simp (disch := omega) only [go_sem, reduceIte, Nat.reduceEqDiff, Nat.reduceAdd, Nat.reduceLeDiff, Nat.reduceLT, Nat.reduceSub, Int.reduceLT, Int.reduceLE, Int.reduceEq, Int.reduceToNat, Option.map_some, List.length_map, List.getElem?_map, Int.toNat_natCast]
        refine ⟨by (intro s q1 q2; simp (disch := omega) only [upd_ne, if_neg]), ?_⟩
        simp (disch := omega) only [go_sem, reduceIte, Nat.reduceEqDiff, Nat.reduceAdd, Nat.reduceLeDiff, Nat.reduceLT, Nat.reduceSub, Int.reduceLT, Int.reduceLE, Int.reduceEq, Int.reduceToNat, Option.map_some, List.length_map, List.getElem?_map, Int.toNat_natCast, c8, c9, c6, Span.d]
        exact ⟨acc, w, rfl, ow.of (by simp [cutB, upd]), hacc, hb⟩
    · rintro bx1 ⟨c8, c9, acc, w, c6, ow, hacc, hb⟩
      simp (disch := omega) only [go_sem, reduceIte, Nat.reduceEqDiff, Nat.reduceAdd, Nat.reduceLeDiff, Nat.reduceLT, Nat.reduceSub, Int.reduceLT, Int.reduceLE, Int.reduceEq, Int.reduceToNat, Option.map_some, List.length_map, List.getElem?_map, Int.toNat_natCast] at c8 c9 c6
      replace ow := ow.of (bx' := bx1) (by simp [cutB])
      rw [List.drop_eq_nil_of_le (by simp [pieceItems_len]), shownZ, List.foldl_nil] at hb
      simp (disch := omega) only [go_sem, reduceIte, Nat.reduceEqDiff, Nat.reduceAdd, Nat.reduceLeDiff, Nat.reduceLT, Nat.reduceSub, Int.reduceLT, Int.reduceLE, Int.reduceEq, Int.reduceToNat, Option.map_some, List.length_map, List.getElem?_map, Int.toNat_natCast, h0, h24, h25, h26, h6]
      rw [wrap_succ (by omega)]
      refine ⟨rfl, rfl, rfl, w, c6, ?_, ?_⟩
      · rw [← hb]; exact ow
      · rw [← hb]; exact hacc
  · rintro σ bx ⟨h0, h24, h25, h26, h6, v, b6, ov, hacc⟩
    simp (disch := omega) only [go_sem, reduceIte, Nat.reduceEqDiff, Nat.reduceAdd, Nat.reduceLeDiff, Nat.reduceLT, Nat.reduceSub, Int.reduceLT, Int.reduceLE, Int.reduceEq, Int.reduceToNat, Option.map_some, List.length_map, List.getElem?_map, Int.toNat_natCast, h0, h24, h25, h26, h6]
    refine condD_no (by omega) ?_
    rw [List.take_length] at ov hacc
    obtain ⟨v1, v2, v3⟩ := ov.toV.facts
    have hlen := ov.toV.len 41 16 true
    simp (disch := omega) only [go_sem, reduceIte, Nat.reduceEqDiff, Nat.reduceAdd, Nat.reduceLeDiff, Nat.reduceLT, Nat.reduceSub, Int.reduceLT, Int.reduceLE, Int.reduceEq, Int.reduceToNat, Option.map_some, List.length_map, List.getElem?_map, Int.toNat_natCast, b6, v1, v2, v3, h6, hlen]
    refine condD_no (by omega) ?_
    obtain ⟨r, hr, hw⟩ := outD_cut ov
    simp (disch := omega) only [go_sem, reduceIte, Nat.reduceEqDiff, Nat.reduceAdd, Nat.reduceLeDiff, Nat.reduceLT, Nat.reduceSub, Int.reduceLT, Int.reduceLE, Int.reduceEq, Int.reduceToNat, Option.map_some, List.length_map, List.getElem?_map, Int.toNat_natCast, b6, v1, v2, v3, h6, hr]
    have e : then_ a b = (thenZ a b, 0) := by
      unfold then_
      rw [if_neg (by simp [h]), if_neg (by simp [h2]), if_neg (by unfold thenZ; omega)]
    rw [e]
    exact weak_tup2 hw (.refl _)
theorem then_c (a b : List Span) (ha : a.length ≤ 140737488351232) (hb : b.length ≤ 140737488351232) : CallsTo Try.prog 18 [spans a, spans b] (thenD (then_ a b)) := fn_calls mixed (then_d a b ha hb) rfl (by kernel_rfl) rfl
end Go.V.Cu
