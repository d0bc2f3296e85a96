/-
  Cuts: To and Then of the program, on data.
-/
import Derived.Test.YtfhbndbngdglfaaCd
namespace Go.V.Cu
open Go.Proofs Go.RowKit
set_option linter.unusedSimpArgs false
set_option linter.unusedVariables false

theorem to_d (l : List Span) (t : Int) (hl : l.length ≤ 140737488351232) : fnD Try.prog (orac Try.prog) [] Try.f13 [spans l, .int .i64 t] (toD (to l t)) := by
  refine fn_intro _ [.cell 4 28, .tmp 5] 46 rfl rfl rfl (by kernel_rfl) ?_
  simp (disch := omega) only [go_sem, reduceIte, Nat.reduceEqDiff, Nat.reduceAdd, Nat.reduceLeDiff, Nat.reduceLT, Nat.reduceSub, Int.reduceLT, Int.reduceLE, Int.reduceEq, Int.reduceToNat, Option.map_some, List.length_map, List.getElem?_map, Int.toNat_natCast, spans]
  refine call_pure (check_c l hl) (by simp [go_sem]) ?_
  simp (disch := omega) only [go_sem, reduceIte, Nat.reduceEqDiff, Nat.reduceAdd, Nat.reduceLeDiff, Nat.reduceLT, Nat.reduceSub, Int.reduceLT, Int.reduceLE, Int.reduceEq, Int.reduceToNat, Option.map_some, List.length_map, List.getElem?_map, Int.toNat_natCast, spans]
  refine condD_dec (fun h => ?_) (fun h => ?_)
  case refine_2 =>
    simp (disch := omega) only [go_sem, reduceIte, Nat.reduceEqDiff, Nat.reduceAdd, Nat.reduceLeDiff, Nat.reduceLT, Nat.reduceSub, Int.reduceLT, Int.reduceLE, Int.reduceEq, Int.reduceToNat, Option.map_some, List.length_map, List.getElem?_map, Int.toNat_natCast, h]
    simp only [to, h, toD, ne_eq, not_false_eq_true, if_true]
    exact weak_tup2 (.nil _) (.refl _)
  simp (disch := omega) only [go_sem, reduceIte, Nat.reduceEqDiff, Nat.reduceAdd, Nat.reduceLeDiff, Nat.reduceLT, Nat.reduceSub, Int.reduceLT, Int.reduceLE, Int.reduceEq, Int.reduceToNat, Option.map_some, List.length_map, List.getElem?_map, Int.toNat_natCast]
  have hg := good_of_check h
  refine call_pure (isTime_c t) (by simp [go_sem]) ?_
  simp (disch := omega) only [go_sem, reduceIte, Nat.reduceEqDiff, Nat.reduceAdd, Nat.reduceLeDiff, Nat.reduceLT, Nat.reduceSub, Int.reduceLT, Int.reduceLE, Int.reduceEq, Int.reduceToNat, Option.map_some, List.length_map, List.getElem?_map, Int.toNat_natCast]
  refine condD_split (fun h2 => ?_) (fun h2 => ?_)
  case refine_2 =>
    simp (disch := omega) only [go_sem, reduceIte, Nat.reduceEqDiff, Nat.reduceAdd, Nat.reduceLeDiff, Nat.reduceLT, Nat.reduceSub, Int.reduceLT, Int.reduceLE, Int.reduceEq, Int.reduceToNat, Option.map_some, List.length_map, List.getElem?_map, Int.toNat_natCast]
    simp only [to, h, h2, toD, ne_eq, not_true_eq_false, if_false, if_true]
    exact weak_tup2 (.nil _) (.refl _)
  have hu : 0 ≤ t ∧ t < 1099511627776 := by simpa [isTime] using h2
  simp (disch := omega) only [go_sem, reduceIte, Nat.reduceEqDiff, Nat.reduceAdd, Nat.reduceLeDiff, Nat.reduceLT, Nat.reduceSub, Int.reduceLT, Int.reduceLE, Int.reduceEq, Int.reduceToNat, Option.map_some, List.length_map, List.getElem?_map, Int.toNat_natCast]
  refine call_pure (pieces_c l) (by simp [go_sem]) ?_
  simp (disch := omega) only [go_sem, reduceIte, Nat.reduceEqDiff, Nat.reduceAdd, Nat.reduceLeDiff, Nat.reduceLT, Nat.reduceSub, Int.reduceLT, Int.reduceLE, Int.reduceEq, Int.reduceToNat, Option.map_some, List.length_map, List.getElem?_map, Int.toNat_natCast]
  refine cD_range 30 [.cref (spans l) 0] (pieceItems l) 26 (fun n c => c 3 = ⟨1, 1, 1, 3, [.int .i64 t]⟩ ∧ ∃ (acc : List Int) (v : D), acc.length ≤ n ∧ c 4 = ⟨1, 1, 1, 28, [v]⟩ ∧ OwnV c [44] 3 1 v (acc.map (D.int .i64)) ∧ acc ++ toZ t (lenZ (l.take n)) (l.drop n) = toZ t 0 l) (by simp [go_sem]) (by simp [go_sem]) (pieces1_c l hg) ?_ ?_ ?_
  · simp (disch := omega) only [go_sem, reduceIte, Nat.reduceEqDiff, Nat.reduceAdd, Nat.reduceLeDiff, Nat.reduceLT, Nat.reduceSub, Int.reduceLT, Int.reduceLE, Int.reduceEq, Int.reduceToNat, Option.map_some, List.length_map, List.getElem?_map, Int.toNat_natCast]
    exact ⟨[], .nilsl, by simp, rfl, OwnV.nil _ _ _ _, by simp [lenZ]⟩
  · rintro n it bx1 hi ⟨c3, acc, v, hacc, c4, cv, hb⟩
    simp (disch := omega) only [go_sem, reduceIte, Nat.reduceEqDiff, Nat.reduceAdd, Nat.reduceLeDiff, Nat.reduceLT, Nat.reduceSub, Int.reduceLT, Int.reduceLE, Int.reduceEq, Int.reduceToNat, Option.map_some, List.length_map, List.getElem?_map, Int.toNat_natCast] at c3 c4
    replace cv := cv.uncut (by simp)
    obtain ⟨v1, v2, v3⟩ := cv.facts
    obtain ⟨x, hx, rfl⟩ := pieceItems_get hi
    have gx := good_at hg hx
    have hz := lenZ_take_bound hg n
    have hl := hg.1
    have hn : n < l.length := (List.getElem?_eq_some_iff.1 hx).1
    unfold Span.good at gx
    rw [toZ_at t hx] at hb
    refine ⟨rfl, ?_⟩
    simp (disch := omega) only [go_sem, reduceIte, Nat.reduceEqDiff, Nat.reduceAdd, Nat.reduceLeDiff, Nat.reduceLT, Nat.reduceSub, Int.reduceLT, Int.reduceLE, Int.reduceEq, Int.reduceToNat, Option.map_some, List.length_map, List.getElem?_map, Int.toNat_natCast, c3, c4, Span.d]
    rw [wrap_i64 (n := _ + t) (by omega) (by omega), wrap_i64 (by omega) (by omega)]
    have no : ¬ (x.f ≤ t ∧ t < x.u ∧ isTime (lenZ (l.take n) + t - x.f) = true) → acc ++ toZ t (lenZ (l.take (n + 1))) (l.drop (n + 1)) = toZ t 0 l := by
      intro hn; rw [if_neg hn] at hb; exact hb
    have cv' : ∀ bx2 : Bxs, bx2 44 = bx1 44 → OwnV (cutB 46 bx2) [44] 3 1 v (acc.map (D.int .i64)) := fun bx2 h44 => (cv.of (by simpa using h44)).cut (by simp)
    refine condD_dec (fun h3 => ?_) (fun h3 => ?_)
    · simp (disch := omega) only [go_sem, reduceIte, Nat.reduceEqDiff, Nat.reduceAdd, Nat.reduceLeDiff, Nat.reduceLT, Nat.reduceSub, Int.reduceLT, Int.reduceLE, Int.reduceEq, Int.reduceToNat, Option.map_some, List.length_map, List.getElem?_map, Int.toNat_natCast, h3, c3, c4]
      refine condD_dec (fun h4 => ?_) (fun h4 => ?_)
      · simp (disch := omega) only [go_sem, reduceIte, Nat.reduceEqDiff, Nat.reduceAdd, Nat.reduceLeDiff, Nat.reduceLT, Nat.reduceSub, Int.reduceLT, Int.reduceLE, Int.reduceEq, Int.reduceToNat, Option.map_some, List.length_map, List.getElem?_map, Int.toNat_natCast, h3, h4, c3, c4]
        refine call_pure (isTime_c _) (by simp [go_sem]) ?_
        simp (disch := omega) only [go_sem, reduceIte, Nat.reduceEqDiff, Nat.reduceAdd, Nat.reduceLeDiff, Nat.reduceLT, Nat.reduceSub, Int.reduceLT, Int.reduceLE, Int.reduceEq, Int.reduceToNat, Option.map_some, List.length_map, List.getElem?_map, Int.toNat_natCast, h3, h4, c3, c4]
        refine condD_split (fun h5 => ?_) (fun h5 => ?_)
        · simp (disch := omega) only [go_sem, reduceIte, Nat.reduceEqDiff, Nat.reduceAdd, Nat.reduceLeDiff, Nat.reduceLT, Nat.reduceSub, Int.reduceLT, Int.reduceLE, Int.reduceEq, Int.reduceToNat, Option.map_some, List.length_map, List.getElem?_map, Int.toNat_natCast, c3, c4, v1, v2, v3]
          refine append_all (cv.of (by simp [upd])) (by simp [go_sem]) (by simp; omega) (by omega) (by omega) (by omega) (fun x' bx' hb1 hb2 => ?_)
          obtain ⟨w1, w2, w3⟩ := hb1.facts
          simp (disch := omega) only [go_sem, reduceIte, Nat.reduceEqDiff, Nat.reduceAdd, Nat.reduceLeDiff, Nat.reduceLT, Nat.reduceSub, Int.reduceLT, Int.reduceLE, Int.reduceEq, Int.reduceToNat, Option.map_some, List.length_map, List.getElem?_map, Int.toNat_natCast, c3, c4, hb2, v1, v2, v3, w1, w2, w3]
          refine ⟨by (intro s q1 q2; simp (disch := omega) only [upd_ne, if_neg, hb2]), acc ++ [lenZ (l.take n) + t - x.f], x', by simp; omega, rfl, ?_, ?_⟩
          · rw [List.map_append]
            exact (hb1.of (by simp [upd])).cut (by simp)
          · rw [if_pos ⟨by omega, by omega, h5⟩] at hb
            simpa using hb
        · simp (disch := omega) only [go_sem, reduceIte, Nat.reduceEqDiff, Nat.reduceAdd, Nat.reduceLeDiff, Nat.reduceLT, Nat.reduceSub, Int.reduceLT, Int.reduceLE, Int.reduceEq, Int.reduceToNat, Option.map_some, List.length_map, List.getElem?_map, Int.toNat_natCast, c3, c4]
          exact ⟨by (intro s q1 q2; simp (disch := omega) only [upd_ne, if_neg]), acc, v, by omega, rfl, cv' _ (by simp [upd]), no (by simp [h5])⟩
      · simp (disch := omega) only [go_sem, reduceIte, Nat.reduceEqDiff, Nat.reduceAdd, Nat.reduceLeDiff, Nat.reduceLT, Nat.reduceSub, Int.reduceLT, Int.reduceLE, Int.reduceEq, Int.reduceToNat, Option.map_some, List.length_map, List.getElem?_map, Int.toNat_natCast, h3, h4, c3, c4]
        exact ⟨by (intro s q1 q2; simp (disch := omega) only [upd_ne, if_neg]), acc, v, by omega, rfl, cv' _ (by simp [upd]), no (by omega)⟩
    · simp (disch := omega) only [go_sem, reduceIte, Nat.reduceEqDiff, Nat.reduceAdd, Nat.reduceLeDiff, Nat.reduceLT, Nat.reduceSub, Int.reduceLT, Int.reduceLE, Int.reduceEq, Int.reduceToNat, Option.map_some, List.length_map, List.getElem?_map, Int.toNat_natCast, h3, c3, c4]
      exact ⟨by (intro s q1 q2; simp (disch := omega) only [upd_ne, if_neg]), acc, v, by omega, rfl, cv' _ (by simp [upd]), no (by omega)⟩
  · rintro bx1 ⟨c3, acc, v, hacc, c4, cv, hb⟩
    simp (disch := omega) only [go_sem, reduceIte, Nat.reduceEqDiff, Nat.reduceAdd, Nat.reduceLeDiff, Nat.reduceLT, Nat.reduceSub, Int.reduceLT, Int.reduceLE, Int.reduceEq, Int.reduceToNat, Option.map_some, List.length_map, List.getElem?_map, Int.toNat_natCast] at c3 c4
    replace cv := cv.uncut (by simp)
    rw [List.drop_eq_nil_of_le (by simp [pieceItems_len]), toZ, List.append_nil] at hb
    obtain ⟨r, hr, hw⟩ := OwnV.out (bx := upd bx1 4 ⟨1, 1, 1, 28, [v]⟩) (cv.of (by simp [upd])) (pureL_ints _)
    obtain ⟨v1, v2, v3⟩ := cv.facts
    simp (disch := omega) only [go_sem, reduceIte, Nat.reduceEqDiff, Nat.reduceAdd, Nat.reduceLeDiff, Nat.reduceLT, Nat.reduceSub, Int.reduceLT, Int.reduceLE, Int.reduceEq, Int.reduceToNat, Option.map_some, List.length_map, List.getElem?_map, Int.toNat_natCast, c3, c4, v1, v2, v3, hr]
    simp only [to, h, h2, toD, ← hb, ne_eq, not_true_eq_false, if_false]
    exact weak_tup2 hw (.refl _)
theorem to_c (l : List Span) (t : Int) (hl : l.length ≤ 140737488351232) : CallsTo Try.prog 13 [spans l, .int .i64 t] (toD (to l t)) := fn_calls mixed (to_d l t hl) rfl (by kernel_rfl) rfl

theorem clip_d (x y : Span) (b : Int) (hx : x.good) (hy : y.good) (hb : 0 ≤ b ∧ b ≤ 281474976710656) : fnD Try.prog (orac Try.prog) [] Try.f26 [.int .i64 b, y.d, .cref x.d 0] (.tup [(clipZ x b y).d, .bool (decide ((clipZ x b y).f < (clipZ x b y).u))]) := by
  refine fn_intro _ [.cell 5 41, .tmp 6] _ rfl rfl rfl (by kernel_rfl) ?_
  unfold Span.good at hx hy
  simp (disch := omega) only [go_sem, reduceIte, Nat.reduceEqDiff, Nat.reduceAdd, Nat.reduceLeDiff, Nat.reduceLT, Nat.reduceSub, Int.reduceLT, Int.reduceLE, Int.reduceEq, Int.reduceToNat, Option.map_some, List.length_map, List.getElem?_map, Int.toNat_natCast, Span.d]
  rw [wrap_i64 (n := x.f - b) (by omega) (by omega), wrap_i64 (n := y.f + max _ _) (by omega) (by omega), wrap_i64 (n := y.f + x.u) (by omega) (by omega), wrap_i64 (by omega) (by omega)]
  exact .refl _
theorem clip_c (x y : Span) (b : Int) (hx : x.good) (hy : y.good) (hb : 0 ≤ b ∧ b ≤ 281474976710656) : CallsTo Try.prog 26 [.int .i64 b, y.d, .cref x.d 0] (.tup [(clipZ x b y).d, .bool (decide ((clipZ x b y).f < (clipZ x b y).u))]) := fn_calls mixed (clip_d x y b hx hy hb) rfl (by kernel_rfl) rfl

/-- what add leaves -/
def Added (t e s0 : Nat) (acc : List Span) (base : Nat) (bx : Bxs) (d : D) (bx' : Bxs) : Prop :=
  d = .tup [] ∧ ∃ v, bx' t = ⟨e, 1, 1, 46, [v]⟩ ∧ OwnS bx' s0 41 2 v (acc.map Span.d) ∧ ∀ s, s < base → s ≠ t → s ≠ s0 → bx' s = bx s
def Added0 (t e s0 : Nat) (acc : List Span) (base : Nat) (bx : Bxs) (d : D) (bx' : Bxs) : Prop :=
  d = .tup [] ∧ ∃ v, bx' t = ⟨e, 1, 1, 46, [v]⟩ ∧ (OwnS bx' s0 41 2 v (acc.map Span.d) ∨ ((bx' s0).k = 0 ∧ ∃ e', v = .osl (base + 39) e' 2 0 acc.length ∧ bx' (base + 39) = ⟨e', 1, 2, 41, acc.map Span.d⟩)) ∧ ∀ s, s < base → s ≠ t → s ≠ s0 → bx' s = bx s
theorem add_d (base t e s0 : Nat) (acc : List Span) (x : Span) (v : D) (bx : Bxs) (hacc : acc.length ≤ 65536) (h1 : t < base) (h2 : s0 < base) (h3 : s0 ≠ t) (hb : bx t = ⟨e, 1, 1, 46, [v]⟩) (hv : OwnS bx s0 41 2 v (acc.map Span.d)) :
    fnB Try.prog (orac Try.prog) [] Try.f27 base [.loc t e 0 0, x.d] bx (Added0 t e s0 (addZ acc x) base bx) := by
  refine fnB_intro _ [] 41 rfl rfl rfl (by kernel_rfl) ?_
  obtain ⟨v1, v2, v3⟩ := hv.toV.facts
  have hlen := hv.toV.len 41 16 true
  have n3 : t ≠ base + 3 := by omega
  have n4 : s0 ≠ base + 3 := by omega
  have n5 : t ≠ base + 39 := by omega
  have n6 : s0 ≠ base + 39 := by omega
  simp (disch := omega) only [go_sem, reduceIte, Nat.reduceEqDiff, Nat.reduceAdd, Nat.reduceLeDiff, Nat.reduceLT, Nat.reduceSub, Int.reduceLT, Int.reduceLE, Int.reduceEq, Int.reduceToNat, Option.map_some, List.length_map, List.getElem?_map, Int.toNat_natCast, Span.d, hb, v1, v2, v3, n3, hlen]
  have fin : ∀ (bx1 bx' : Bxs) (e' : Nat), (∀ s, s ≠ base + 3 → bx1 s = bx s) → addZ acc x = acc ++ [x] → bx' (base + 39) = ⟨e', 1, 2, 41, acc.map Span.d ++ [.agg [.int .i64 x.f, .int .i64 x.u]]⟩ → (bx' s0).k = 0 → (∀ s, s ≠ base + 39 → s ≠ s0 → bx' s = bx1 s) →
      Added0 t e s0 (addZ acc x) base bx (.tup []) (upd bx' t ⟨e, 1, 1, 46, [.osl (base + 39) e' 2 0 (acc.length + 1)]⟩) := by
    intro bx1 bx' e' hb1 hadd g1 g2 g3
    refine ⟨rfl, _, by simp [upd]; rfl, .inr ⟨by simp [upd, h3, g2], e', ?_, ?_⟩, fun s q1 q2 q3 => ?_⟩
    · rw [hadd]; simp
    · rw [hadd]; simp [upd, n5.symm, g1, Span.d]
    · simp (disch := omega) only [upd_ne]
      rw [g3 s (by omega) q3, hb1 s (by omega)]
  have hlo : 0 ≤ s0 := Nat.zero_le _
  rcases List.eq_nil_or_concat acc with rfl | ⟨p, y, rfl⟩
  · simp (disch := omega) only [go_sem, reduceIte, Nat.reduceEqDiff, Nat.reduceAdd, Nat.reduceLeDiff, Nat.reduceLT, Nat.reduceSub, Int.reduceLT, Int.reduceLE, Int.reduceEq, Int.reduceToNat, Option.map_some, List.length_map, List.getElem?_map, Int.toNat_natCast, hb, v1, v2, v3, n3]
    refine append_S (hv.of (by simp [upd, n4])) (by simp) (by simp [go_sem]) (by simp) (by omega) (by omega) hlo n6 (fun e' bx' g1 g2 g3 => ?_)
    have g4 : bx' t = ⟨e, 1, 1, 46, [v]⟩ := by rw [g3 t n5 h3.symm]; simp [upd, n3, hb]
    simp (disch := omega) only [go_sem, reduceIte, Nat.reduceEqDiff, Nat.reduceAdd, Nat.reduceLeDiff, Nat.reduceLT, Nat.reduceSub, Int.reduceLT, Int.reduceLE, Int.reduceEq, Int.reduceToNat, Option.map_some, List.length_map, List.getElem?_map, Int.toNat_natCast, g4, v3]
    exact fin _ bx' e' (fun s hs => by simp [upd, hs]) rfl (by simpa using g1) g2 g3
  · rw [List.concat_eq_append] at *
    have hv0 := hv
    rcases hv with ⟨_, hn, _⟩ | ⟨e', rfl, hbs⟩
    · simp at hn
    have hel2 : (List.map Span.d (p ++ [y]))[p.length]? = some (.agg [.int .i64 y.f, .int .i64 y.u]) := by simp [Span.d]
    have hl' : (List.map Span.d (p ++ [y])).length = p.length + 1 := by simp
    have hl2 : (p ++ [y]).length = p.length + 1 := by simp
    have hpos : (0 : Int) < ((p.length + 1 : Nat) : Int) := by omega
    have hw2 : IntKind.i64.wrap (((p.length + 1 : Nat) : Int) - 1) = (p.length : Int) := by rw [wrap_i64 (by omega) (by omega)]; omega
    rw [hl'] at hb hv0 v1 v2 v3 hlen
    simp (disch := omega) only [go_sem, reduceIte, Nat.reduceEqDiff, Nat.reduceAdd, Nat.reduceLeDiff, Nat.reduceLT, Nat.reduceSub, Int.reduceLT, Int.reduceLE, Int.reduceEq, Int.reduceToNat, Option.map_some, List.length_map, List.getElem?_map, Int.toNat_natCast, hb, v1, v2, v3, n3, n4, hbs, hel2, hl2, hw2, hpos]
    refine condD_dec (fun h5 => ?_) (fun h5 => ?_)
    · simp (disch := omega) only [go_sem, reduceIte, Nat.reduceEqDiff, Nat.reduceAdd, Nat.reduceLeDiff, Nat.reduceLT, Nat.reduceSub, Int.reduceLT, Int.reduceLE, Int.reduceEq, Int.reduceToNat, Option.map_some, List.length_map, List.getElem?_map, Int.toNat_natCast, hb, v1, v2, v3, n3, n4, hbs, hel2, hl2, hw2, hpos, h3]
      have hadd : addZ (p ++ [y]) x = p ++ [⟨y.f, x.u⟩] := by rw [addZ_snoc, if_pos h5]
      refine ⟨rfl, .osl s0 e' 2 0 (p.length + 1), ?_, .inl (.inr ⟨e', ?_, ?_⟩), fun s q1 q2 q3 => ?_⟩
      · simp [upd, h3.symm, n3, hb]
      · rw [hadd]; simp
      · rw [hadd]; simp [upd, Span.d]
      · simp (disch := omega) only [upd_ne]
    · simp (disch := omega) only [go_sem, reduceIte, Nat.reduceEqDiff, Nat.reduceAdd, Nat.reduceLeDiff, Nat.reduceLT, Nat.reduceSub, Int.reduceLT, Int.reduceLE, Int.reduceEq, Int.reduceToNat, Option.map_some, List.length_map, List.getElem?_map, Int.toNat_natCast, hb, v1, v2, v3, n3, n4, hbs, hel2, hl2, hw2, hpos, h3]
      have hadd : addZ (p ++ [y]) x = p ++ [y] ++ [x] := by rw [addZ_snoc, if_neg h5]
      refine append_S (hv0.of (by simp [upd, n4])) (by simp) (by simp [go_sem]) (by simp; omega) (by omega) (by omega) hlo n6 (fun e2 bx' g1 g2 g3 => ?_)
      have g4 : bx' t = ⟨e, 1, 1, 46, [.osl s0 e' 2 0 (p.length + 1)]⟩ := by rw [g3 t n5 h3.symm]; simp [upd, n3, hb]
      simp (disch := omega) only [go_sem, reduceIte, Nat.reduceEqDiff, Nat.reduceAdd, Nat.reduceLeDiff, Nat.reduceLT, Nat.reduceSub, Int.reduceLT, Int.reduceLE, Int.reduceEq, Int.reduceToNat, Option.map_some, List.length_map, List.getElem?_map, Int.toNat_natCast, g4, v3]
      have := fin _ bx' e2 (fun s hs => by simp [upd, hs]) hadd (by simpa using g1) g2 g3
      rw [hl2] at this
      simpa using this
theorem add_c (base t e s0 : Nat) (acc : List Span) (x : Span) (v : D) (bx : Bxs) (hacc : acc.length ≤ 65536) (h1 : t < base) (h2 : s0 < base) (h3 : s0 ≠ t) (hb : bx t = ⟨e, 1, 1, 46, [v]⟩) (hv : OwnS bx s0 41 2 v (acc.map Span.d)) :
    CallsB Try.prog 27 base [.loc t e 0 0, x.d] bx (Added t e s0 (addZ acc x) base bx) := by
  refine CallsB.ren (fnB_calls mixed (add_d base t e s0 acc x v bx hacc h1 h2 h3 hb hv) rfl (by kernel_rfl) rfl) ?_
  rintro d bx' ⟨rfl, v', g1, g2 | ⟨g2, e', rfl, g3⟩, g4⟩
  · exact .inl ⟨rfl, v', g1, g2, g4⟩
  · refine .inr ⟨base + 39, s0, fun s => s == t, by omega, by rw [g3], g2, rfl, .osl s0 ((bx' s0).ep + 1) 2 0 ((addZ acc x).map Span.d).length, ?_, .inr ⟨(bx' s0).ep + 1, rfl, ?_⟩, fun s q1 q2 q3 => ?_⟩
    · have n1 : t ≠ s0 := h3.symm
      have n2 : t ≠ base + 39 := by omega
      simp only [renB, n1, n2, if_false, beq_self_eq_true, if_true, g1, g3]
      simp [renD]
    · simp [renB, g3]
    · have n2 : s ≠ base + 39 := by omega
      simp only [renB, q2, q3, n2, if_false, beq_eq_false_iff_ne.2 q2]
      exact g4 s q1 q2 q3
end Go.V.Cu
