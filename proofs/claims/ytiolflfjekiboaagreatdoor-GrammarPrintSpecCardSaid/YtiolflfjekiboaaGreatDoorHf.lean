/-
  Grammar: the reference's costs, parts and gives; what its loops do.
-/
import Derived.Test.YtiolflfjekiboaaGreatDoorHe
namespace Go.V.Gr
open Go.Proofs Go.RowKit Go.V.Lx
set_option linter.unusedSimpArgs false
set_option linter.unusedVariables false
set_option maxRecDepth 100000

/-! ### Loops end -/
def Dec {α : Type} (r : RS α) : Prop := ∀ p, (r p).2.l = p.l ∧ meas (r p).2 ≤ meas p ∧ (p.bad = false → meas (r p).2 < meas p)
def Low {α : Type} (r : RS α) : Prop := ∀ p, (r p).2.l = p.l ∧ meas (r p).2 ≤ meas p
theorem Dec.low {α : Type} {r : RS α} (h : Dec r) : Low r := fun p => ⟨(h p).1, (h p).2.1⟩
theorem low_pure {α : Type} (a : α) : Low (RS.pure a) := fun p => ⟨rfl, Nat.le_refl _⟩
theorem Dec.bind {α β : Type} {r : RS α} {f : α → RS β} (h : Dec r) (k : ∀ a, Low (f a)) : Dec (r.bind f) := fun p => by
  have h1 := h p
  have h2 := k (r p).1 (r p).2
  refine ⟨h2.1.trans h1.1, Nat.le_trans h2.2 h1.2.1, fun hb => Nat.lt_of_le_of_lt h2.2 (h1.2.2 hb)⟩
theorem Low.bind {α β : Type} {r : RS α} {f : α → RS β} (h : Low r) (k : ∀ a, Low (f a)) : Low (r.bind f) := fun p =>
  ⟨(k (r p).1 (r p).2).1.trans (h p).1, Nat.le_trans (k (r p).1 (r p).2).2 (h p).2⟩
theorem meas_bad {p : RP} (h : p.bad = true) : meas p = 0 := by unfold meas; rw [if_pos h]
theorem meas_ok {p : RP} (h : p.bad = false) : meas p = 1 + (p.l.length - p.n) := by unfold meas; rw [if_neg (by rw [h]; decide)]
theorem fail_is (p : RP) : (failR p).bad = true := by
  unfold failR
  split
  · assumption
  · rfl
theorem dec_fail (p : RP) : (failR p).l = p.l ∧ meas (failR p) ≤ meas p ∧ (p.bad = false → meas (failR p) < meas p) := by
  refine ⟨fail_len p, ?_, fun hb => ?_⟩
  · rw [meas_bad (fail_is p)]; omega
  · rw [meas_bad (fail_is p), meas_ok hb]; omega
theorem dec_next {p : RP} (h : p.n < p.l.length) : ({ p with n := p.n + 1 } : RP).l = p.l ∧ meas { p with n := p.n + 1 } ≤ meas p ∧ (p.bad = false → meas { p with n := p.n + 1 } < meas p) := by
  refine ⟨rfl, ?_, fun hb => ?_⟩
  · unfold meas
    simp only
    split <;> omega
  · rw [meas_ok (p := { p with n := p.n + 1 }) hb, meas_ok hb]; simp only; omega
theorem dec_want (k : Int) (t : Str) : Dec (wantR k t) := fun p => by
  show (expR k t p).l = p.l ∧ meas (expR k t p) ≤ meas p ∧ (p.bad = false → meas (expR k t p) < meas p)
  unfold expR
  by_cases h : nextR k t p = true
  · rw [if_pos h]; exact dec_next (next_lt h)
  · rw [if_neg h]; exact dec_fail p
theorem dec_name : Dec nameR := fun p => by
  unfold nameR
  by_cases h : isNmR p = true
  · rw [if_pos h]; obtain ⟨x, _, hx⟩ := nm_some h; exact dec_next hx
  · rw [if_neg h]; exact dec_fail p
theorem dec_num : Dec numR := fun p => by
  unfold numR
  by_cases h : isNoR p = true
  · rw [if_pos h]; obtain ⟨x, _, hx⟩ := no_some h; exact dec_next hx
  · rw [if_neg h]; exact dec_fail p
theorem dec_nameW (k : Int) (t : Str) : Dec (nameW k t) := (dec_want k t).bind fun _ => dec_name.low
theorem dec_cost : Dec costR := (dec_want _ _).bind fun _ => dec_num.low.bind fun _ => (dec_want _ _).low.bind fun _ => low_pure _
theorem dec_cat : Dec catR := (dec_nameW _ _).bind fun _ => (dec_want _ _).low.bind fun _ => low_pure _
theorem dec_if {α : Type} {c : RP → Bool} {r s : RS α} (hr : Dec r) (hs : Dec s) : Dec (fun p => if c p = true then r p else s p) := fun p => by
  by_cases h : c p = true
  · simp only [h, if_true]; exact hr p
  · simp only [h, if_false]; exact hs p
theorem dec_part : Dec partR := dec_if ((dec_nameW _ _).bind fun _ => low_pure _) (dec_name.bind fun _ => low_pure _)
theorem dec_give : Dec giveR := dec_if ((dec_nameW _ _).bind fun _ => low_pure _) (dec_num.bind fun _ => low_pure _)
theorem loop_stop {α : Type} {more : RP → Bool} {item : RS α} {p : RP} (h : more p = false) : ∀ (k : Nat) (xs : List α), loopR more item k xs p = (xs, p)
  | 0, _ => rfl
  | k + 1, xs => by rw [loopR, h, if_neg (by decide)]
theorem loop_fuel {α : Type} {more : RP → Bool} {item : RS α} (hm : ∀ p, p.bad = true → more p = false) (hd : Dec item) : ∀ (k m : Nat) (xs : List α) (p : RP), meas p ≤ k → meas p ≤ m → loopR more item k xs p = loopR more item m xs p
  | 0, m, xs, p, h1, h2 => by
    have hb : p.bad = true := by
      cases hb : p.bad with
      | true => rfl
      | false => rw [meas_ok hb] at h1; omega
    rw [loop_stop (hm p hb), loop_stop (hm p hb)]
  | k + 1, m, xs, p, h1, h2 => by
    cases hmo : more p with
    | false => rw [loop_stop hmo, loop_stop hmo]
    | true =>
      have hb : p.bad = false := by
        cases hb : p.bad with
        | false => rfl
        | true => rw [hm p hb] at hmo; cases hmo
      have hlt := (hd p).2.2 hb
      cases m with
      | zero => rw [meas_ok hb] at h2; omega
      | succ m => rw [loopR, loopR, hmo, if_pos rfl, if_pos rfl]; exact loop_fuel hm hd k m _ _ (by omega) (by omega)
theorem loop_step {α : Type} {more : RP → Bool} {item : RS α} (hm : ∀ p, p.bad = true → more p = false) (hd : Dec item) {p : RP} (h : more p = true) (xs : List α) : loopR more item (meas p) xs p = loopR more item (meas (item p).2) (xs ++ [(item p).1]) (item p).2 ∧ meas (item p).2 < meas p := by
  have hb : p.bad = false := by
    cases hb : p.bad with
    | false => rfl
    | true => rw [hm p hb] at h; cases h
  have hlt := (hd p).2.2 hb
  refine ⟨?_, hlt⟩
  obtain ⟨k, hk⟩ : ∃ k, meas p = k + 1 := ⟨meas p - 1, by omega⟩
  rw [hk, loopR, h, if_pos rfl]
  exact loop_fuel hm hd _ _ _ _ (by omega) (Nat.le_refl _)
theorem low_loop {α : Type} {more : RP → Bool} {item : RS α} (hd : Dec item) : ∀ (k : Nat) (xs : List α) (p : RP), (loopR more item k xs p).2.l = p.l ∧ meas (loopR more item k xs p).2 ≤ meas p
  | 0, xs, p => ⟨rfl, Nat.le_refl _⟩
  | k + 1, xs, p => by
    rw [loopR]
    split
    · have h1 := low_loop (more := more) hd k (xs ++ [(item p).1]) (item p).2
      exact ⟨h1.1.trans (hd p).1, Nat.le_trans h1.2 (hd p).2.1⟩
    · exact ⟨rfl, Nat.le_refl _⟩
theorem low_many {α : Type} {more : RP → Bool} {item : RS α} (hd : Dec item) (xs : List α) : Low (manyR more item xs) := fun p => low_loop hd _ _ _
theorem dec_entry : Dec entryR := (dec_nameW _ _).bind fun _ => (dec_nameW _ _).low.bind fun _ => (dec_nameW _ _).low.bind fun _ => (low_many (dec_nameW _ _) _).bind fun _ => dec_cost.low.bind fun _ => low_pure _
theorem dec_rule : Dec ruleR := (dec_nameW _ _).bind fun _ => (dec_want _ _).low.bind fun _ => dec_part.low.bind fun _ => (low_many dec_part _).bind fun _ => (dec_want _ _).low.bind fun _ => dec_give.low.bind fun _ => (low_many dec_give _).bind fun _ => dec_cost.low.bind fun _ => low_pure _
/-- how far a reader is, off its cells -/
def measB (len : Nat) (b : Bx) : Nat := match b.es with
  | [.agg [_, .int _ n, _, .bool bad, _]] => if bad = true then 0 else 1 + (len - n.toNat)
  | _ => 0
theorem measB_px {e k sz ty : Nat} {p : RP} : measB p.l.length ⟨e, k, sz, ty, [px p]⟩ = meas p := by
  simp [measB, px, meas]

/-! ### Costs, parts, gives -/
theorem cost_r (p : RP) (hl : p.l.length ≤ M) : fnD Tryz.prog (orac Tryz.prog) [] Tryz.f97 [px p] (.tup [.int .i64 (costR p).1, px (costR p).2]) := by
  refine fn_intro _ [.tmp 2, .cell 3 59] _ rfl rfl rfl (by kernel_rfl) ?_
  have hc : costR p = ((numR (expR 1 wCost p)).1, expR 3 [59] (numR (expR 1 wCost p)).2) := rfl
  rw [hc]
  have l1 := exp_len 1 wCost p
  have c1 := word_rc p wCost hl
  have c2 := number_rc (expR 1 wCost p) (by rw [l1]; exact hl)
  have l2 := num_len (expR 1 wCost p)
  have c3 := sign_rc (numR (expR 1 wCost p)).2 [59] (by rw [l2, l1]; exact hl)
  generalize expR 1 wCost p = q at *
  generalize numR q = r at *
  generalize expR 3 [59] r.2 = s at *
  simp (maxSteps := 1000000) (disch := omega) only [go_sem, reduceIte, Nat.reduceEqDiff, Nat.reduceAdd, Nat.reduceLeDiff, Nat.reduceLT, Nat.reduceSub, Int.reduceLT, Int.reduceLE, Int.reduceEq, Int.reduceToNat, Option.map_some, List.length_map, List.getElem?_map, Int.toNat_natCast, px]
  refine call_pure c1 (px_pure2 _ _) ?_
  simp (maxSteps := 1000000) (disch := omega) only [go_sem, reduceIte, Nat.reduceEqDiff, Nat.reduceAdd, Nat.reduceLeDiff, Nat.reduceLT, Nat.reduceSub, Int.reduceLT, Int.reduceLE, Int.reduceEq, Int.reduceToNat, Option.map_some, List.length_map, List.getElem?_map, Int.toNat_natCast, px]
  refine call_pure c2 (px_pure1 _) ?_
  simp (maxSteps := 1000000) (disch := omega) only [go_sem, reduceIte, Nat.reduceEqDiff, Nat.reduceAdd, Nat.reduceLeDiff, Nat.reduceLT, Nat.reduceSub, Int.reduceLT, Int.reduceLE, Int.reduceEq, Int.reduceToNat, Option.map_some, List.length_map, List.getElem?_map, Int.toNat_natCast, px]
  refine call_pure c3 (px_pure2 _ _) ?_
  simp (maxSteps := 1000000) (disch := omega) only [go_sem, reduceIte, Nat.reduceEqDiff, Nat.reduceAdd, Nat.reduceLeDiff, Nat.reduceLT, Nat.reduceSub, Int.reduceLT, Int.reduceLE, Int.reduceEq, Int.reduceToNat, Option.map_some, List.length_map, List.getElem?_map, Int.toNat_natCast, px]
  exact .refl _
theorem cost_rc (p : RP) (hl : p.l.length ≤ M) : CallsTo Tryz.prog 97 [px p] (.tup [.int .i64 (costR p).1, px (costR p).2]) := fn_calls mixed (cost_r p hl) rfl (by kernel_rfl) rfl
theorem part_r (p : RP) (hl : p.l.length ≤ M) : fnD Tryz.prog (orac Tryz.prog) [(3, [(2, 1)]), (5, [(2, 1)])] Tryz.f98 [px p] (.tup [(partR p).1.d, px (partR p).2]) := by
  refine fn_intro _ [.cell 2 87, .cell 3 59] _ rfl rfl rfl (by kernel_rfl) ?_
  have c0 := isSign_rc p [58]
  simp (maxSteps := 1000000) (disch := omega) only [go_sem, reduceIte, Nat.reduceEqDiff, Nat.reduceAdd, Nat.reduceLeDiff, Nat.reduceLT, Nat.reduceSub, Int.reduceLT, Int.reduceLE, Int.reduceEq, Int.reduceToNat, Option.map_some, List.length_map, List.getElem?_map, Int.toNat_natCast, px]
  refine call_pure c0 (px_pure2 _ _) ?_
  cases h : nextR 3 [58] p with
  | true =>
    have hr : partR p = (⟨[], 0, (nameW 3 [58] p).1⟩, (nameW 3 [58] p).2) := by unfold partR; rw [if_pos h]; rfl
    rw [hr]
    have l1 := exp_len 3 [58] p
    have c1 := sign_rc p [58] hl
    have c2 := name_rc (expR 3 [58] p) (by rw [l1]; exact hl)
    have hn : nameW 3 [58] p = nameR (expR 3 [58] p) := rfl
    rw [hn]
    generalize expR 3 [58] p = q at *
    generalize nameR q = r at *
    simp (maxSteps := 1000000) (disch := omega) only [go_sem, reduceIte, Nat.reduceEqDiff, Nat.reduceAdd, Nat.reduceLeDiff, Nat.reduceLT, Nat.reduceSub, Int.reduceLT, Int.reduceLE, Int.reduceEq, Int.reduceToNat, Option.map_some, List.length_map, List.getElem?_map, Int.toNat_natCast, px]
    refine call_pure c1 (px_pure2 _ _) ?_
    simp (maxSteps := 1000000) (disch := omega) only [go_sem, reduceIte, Nat.reduceEqDiff, Nat.reduceAdd, Nat.reduceLeDiff, Nat.reduceLT, Nat.reduceSub, Int.reduceLT, Int.reduceLE, Int.reduceEq, Int.reduceToNat, Option.map_some, List.length_map, List.getElem?_map, Int.toNat_natCast, px]
    refine call_pure c2 (px_pure1 _) ?_
    simp (maxSteps := 1000000) (disch := omega) only [go_sem, reduceIte, Nat.reduceEqDiff, Nat.reduceAdd, Nat.reduceLeDiff, Nat.reduceLT, Nat.reduceSub, Int.reduceLT, Int.reduceLE, Int.reduceEq, Int.reduceToNat, Option.map_some, List.length_map, List.getElem?_map, Int.toNat_natCast, px, Part.d]
    exact .refl _
  | false =>
    have hr : partR p = (⟨(nameR p).1, 0, []⟩, (nameR p).2) := by unfold partR; rw [if_neg (by rw [h]; decide)]; rfl
    rw [hr]
    have c2 := name_rc p hl
    generalize nameR p = r at *
    simp (maxSteps := 1000000) (disch := omega) only [go_sem, reduceIte, Nat.reduceEqDiff, Nat.reduceAdd, Nat.reduceLeDiff, Nat.reduceLT, Nat.reduceSub, Int.reduceLT, Int.reduceLE, Int.reduceEq, Int.reduceToNat, Option.map_some, List.length_map, List.getElem?_map, Int.toNat_natCast, px]
    refine call_pure c2 (px_pure1 _) ?_
    simp (maxSteps := 1000000) (disch := omega) only [go_sem, reduceIte, Nat.reduceEqDiff, Nat.reduceAdd, Nat.reduceLeDiff, Nat.reduceLT, Nat.reduceSub, Int.reduceLT, Int.reduceLE, Int.reduceEq, Int.reduceToNat, Option.map_some, List.length_map, List.getElem?_map, Int.toNat_natCast, px, Part.d]
    exact .refl _
theorem part_rc (p : RP) (hl : p.l.length ≤ M) : CallsTo Tryz.prog 98 [px p] (.tup [(partR p).1.d, px (partR p).2]) := fn_calls mixed (part_r p hl) rfl (by kernel_rfl) rfl
theorem give_r (p : RP) (hl : p.l.length ≤ M) : fnD Tryz.prog (orac Tryz.prog) [(3, [(2, 1)]), (5, [(2, 1)])] Tryz.f99 [px p] (.tup [(giveR p).1.d, px (giveR p).2]) := by
  refine fn_intro _ [.cell 2 89, .cell 3 59] _ rfl rfl rfl (by kernel_rfl) ?_
  have c0 := isSign_rc p [58]
  simp (maxSteps := 1000000) (disch := omega) only [go_sem, reduceIte, Nat.reduceEqDiff, Nat.reduceAdd, Nat.reduceLeDiff, Nat.reduceLT, Nat.reduceSub, Int.reduceLT, Int.reduceLE, Int.reduceEq, Int.reduceToNat, Option.map_some, List.length_map, List.getElem?_map, Int.toNat_natCast, px]
  refine call_pure c0 (px_pure2 _ _) ?_
  cases h : nextR 3 [58] p with
  | true =>
    have hr : giveR p = (⟨0, (nameW 3 [58] p).1⟩, (nameW 3 [58] p).2) := by unfold giveR; rw [if_pos h]; rfl
    rw [hr]
    have l1 := exp_len 3 [58] p
    have c1 := sign_rc p [58] hl
    have c2 := name_rc (expR 3 [58] p) (by rw [l1]; exact hl)
    have hn : nameW 3 [58] p = nameR (expR 3 [58] p) := rfl
    rw [hn]
    generalize expR 3 [58] p = q at *
    generalize nameR q = r at *
    simp (maxSteps := 1000000) (disch := omega) only [go_sem, reduceIte, Nat.reduceEqDiff, Nat.reduceAdd, Nat.reduceLeDiff, Nat.reduceLT, Nat.reduceSub, Int.reduceLT, Int.reduceLE, Int.reduceEq, Int.reduceToNat, Option.map_some, List.length_map, List.getElem?_map, Int.toNat_natCast, px]
    refine call_pure c1 (px_pure2 _ _) ?_
    simp (maxSteps := 1000000) (disch := omega) only [go_sem, reduceIte, Nat.reduceEqDiff, Nat.reduceAdd, Nat.reduceLeDiff, Nat.reduceLT, Nat.reduceSub, Int.reduceLT, Int.reduceLE, Int.reduceEq, Int.reduceToNat, Option.map_some, List.length_map, List.getElem?_map, Int.toNat_natCast, px]
    refine call_pure c2 (px_pure1 _) ?_
    simp (maxSteps := 1000000) (disch := omega) only [go_sem, reduceIte, Nat.reduceEqDiff, Nat.reduceAdd, Nat.reduceLeDiff, Nat.reduceLT, Nat.reduceSub, Int.reduceLT, Int.reduceLE, Int.reduceEq, Int.reduceToNat, Option.map_some, List.length_map, List.getElem?_map, Int.toNat_natCast, px, Give.d]
    exact .refl _
  | false =>
    have hr : giveR p = (⟨(numR p).1, []⟩, (numR p).2) := by unfold giveR; rw [if_neg (by rw [h]; decide)]; rfl
    rw [hr]
    have c2 := number_rc p hl
    generalize numR p = r at *
    simp (maxSteps := 1000000) (disch := omega) only [go_sem, reduceIte, Nat.reduceEqDiff, Nat.reduceAdd, Nat.reduceLeDiff, Nat.reduceLT, Nat.reduceSub, Int.reduceLT, Int.reduceLE, Int.reduceEq, Int.reduceToNat, Option.map_some, List.length_map, List.getElem?_map, Int.toNat_natCast, px]
    refine call_pure c2 (px_pure1 _) ?_
    simp (maxSteps := 1000000) (disch := omega) only [go_sem, reduceIte, Nat.reduceEqDiff, Nat.reduceAdd, Nat.reduceLeDiff, Nat.reduceLT, Nat.reduceSub, Int.reduceLT, Int.reduceLE, Int.reduceEq, Int.reduceToNat, Option.map_some, List.length_map, List.getElem?_map, Int.toNat_natCast, px, Give.d]
    exact .refl _
theorem give_rc (p : RP) (hl : p.l.length ≤ M) : CallsTo Tryz.prog 99 [px p] (.tup [(giveR p).1.d, px (giveR p).2]) := fn_calls mixed (give_r p hl) rfl (by kernel_rfl) rfl
end Go.V.Gr
