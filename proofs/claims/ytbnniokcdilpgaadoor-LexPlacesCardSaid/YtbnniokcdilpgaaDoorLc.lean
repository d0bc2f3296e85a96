/-
  Lex: names, validity.
-/
import Derived.Test.YtbnniokcdilpgaaDoorLb
namespace Go.V.Lx
open Go.Proofs Go.RowKit
set_option linter.unusedSimpArgs false
set_option linter.unusedVariables false

theorem get_lt {α : Type} {l : List α} {k : Nat} (h : k < l.length) : ∃ x, l[k]? = some x := ⟨l[k], List.getElem?_eq_getElem h⟩
theorem take_all {α : Type} (p : α → Bool) {l : List α} {k : Nat} {x : α} (hx : l[k]? = some x) (h : (l.take k).all p = true) (hp : p x = true) : (l.take (k + 1)).all p = true := by
  rw [List.take_add_one, hx, List.all_append, h]
  simp [hp]
theorem all_of {α : Type} (p : α → Bool) {l : List α} {k : Nat} {x : α} (hx : l[k]? = some x) (hp : p x = false) : l.all p = false := by
  rw [List.all_eq_false]
  exact ⟨x, List.mem_of_getElem? hx, by simp [hp]⟩
theorem cls_lt (c : UInt8) : decide (cls c = 2) = isLt c.toNat := by
  unfold cls
  cases isLt c.toNat <;> cases isFg c.toNat <;> cases ((c.toNat : Int) == 95) <;> cases isSp c.toNat <;> cases isSg c <;> rfl
theorem cls_part (c : UInt8) : isPart c = (decide (cls c = 2) || decide (cls c = 3) || decide (cls c = 5)) := by
  unfold cls isPart
  cases isLt c.toNat <;> cases isFg c.toNat <;> cases ((c.toNat : Int) == 95) <;> cases isSp c.toNat <;> cases isSg c <;> rfl
theorem name_d (s : List UInt8) (hs : s.length ≤ 140737488355328) : fnD Tryd.prog (orac Tryd.prog) [] Tryd.f19 [.str s] (.bool (nameB s)) := by
  refine fn_intro _ [.tmp 2] _ rfl rfl rfl (by kernel_rfl) ?_
  match s, hs with
  | [], hs =>
    simp (maxSteps := 1000000) (disch := omega) only [go_sem, reduceIte, Nat.reduceEqDiff, Nat.reduceAdd, Nat.reduceLeDiff, Nat.reduceLT, Nat.reduceSub, Int.reduceLT, Int.reduceLE, Int.reduceEq, Int.reduceToNat, Option.map_some, List.length_map, List.getElem?_map, Int.toNat_natCast, *]
    exact .refl _
  | c :: r, hs =>
    have hx : (c :: r)[0]? = some c := rfl
    repeat' (first | with_reducible refine condD_dec (fun _ => ?_) (fun _ => ?_) | with_reducible refine condD_split (fun _ => ?_) (fun _ => ?_) | with_reducible refine pureO (class_c c) (by simp [go_sem]) ?_ | with_reducible refine pureT (class_c c) (by simp [go_sem]) ?_ | simp (maxSteps := 1000000) (disch := omega) only [go_sem, reduceIte, Nat.reduceEqDiff, Nat.reduceAdd, Nat.reduceLeDiff, Nat.reduceLT, Nat.reduceSub, Int.reduceLT, Int.reduceLE, Int.reduceEq, Int.reduceToNat, Option.map_some, List.length_map, List.getElem?_map, Int.toNat_natCast, *])
    · exact weak_eq (by simp_all)
    · refine weak_eq ?_
      have : ¬ (c :: r).length ≤ 32 := by simp only [List.length_cons]; omega
      simp only [nameB, this, decide_false, Bool.false_and]
    · rename_i _ hle hc
      have hlt : isLt c.toNat = true := by rw [← cls_lt, hc]; rfl
      have hnb : nameB (c :: r) = (c :: r).all isPart := by
        have : (c :: r).length ≤ 32 := by simp only [List.length_cons]; omega
        simp only [nameB, this, decide_true, hlt, Bool.true_and]
      rw [hnb]
      obtain ⟨z, hz⟩ : ∃ z, z = c :: r := ⟨_, rfl⟩
      have hlen : z.length = r.length + 1 := by rw [hz]; rfl
      rw [← hz]
      refine cD_for z.length (fun k σ _ => σ 0 = .str z ∧ σ 19 = .int .i64 ((r.length + 1 : Nat) : Int) ∧ σ 20 = .int .i64 k ∧ (z.take k).all isPart = true)
        ⟨by simp [go_sem, argsF, hz], by simp [go_sem], by simp [go_sem], by simp⟩ ?_ ?_
      · clear hz hnb
        rintro k σ bx hk ⟨h0, h19, h20, hb⟩
        obtain ⟨x, hx⟩ := get_lt hk
        simp (maxSteps := 1000000) (disch := omega) only [go_sem, reduceIte, Nat.reduceEqDiff, Nat.reduceAdd, Nat.reduceLeDiff, Nat.reduceLT, Nat.reduceSub, Int.reduceLT, Int.reduceLE, Int.reduceEq, Int.reduceToNat, Option.map_some, List.length_map, List.getElem?_map, Int.toNat_natCast, h0, h19, h20]
        refine condD_yes (by omega) ?_
        have hp := cls_part x
        have bad : isPart x = false → Weak (D.bool false) (.bool (z.all isPart)) := fun h => weak_eq (by rw [all_of isPart hx h])
        have good : isPart x = true → (z.take (k + 1)).all isPart = true := fun h => take_all isPart hx hb h
        repeat' (first | with_reducible refine condD_dec (fun _ => ?_) (fun _ => ?_) | with_reducible refine condD_split (fun _ => ?_) (fun _ => ?_) | with_reducible refine pureO (class_c x) (by simp [go_sem]) ?_ | with_reducible refine pureT (class_c x) (by simp [go_sem]) ?_ | simp (maxSteps := 1000000) (disch := omega) only [go_sem, reduceIte, Nat.reduceEqDiff, Nat.reduceAdd, Nat.reduceLeDiff, Nat.reduceLT, Nat.reduceSub, Int.reduceLT, Int.reduceLE, Int.reduceEq, Int.reduceToNat, Option.map_some, List.length_map, List.getElem?_map, Int.toNat_natCast, *])
        all_goals first
          | (rw [wrap_succ (by omega)]; exact ⟨rfl, good (by rw [hp]; simp [*])⟩)
          | exact bad (by rw [hp]; simp [*])
          | trace_state
      · rintro σ bx ⟨h0, h19, h20, hb⟩
        simp (maxSteps := 1000000) (disch := omega) only [go_sem, reduceIte, Nat.reduceEqDiff, Nat.reduceAdd, Nat.reduceLeDiff, Nat.reduceLT, Nat.reduceSub, Int.reduceLT, Int.reduceLE, Int.reduceEq, Int.reduceToNat, Option.map_some, List.length_map, List.getElem?_map, Int.toNat_natCast, h0, h19, h20]
        refine condD_no (by omega) ?_
        simp (maxSteps := 1000000) (disch := omega) only [go_sem, reduceIte, Nat.reduceEqDiff, Nat.reduceAdd, Nat.reduceLeDiff, Nat.reduceLT, Nat.reduceSub, Int.reduceLT, Int.reduceLE, Int.reduceEq, Int.reduceToNat, Option.map_some, List.length_map, List.getElem?_map, Int.toNat_natCast]
        rw [List.take_length] at hb
        exact weak_eq (by rw [hb])
    · rename_i hc
      refine weak_eq ?_
      have hlt : isLt c.toNat = false := by rw [← cls_lt]; simp [hc]
      simp only [nameB, hlt, Bool.and_false, Bool.false_and]
theorem name_c (s : List UInt8) (hs : s.length ≤ 140737488355328) : CallsTo Tryd.prog 19 [.str s] (.bool (nameB s)) := fn_calls mixed (name_d s hs) rfl (by kernel_rfl) rfl

set_option maxRecDepth 20000 in
theorem valid_d (x : Tok) (hs : x.t.length ≤ 140737488355328) : fnD Tryd.prog (orac Tryd.prog) [] Tryd.f35 [x.d] (.bool (validB x)) := by
  refine fn_intro _ [.tmp 2] _ rfl rfl rfl (by kernel_rfl) ?_
  obtain ⟨k, t, n, a⟩ := x
  simp only [Tok.d]
  have hv : validB ⟨k, t, n, a⟩ = if k = 1 then nameB t && decide (n = 0) else if k = 2 then decide (t = []) && decide (0 ≤ n) && decide (n ≤ 1099511627776) else if k = 3 then oneSign t && decide (n = 0) else false := rfl
  rw [hv]
  clear hv
  have ht : t = [] ∨ (∃ c, t = [c]) ∨ t.length ≠ 1 := by
    match t with
    | [] => exact .inl rfl
    | [c] => exact .inr (.inl ⟨c, rfl⟩)
    | _ :: _ :: _ => exact .inr (.inr (by simp))
  have h1 : t.length ≠ 1 → oneSign t = false := fun h => by
    match t with
    | [] => rfl
    | [c] => simp at h
    | _ :: _ :: _ => rfl
  by_cases k1 : k = 1
  · subst k1
    repeat' (first | with_reducible refine condD_dec (fun _ => ?_) (fun _ => ?_) | with_reducible refine condD_split (fun _ => ?_) (fun _ => ?_) | with_reducible refine pureO (name_c t hs) (by simp [go_sem]) ?_ | with_reducible refine pureT (name_c t hs) (by simp [go_sem]) ?_ | simp (maxSteps := 1000000) (disch := omega) only [go_sem, reduceIte, Nat.reduceEqDiff, Nat.reduceAdd, Nat.reduceLeDiff, Nat.reduceLT, Nat.reduceSub, Int.reduceLT, Int.reduceLE, Int.reduceEq, Int.reduceToNat, Option.map_some, List.length_map, List.getElem?_map, Int.toNat_natCast, *])
    all_goals exact weak_eq (by simp_all)
  by_cases k2 : k = 2
  · subst k2
    repeat' (first | with_reducible refine condD_dec (fun _ => ?_) (fun _ => ?_) | with_reducible refine condD_split (fun _ => ?_) (fun _ => ?_) | simp (maxSteps := 1000000) (disch := omega) only [go_sem, reduceIte, Nat.reduceEqDiff, Nat.reduceAdd, Nat.reduceLeDiff, Nat.reduceLT, Nat.reduceSub, Int.reduceLT, Int.reduceLE, Int.reduceEq, Int.reduceToNat, Option.map_some, List.length_map, List.getElem?_map, Int.toNat_natCast, *])
    all_goals exact weak_eq (by simp_all)
  by_cases k3 : k = 3
  · subst k3
    rcases ht with rfl | ⟨c, rfl⟩ | ht
    · repeat' (first | with_reducible refine condD_dec (fun _ => ?_) (fun _ => ?_) | with_reducible refine condD_split (fun _ => ?_) (fun _ => ?_) | simp (maxSteps := 1000000) (disch := omega) only [go_sem, reduceIte, Nat.reduceEqDiff, Nat.reduceAdd, Nat.reduceLeDiff, Nat.reduceLT, Nat.reduceSub, Int.reduceLT, Int.reduceLE, Int.reduceEq, Int.reduceToNat, Option.map_some, List.length_map, List.getElem?_map, Int.toNat_natCast, *])
      all_goals exact weak_eq (by simp_all [oneSign])
    · repeat' (first | with_reducible refine condD_dec (fun _ => ?_) (fun _ => ?_) | with_reducible refine condD_split (fun _ => ?_) (fun _ => ?_) | with_reducible refine pureO (class_c c) (by simp [go_sem]) ?_ | with_reducible refine pureT (class_c c) (by simp [go_sem]) ?_ | simp (maxSteps := 1000000) (disch := omega) only [go_sem, reduceIte, Nat.reduceEqDiff, Nat.reduceAdd, Nat.reduceLeDiff, Nat.reduceLT, Nat.reduceSub, Int.reduceLT, Int.reduceLE, Int.reduceEq, Int.reduceToNat, Option.map_some, List.length_map, List.getElem?_map, Int.toNat_natCast, *])
      all_goals exact weak_eq (by simp_all [oneSign])
    · have ht' : ¬ ((t.length : Int) = 1) := by omega
      repeat' (first | with_reducible refine condD_dec (fun _ => ?_) (fun _ => ?_) | with_reducible refine condD_split (fun _ => ?_) (fun _ => ?_) | simp (maxSteps := 1000000) (disch := omega) only [go_sem, reduceIte, Nat.reduceEqDiff, Nat.reduceAdd, Nat.reduceLeDiff, Nat.reduceLT, Nat.reduceSub, Int.reduceLT, Int.reduceLE, Int.reduceEq, Int.reduceToNat, Option.map_some, List.length_map, List.getElem?_map, Int.toNat_natCast, *])
      all_goals exact weak_eq (by simp_all)
  · repeat' (first | with_reducible refine condD_dec (fun _ => ?_) (fun _ => ?_) | with_reducible refine condD_split (fun _ => ?_) (fun _ => ?_) | simp (maxSteps := 1000000) (disch := omega) only [go_sem, reduceIte, Nat.reduceEqDiff, Nat.reduceAdd, Nat.reduceLeDiff, Nat.reduceLT, Nat.reduceSub, Int.reduceLT, Int.reduceLE, Int.reduceEq, Int.reduceToNat, Option.map_some, List.length_map, List.getElem?_map, Int.toNat_natCast, *])
    all_goals exact weak_eq (by simp_all)
theorem valid_c (x : Tok) (hs : x.t.length ≤ 140737488355328) : CallsTo Tryd.prog 35 [x.d] (.bool (validB x)) := fn_calls mixed (valid_d x hs) rfl (by kernel_rfl) rfl
end Go.V.Lx
