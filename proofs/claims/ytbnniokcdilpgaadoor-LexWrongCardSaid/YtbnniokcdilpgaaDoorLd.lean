/-
  Lex: the scanner's longest texts.
-/
import Derived.Test.YtbnniokcdilpgaaDoorLc
namespace Go.V.Lx
open Go.Proofs Go.RowKit
set_option linter.unusedSimpArgs false
set_option linter.unusedVariables false

theorem takeWhile_of {α : Type} (P : α → Bool) : ∀ (l : List α) (m : Nat), (l.take m).all P = true → (∀ x, l[m]? = some x → P x = false) → l.takeWhile P = l.take m
  | [], m, _, _ => by simp
  | x :: l, 0, _, h2 => by
    have := h2 x rfl
    simp [List.takeWhile_cons, this]
  | x :: l, m + 1, h1, h2 => by
    simp only [List.take_succ_cons, List.all_cons, Bool.and_eq_true] at h1
    rw [List.takeWhile_cons, if_pos h1.1, List.take_succ_cons, takeWhile_of P l m h1.2 (fun y hy => h2 y (by simpa using hy))]
def runB (p : List Int) (s : List UInt8) (i : Nat) : List UInt8 := (s.drop i).takeWhile fun c => p.contains (cls c)
theorem run_d (s : List UInt8) (i : Nat) (y : D) (p : List Int) (hs : s.length ≤ 140737488355328) (hi : i ≤ s.length) (hp : p.length ≤ 100) : fnD Tryd.prog (orac Tryd.prog) [] Tryd.f42 [.cref (scD s i y) 0, .sl 1 (p.map (D.int .i64))] (.str (runB p s i)) := by
  refine fn_intro _ [.tmp 4] _ rfl rfl rfl (by kernel_rfl) ?_
  simp (maxSteps := 1000000) (disch := omega) only [go_sem, reduceIte, Nat.reduceEqDiff, Nat.reduceAdd, Nat.reduceLeDiff, Nat.reduceLT, Nat.reduceSub, Int.reduceLT, Int.reduceLE, Int.reduceEq, Int.reduceToNat, Option.map_some, List.length_map, List.getElem?_map, Int.toNat_natCast, scD]
  refine cD_loop (fun σ bx => ∃ k : Nat, i ≤ k ∧ k ≤ s.length ∧ σ 0 = .cref (scD s i y) 0 ∧ σ 1 = .sl 1 (p.map (D.int .i64)) ∧ σ 5 = .int .i64 k ∧ ((s.drop i).take (k - i)).all (fun c => p.contains (cls c)) = true) (fun σ _ => s.length - intN (σ 5))
    ⟨i, Nat.le_refl _, hi, by simp [go_sem, argsF, scD], by simp [go_sem, argsF], by simp [go_sem], by simp⟩ ?_
  rintro σ bx ⟨k, hik, hk, h0, h1, h5, hb⟩
  have fin : (∀ x, s[k]? = some x → p.contains (cls x) = false) → Weak (D.str ((s.drop i).take (k - i))) (.str (runB p s i)) := fun h => weak_eq (by
    unfold runB
    rw [takeWhile_of _ (s.drop i) (k - i) hb (fun x hx => h x (by rw [List.getElem?_drop] at hx; rw [show i + (k - i) = k by omega] at hx; exact hx))])
  by_cases hlt : k < s.length
  · obtain ⟨x, hx⟩ := get_lt hlt
    have hlt' : (k : Int) < (s.length : Int) := by omega
    repeat' (first | with_reducible refine condD_dec (fun _ => ?_) (fun _ => ?_) | with_reducible refine condD_split (fun _ => ?_) (fun _ => ?_) | with_reducible refine pureO (class_c x) (by simp [go_sem]) ?_ | with_reducible refine pureT (class_c x) (by simp [go_sem]) ?_ | with_reducible refine pureO (contains_c p (cls x) (by omega)) (by simp [go_sem]) ?_ | with_reducible refine pureT (contains_c p (cls x) (by omega)) (by simp [go_sem]) ?_ | simp (maxSteps := 1000000) (disch := omega) only [go_sem, reduceIte, Nat.reduceEqDiff, Nat.reduceAdd, Nat.reduceLeDiff, Nat.reduceLT, Nat.reduceSub, Int.reduceLT, Int.reduceLE, Int.reduceEq, Int.reduceToNat, Option.map_some, List.length_map, List.getElem?_map, Int.toNat_natCast, *, scD, hlt'])
    · rename_i hc
      rw [wrap_succ (by omega)]
      refine ⟨⟨k + 1, by omega, by omega, rfl, ?_⟩, by simp only [intN]; omega⟩
      rw [show k + 1 - i = (k - i) + 1 by omega]
      refine take_all _ (x := x) (by rw [List.getElem?_drop, show i + (k - i) = k by omega]; exact hx) hb hc
    · rename_i hc
      refine fin fun z hz => ?_
      rw [hx] at hz; injection hz with hz; subst hz; exact hc
  · have hlt' : ¬ (k : Int) < (s.length : Int) := by omega
    repeat' (first | with_reducible refine condD_dec (fun _ => ?_) (fun _ => ?_) | with_reducible refine condD_split (fun _ => ?_) (fun _ => ?_) | simp (maxSteps := 1000000) (disch := omega) only [go_sem, reduceIte, Nat.reduceEqDiff, Nat.reduceAdd, Nat.reduceLeDiff, Nat.reduceLT, Nat.reduceSub, Int.reduceLT, Int.reduceLE, Int.reduceEq, Int.reduceToNat, Option.map_some, List.length_map, List.getElem?_map, Int.toNat_natCast, *, scD, hlt'])
    exact fin fun z hz => absurd (List.getElem?_eq_some_iff.1 hz).1 hlt
theorem run_c (s : List UInt8) (i : Nat) (y : D) (p : List Int) (hs : s.length ≤ 140737488355328) (hi : i ≤ s.length) (hp : p.length ≤ 100) : CallsTo Tryd.prog 42 [.cref (scD s i y) 0, .sl 1 (p.map (D.int .i64))] (.str (runB p s i)) := fn_calls mixed (run_d s i y p hs hi hp) rfl (by kernel_rfl) rfl
end Go.V.Lx
