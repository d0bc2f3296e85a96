/-
  Lex: how long a text of tokens is.
-/
import Derived.Test.YtgcbdhnkigmfpaaGreatDoorLP
namespace Go.V.Lx
open Go.Proofs Go.RowKit
set_option linter.unusedSimpArgs false
set_option linter.unusedVariables false
set_option maxRecDepth 100000

theorem nd_le : ∀ (k u : Nat), u < 10 ^ (k + 1) → (Lib.decDigits u).length ≤ k + 1
  | 0, u, h => by
    rw [Lib.decDigits_one (by simpa using h)]; simp
  | k + 1, u, h => by
    rw [Lib.decDigits]
    by_cases h1 : u < 10
    · rw [dif_pos h1]; simp
    · rw [Nat.pow_succ] at h
      rw [dif_neg h1, List.length_append, List.length_cons, List.length_nil]
      have := nd_le k (u / 10) (by omega)
      omega
def textSum (l : List Tok) : Nat := (l.map fun x => x.t.length).sum
theorem word_le {x : Tok} (h : validB x = true) : (word x).length ≤ x.t.length + 13 := by
  unfold word
  split
  · rename_i h2
    unfold validB at h
    rw [if_neg (by omega), if_pos h2] at h
    simp only [Bool.and_eq_true, decide_eq_true_eq] at h
    obtain ⟨u, hu⟩ : ∃ u : Nat, x.n = u := ⟨x.n.toNat, by omega⟩
    rw [hu, Lib.itoa_nonneg]
    have := nd_le 12 u (by omega)
    omega
  · omega
theorem sum_cons (x : Tok) (l : List Tok) : textSum (x :: l) = x.t.length + textSum l := rfl
theorem tail_le : ∀ (l : List Tok), l.all validB = true → (Lib.joinTail [32] (l.map word)).length ≤ textSum l + 14 * l.length
  | [], _ => by simp [Lib.joinTail]
  | x :: l, h => by
    rw [List.all_cons, Bool.and_eq_true] at h
    have h1 := tail_le l h.2
    have h2 := word_le h.1
    have e : Lib.joinTail [32] ((x :: l).map word) = 32 :: word x ++ Lib.joinTail [32] (l.map word) := by simp [Lib.joinTail]
    rw [e, sum_cons, List.length_append, List.length_cons, List.length_cons]
    omega
theorem join_len (l : List Tok) (h : l.all validB = true) : (Lib.join (l.map word) [32]).length ≤ textSum l + 14 * l.length := by
  cases l with
  | nil => simp [Lib.join_nil]
  | cons x l =>
    rw [List.all_cons, Bool.and_eq_true] at h
    have h1 := tail_le l h.2
    have h2 := word_le h.1
    rw [List.map_cons, Lib.join_cons, List.length_append, sum_cons, List.length_cons]
    omega
theorem sum_app (a b : List Tok) : textSum (a ++ b) = textSum a + textSum b := by simp [textSum]
theorem sum_take_le (l : List Tok) (k : Nat) : textSum (l.take k) ≤ textSum l := by
  have := sum_app (l.take k) (l.drop k)
  rw [List.take_append_drop] at this
  omega
theorem sum_mem {l : List Tok} {x : Tok} (h : x ∈ l) : x.t.length ≤ textSum l := by
  induction l with
  | nil => cases h
  | cons y l ih =>
    rw [sum_cons]
    rcases List.mem_cons.1 h with rfl | h
    · omega
    · have := ih h; omega
end Go.V.Lx
