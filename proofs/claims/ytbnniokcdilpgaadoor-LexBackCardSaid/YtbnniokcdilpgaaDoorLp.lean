/-
  Lex: plain facts of the tokens of a source, with no program in sight.
-/
import Derived.Test.YtbnniokcdilpgaaDoorLg
namespace Go.V.Lx
open Go.Proofs Go.RowKit
set_option linter.unusedSimpArgs false
set_option linter.unusedVariables false

/-- a step at the beginning of what is left -/
def st : List UInt8 → Step
  | [] => none
  | c :: r => stepAt (c :: r) 0 c
def atT (i : Nat) (x : Tok) : Tok := { x with a := i }
theorem run_st (p : List Int) (s : List UInt8) (i : Nat) : runB p s i = runB p (s.drop i) 0 := by unfold runB; rw [List.drop_zero]
theorem tok_st (x : Tok) (i n : Nat) : tokStep x i n = (tokStep x 0 n).map fun p => (i + p.1, p.2.map (atT i)) := by
  unfold tokStep
  split
  · simp [atT]
  · rfl
theorem stepAt_st {s : List UInt8} {i : Nat} {c : UInt8} (hx : s[i]? = some c) : stepAt s i c = (st (s.drop i)).map fun p => (i + p.1, p.2.map (atT i)) := by
  have hi := (List.getElem?_eq_some_iff.1 hx).1
  have hd : s.drop i = c :: s.drop (i + 1) := by
    rw [List.drop_eq_getElem_cons hi]
    congr 1
    exact (List.getElem?_eq_some_iff.1 hx).2
  have e1 : st (s.drop i) = stepAt (s.drop i) 0 c := by rw [hd]; rfl
  rw [e1]
  unfold stepAt
  split
  · simp only [spaceStep, run_st [1] s i, Option.map_some, List.map_nil, Nat.zero_add]
  split
  · simp only [nameStep]; rw [run_st [2, 3, 5] s i, tok_st]
  split
  · simp only [numStep]
    rw [run_st [3] s i]
    cases Lib.atoiAll (runB [3] (s.drop i) 0) with
    | ok v =>
      simp only
      split
      · rw [tok_st]
      · rfl
    | _ => rfl
  split
  · simp only [signStep, List.drop_zero]
    split
    · simp only [Option.map_some, List.map_nil, Nat.zero_add]
      split
      · rfl
      · rw [List.length_drop]
        have : i + (s.length - i) = s.length := by omega
        rw [this]
    · rw [tok_st]
  · rfl
theorem st_on {r : List UInt8} {n : Nat} {l : List Tok} (h : st r = some (n, l)) : 0 < n ∧ n ≤ r.length ∧ l.length ≤ 1 := by
  cases r with
  | nil => cases h
  | cons c r => exact step_on (s := c :: r) (i := 0) rfl h

/-- all that is left has tokens -/
inductive LX : List UInt8 → Nat → List Tok → Prop
  | nil (i : Nat) : LX [] i []
  | step {r : List UInt8} {i n : Nat} {l l' : List Tok} (h : st r = some (n, l)) (k : LX (r.drop n) (i + n) l') : LX r i (l.map (atT i) ++ l')
/-- there is an error at a place -/
inductive LE : List UInt8 → Nat → Nat → Prop
  | here {r : List UInt8} (i : Nat) (hr : r ≠ []) (h : st r = none) : LE r i i
  | step {r : List UInt8} {i n k : Nat} {l : List Tok} (h : st r = some (n, l)) (hk : LE (r.drop n) (i + n) k) : LE r i k

theorem lexGo_at {s : List UInt8} {i n : Nat} {l xs : List Tok} (h : st (s.drop i) = some (n, l)) : lexGo s (s.length - i) i xs = lexGo s (s.length - (i + n)) (i + n) (xs ++ l.map (atT i)) := by
  have h1 := (st_on h)
  rw [List.length_drop] at h1
  have hi : i < s.length := by omega
  have hx : s[i]? = some s[i] := List.getElem?_eq_getElem hi
  rw [lexGo_step hx, stepAt_st hx, h]
  rfl
theorem lexGo_bad {s : List UInt8} {i : Nat} {xs : List Tok} (hi : i < s.length) (h : st (s.drop i) = none) : lexGo s (s.length - i) i xs = ([], (i : Int), 30) := by
  have hx : s[i]? = some s[i] := List.getElem?_eq_getElem hi
  rw [lexGo_step hx, stepAt_st hx, h]
  rfl
theorem lexGo_end {s : List UInt8} {i : Nat} {xs : List Tok} (hi : s.length ≤ i) : lexGo s (s.length - i) i xs = (xs, 0, 0) := by
  rw [show s.length - i = 0 by omega]; rfl
theorem LX.go {s r : List UInt8} {i : Nat} {l : List Tok} (h : LX r i l) : ∀ xs, r = s.drop i → lexGo s (s.length - i) i xs = (xs ++ l, 0, 0) := by
  induction h with
  | nil i =>
    intro xs hr
    have := congrArg List.length hr
    rw [List.length_drop, List.length_nil] at this
    rw [lexGo_end (by omega), List.append_nil]
  | step h k ih =>
    intro xs hr
    subst hr
    rw [lexGo_at h, ih _ (by rw [List.drop_drop]), List.append_assoc]
theorem LE.go {s r : List UInt8} {i k : Nat} (h : LE r i k) : ∀ xs, r = s.drop i → lexGo s (s.length - i) i xs = ([], (k : Int), 30) := by
  induction h with
  | here i hr h =>
    intro xs hr'
    subst hr'
    have : s.drop i ≠ [] := hr
    rw [lexGo_bad (by
      apply Classical.byContradiction
      intro hn
      exact this (List.drop_eq_nil_of_le (by omega))) h]
  | step h k ih =>
    intro xs hr
    subst hr
    rw [lexGo_at h, ih _ (by rw [List.drop_drop])]
theorem lx_total : ∀ (m : Nat) (r : List UInt8) (i : Nat), r.length ≤ m → (∃ l, LX r i l) ∨ ∃ k, LE r i k
  | 0, r, i, h => by
    have : r = [] := List.eq_nil_of_length_eq_zero (by omega)
    subst this
    exact .inl ⟨_, .nil i⟩
  | m + 1, r, i, h => by
    cases hr : st r with
    | none =>
      by_cases hn : r = []
      · subst hn; exact .inl ⟨_, .nil i⟩
      · exact .inr ⟨i, .here i hn hr⟩
    | some p =>
      obtain ⟨n, l⟩ := p
      have h1 := st_on hr
      rcases lx_total m (r.drop n) (i + n) (by rw [List.length_drop]; omega) with ⟨l', h⟩ | ⟨k, h⟩
      · exact .inl ⟨_, .step hr h⟩
      · exact .inr ⟨k, .step hr h⟩
theorem LX.lex {s : List UInt8} {l : List Tok} (hs : s.length ≤ 65536) (h : LX s 0 l) : lexL s = (l, 0, 0) := by
  unfold lexL
  rw [if_neg (by omega)]
  exact (h.go (s := s) [] rfl)
theorem LE.lex {s : List UInt8} {k : Nat} (hs : s.length ≤ 65536) (h : LE s 0 k) : lexL s = ([], (k : Int), 30) := by
  unfold lexL
  rw [if_neg (by omega)]
  exact (h.go (s := s) [] rfl)
theorem lex_cases (s : List UInt8) (hs : s.length ≤ 65536) : (∃ l, LX s 0 l ∧ lexL s = (l, 0, 0)) ∨ ∃ k, LE s 0 k ∧ lexL s = ([], (k : Int), 30) := by
  rcases lx_total s.length s 0 (Nat.le_refl _) with ⟨l, h⟩ | ⟨k, h⟩
  · exact .inl ⟨l, h, h.lex hs⟩
  · exact .inr ⟨k, h, h.lex hs⟩
theorem lex_ok {s : List UInt8} (hs : s.length ≤ 65536) (h : (lexL s).2.2 = 0) : ∃ l, LX s 0 l ∧ lexL s = (l, 0, 0) := by
  rcases lex_cases s hs with h' | ⟨k, h1, h2⟩
  · exact h'
  · rw [h2] at h; cases h
theorem lex_bad {s : List UInt8} (hs : s.length ≤ 65536) (h : (lexL s).2.2 ≠ 0) : ∃ k, LE s 0 k ∧ lexL s = ([], (k : Int), 30) := by
  rcases lex_cases s hs with ⟨l, h1, h2⟩ | h'
  · rw [h2] at h; exact absurd rfl h
  · exact h'

/-! ### White space -/
theorem contains1 (a b : Int) : ([a] : List Int).contains b = decide (b = a) := by simp [Bool.beq_eq_decide_eq]
theorem st_space {c : UInt8} {r : List UInt8} (h : cls c = 1) : st (c :: r) = some (1 + (r.takeWhile fun c => decide (cls c = 1)).length, []) := by
  show stepAt (c :: r) 0 c = _
  unfold stepAt
  rw [if_pos h]
  unfold spaceStep runB
  rw [List.drop_zero, List.takeWhile_cons, if_pos (by simp [h])]
  have e : (fun c => ([1] : List Int).contains (cls c)) = fun c => decide (cls c = 1) := by funext c; exact contains1 _ _
  rw [e]
  simp [Nat.add_comm]
theorem takeWhile_nil {α : Type} {p : α → Bool} {l : List α} (h : (l.takeWhile p).length = 0) : l.takeWhile p = [] := List.eq_nil_of_length_eq_zero h
theorem space_inv {r : List UInt8} {m n : Nat} {l : List Tok} (hm : m = (r.takeWhile fun c => decide (cls c = 1)).length) (h0 : 0 < m) (h : st r = some (n, l)) : n = m ∧ l = [] := by
  cases r with
  | nil => cases h
  | cons c r =>
    by_cases hc : cls c = 1
    · rw [st_space hc] at h
      injection h with h; injection h with h1 h2
      rw [List.takeWhile_cons, if_pos (by simp [hc]), List.length_cons] at hm
      exact ⟨by omega, h2.symm⟩
    · rw [List.takeWhile_cons, if_neg (by simp [hc]), List.length_nil] at hm
      omega
theorem LX.space {c : UInt8} {r : List UInt8} {i : Nat} {l : List Tok} (hc : cls c = 1) (h : LX r (i + 1) l) : LX (c :: r) i l := by
  obtain ⟨m, hm⟩ : ∃ m, m = (r.takeWhile fun c => decide (cls c = 1)).length := ⟨_, rfl⟩
  have hs := st_space (r := r) hc
  rw [← hm] at hs
  have : LX (r.drop m) (i + 1 + m) l := by
    by_cases h0 : m = 0
    · subst h0; exact h
    · cases h with
      | nil => simp at hm; omega
      | step h k =>
        obtain ⟨rfl, rfl⟩ := space_inv hm (by omega) h
        exact k
  have := LX.step (l' := l) (i := i) hs (by rw [show 1 + m = m + 1 by omega, List.drop_succ_cons, show i + (m + 1) = i + 1 + m by omega]; exact this)
  exact this
theorem LE.space {c : UInt8} {r : List UInt8} {i k : Nat} (hc : cls c = 1) (h : LE r (i + 1) k) : LE (c :: r) i k := by
  obtain ⟨m, hm⟩ : ∃ m, m = (r.takeWhile fun c => decide (cls c = 1)).length := ⟨_, rfl⟩
  have hs := st_space (r := r) hc
  rw [← hm] at hs
  have : LE (r.drop m) (i + 1 + m) k := by
    by_cases h0 : m = 0
    · subst h0; exact h
    · cases h with
      | here _ hr hn =>
        cases r with
        | nil => exact absurd rfl hr
        | cons c' r =>
          by_cases hc' : cls c' = 1
          · rw [st_space hc'] at hn; cases hn
          · rw [List.takeWhile_cons, if_neg (by simp [hc']), List.length_nil] at hm
            exact absurd hm h0
      | step h k =>
        obtain ⟨rfl, rfl⟩ := space_inv hm (by omega) h
        exact k
  exact LE.step (i := i) hs (by rw [show 1 + m = m + 1 by omega, List.drop_succ_cons, show i + (m + 1) = i + 1 + m by omega]; exact this)
theorem lexGo_space {s : List UInt8} {i : Nat} {c : UInt8} (xs : List Tok) (hx : s[i]? = some c) (hc : cls c = 1) : lexGo s (s.length - i) i xs = lexGo s (s.length - (i + 1)) (i + 1) xs := by
  have hi := (List.getElem?_eq_some_iff.1 hx).1
  have hd : s.drop i = c :: s.drop (i + 1) := by
    rw [List.drop_eq_getElem_cons hi]
    congr 1
    exact (List.getElem?_eq_some_iff.1 hx).2
  rcases lx_total _ (s.drop (i + 1)) (i + 1) (Nat.le_refl _) with ⟨l, h⟩ | ⟨k, h⟩
  · rw [h.go xs rfl, (h.space hc).go xs hd.symm]
  · rw [h.go xs rfl, (h.space hc).go xs hd.symm]
end Go.V.Lx
