/-
  Lex: plain facts of the tokens of a source, with no program in sight.
  Lex: numbers and classes, with no program in sight.
  Lex: what a step looks at; words and white space, with no program in sight.
-/
import Derived.Test.YtgcbdhnkigmfpaaGreatDoorLg
import Derived.Lib.ItoaMem
import Derived.Test.YtgcbdhnkigmfpaaGreatDoorLh
namespace Go.V.Lx
open Go.Proofs Go.RowKit
set_option linter.unusedSimpArgs false
set_option linter.unusedVariables false
set_option maxRecDepth 100000

/-- a step at the beginning of what is left -/
def st : List UInt8 → Step
  | [] => none
  | c :: r => stepAt (c :: r) 0 c
def atT (i : Nat) (x : Tok) : Tok := { x with a := i }
theorem run_st (p : List Int) (s : List UInt8) (i : Nat) : runB p s i = runB p (s.drop i) 0 := by unfold runB; rw [List.drop_zero]
theorem tok_st (x : Tok) (i n : Nat) : tokStep x i n = (tokStep x 0 n).map fun p => (i + p.1, p.2.map (atT i)) := by
  unfold tokStep
  split
  · simp [atT]
  · rfl
theorem stepAt_st {s : List UInt8} {i : Nat} {c : UInt8} (hx : s[i]? = some c) : stepAt s i c = (st (s.drop i)).map fun p => (i + p.1, p.2.map (atT i)) := by
  have hi := (List.getElem?_eq_some_iff.1 hx).1
  have hd : s.drop i = c :: s.drop (i + 1) := by
    rw [List.drop_eq_getElem_cons hi]
    congr 1
    exact (List.getElem?_eq_some_iff.1 hx).2
  have e1 : st (s.drop i) = stepAt (s.drop i) 0 c := by rw [hd]; rfl
  rw [e1]
  unfold stepAt
  split
  · simp only [spaceStep, run_st [1] s i, Option.map_some, List.map_nil, Nat.zero_add]
  split
  · simp only [nameStep]; rw [run_st [2, 3, 5] s i, tok_st]
  split
  · simp only [numStep]
    rw [run_st [3] s i]
    cases Lib.atoiAll (runB [3] (s.drop i) 0) with
    | ok v =>
      simp only
      split
      · rw [tok_st]
      · rfl
    | _ => rfl
  split
  · simp only [signStep, List.drop_zero]
    split
    · simp only [Option.map_some, List.map_nil, Nat.zero_add]
      split
      · rfl
      · rw [List.length_drop]
        have : i + (s.length - i) = s.length := by omega
        rw [this]
    · rw [tok_st]
  · rfl
theorem st_on {r : List UInt8} {n : Nat} {l : List Tok} (h : st r = some (n, l)) : 0 < n ∧ n ≤ r.length ∧ l.length ≤ 1 := by
  cases r with
  | nil => cases h
  | cons c r => exact step_on (s := c :: r) (i := 0) rfl h

/-- all that is left has tokens -/
inductive LX : List UInt8 → Nat → List Tok → Prop
  | nil (i : Nat) : LX [] i []
  | step {r : List UInt8} {i n : Nat} {l l' : List Tok} (h : st r = some (n, l)) (k : LX (r.drop n) (i + n) l') : LX r i (l.map (atT i) ++ l')
/-- there is an error at a place -/
inductive LE : List UInt8 → Nat → Nat → Prop
  | here {r : List UInt8} (i : Nat) (hr : r ≠ []) (h : st r = none) : LE r i i
  | step {r : List UInt8} {i n k : Nat} {l : List Tok} (h : st r = some (n, l)) (hk : LE (r.drop n) (i + n) k) : LE r i k

theorem lexGo_at {s : List UInt8} {i n : Nat} {l xs : List Tok} (h : st (s.drop i) = some (n, l)) : lexGo s (s.length - i) i xs = lexGo s (s.length - (i + n)) (i + n) (xs ++ l.map (atT i)) := by
  have h1 := (st_on h)
  rw [List.length_drop] at h1
  have hi : i < s.length := by omega
  have hx : s[i]? = some s[i] := List.getElem?_eq_getElem hi
  rw [lexGo_step hx, stepAt_st hx, h]
  rfl
theorem lexGo_bad {s : List UInt8} {i : Nat} {xs : List Tok} (hi : i < s.length) (h : st (s.drop i) = none) : lexGo s (s.length - i) i xs = ([], (i : Int), 30) := by
  have hx : s[i]? = some s[i] := List.getElem?_eq_getElem hi
  rw [lexGo_step hx, stepAt_st hx, h]
  rfl
theorem lexGo_end {s : List UInt8} {i : Nat} {xs : List Tok} (hi : s.length ≤ i) : lexGo s (s.length - i) i xs = (xs, 0, 0) := by
  rw [show s.length - i = 0 by omega]; rfl
theorem LX.go {s r : List UInt8} {i : Nat} {l : List Tok} (h : LX r i l) : ∀ xs, r = s.drop i → lexGo s (s.length - i) i xs = (xs ++ l, 0, 0) := by
  induction h with
  | nil i =>
    intro xs hr
    have := congrArg List.length hr
    rw [List.length_drop, List.length_nil] at this
    rw [lexGo_end (by omega), List.append_nil]
  | step h k ih =>
    intro xs hr
    subst hr
    rw [lexGo_at h, ih _ (by rw [List.drop_drop]), List.append_assoc]
theorem LE.go {s r : List UInt8} {i k : Nat} (h : LE r i k) : ∀ xs, r = s.drop i → lexGo s (s.length - i) i xs = ([], (k : Int), 30) := by
  induction h with
  | here i hr h =>
    intro xs hr'
    subst hr'
    have : s.drop i ≠ [] := hr
    rw [lexGo_bad (by
      apply Classical.byContradiction
      intro hn
      exact this (List.drop_eq_nil_of_le (by omega))) h]
  | step h k ih =>
    intro xs hr
    subst hr
    rw [lexGo_at h, ih _ (by rw [List.drop_drop])]
theorem lx_total : ∀ (m : Nat) (r : List UInt8) (i : Nat), r.length ≤ m → (∃ l, LX r i l) ∨ ∃ k, LE r i k
  | 0, r, i, h => by
    have : r = [] := List.eq_nil_of_length_eq_zero (by omega)
    subst this
    exact .inl ⟨_, .nil i⟩
  | m + 1, r, i, h => by
    cases hr : st r with
    | none =>
      by_cases hn : r = []
      · subst hn; exact .inl ⟨_, .nil i⟩
      · exact .inr ⟨i, .here i hn hr⟩
    | some p =>
      obtain ⟨n, l⟩ := p
      have h1 := st_on hr
      rcases lx_total m (r.drop n) (i + n) (by rw [List.length_drop]; omega) with ⟨l', h⟩ | ⟨k, h⟩
      · exact .inl ⟨_, .step hr h⟩
      · exact .inr ⟨k, .step hr h⟩
theorem LX.lex {s : List UInt8} {l : List Tok} (hs : s.length ≤ 65536) (h : LX s 0 l) : lexL s = (l, 0, 0) := by
  unfold lexL
  rw [if_neg (by omega)]
  exact (h.go (s := s) [] rfl)
theorem LE.lex {s : List UInt8} {k : Nat} (hs : s.length ≤ 65536) (h : LE s 0 k) : lexL s = ([], (k : Int), 30) := by
  unfold lexL
  rw [if_neg (by omega)]
  exact (h.go (s := s) [] rfl)
theorem lex_cases (s : List UInt8) (hs : s.length ≤ 65536) : (∃ l, LX s 0 l ∧ lexL s = (l, 0, 0)) ∨ ∃ k, LE s 0 k ∧ lexL s = ([], (k : Int), 30) := by
  rcases lx_total s.length s 0 (Nat.le_refl _) with ⟨l, h⟩ | ⟨k, h⟩
  · exact .inl ⟨l, h, h.lex hs⟩
  · exact .inr ⟨k, h, h.lex hs⟩
theorem lex_ok {s : List UInt8} (hs : s.length ≤ 65536) (h : (lexL s).2.2 = 0) : ∃ l, LX s 0 l ∧ lexL s = (l, 0, 0) := by
  rcases lex_cases s hs with h' | ⟨k, h1, h2⟩
  · exact h'
  · rw [h2] at h; cases h
theorem lex_bad {s : List UInt8} (hs : s.length ≤ 65536) (h : (lexL s).2.2 ≠ 0) : ∃ k, LE s 0 k ∧ lexL s = ([], (k : Int), 30) := by
  rcases lex_cases s hs with ⟨l, h1, h2⟩ | h'
  · rw [h2] at h; exact absurd rfl h
  · exact h'

/-! ### White space -/
theorem contains1 (a b : Int) : ([a] : List Int).contains b = decide (b = a) := by simp [Bool.beq_eq_decide_eq]
theorem st_space {c : UInt8} {r : List UInt8} (h : cls c = 1) : st (c :: r) = some (1 + (r.takeWhile fun c => decide (cls c = 1)).length, []) := by
  show stepAt (c :: r) 0 c = _
  unfold stepAt
  rw [if_pos h]
  unfold spaceStep runB
  rw [List.drop_zero, List.takeWhile_cons, if_pos (by simp [h])]
  have e : (fun c => ([1] : List Int).contains (cls c)) = fun c => decide (cls c = 1) := by funext c; exact contains1 _ _
  rw [e]
  simp [Nat.add_comm]
theorem takeWhile_nil {α : Type} {p : α → Bool} {l : List α} (h : (l.takeWhile p).length = 0) : l.takeWhile p = [] := List.eq_nil_of_length_eq_zero h
theorem space_inv {r : List UInt8} {m n : Nat} {l : List Tok} (hm : m = (r.takeWhile fun c => decide (cls c = 1)).length) (h0 : 0 < m) (h : st r = some (n, l)) : n = m ∧ l = [] := by
  cases r with
  | nil => cases h
  | cons c r =>
    by_cases hc : cls c = 1
    · rw [st_space hc] at h
      injection h with h; injection h with h1 h2
      rw [List.takeWhile_cons, if_pos (by simp [hc]), List.length_cons] at hm
      exact ⟨by omega, h2.symm⟩
    · rw [List.takeWhile_cons, if_neg (by simp [hc]), List.length_nil] at hm
      omega
theorem LX.space {c : UInt8} {r : List UInt8} {i : Nat} {l : List Tok} (hc : cls c = 1) (h : LX r (i + 1) l) : LX (c :: r) i l := by
  obtain ⟨m, hm⟩ : ∃ m, m = (r.takeWhile fun c => decide (cls c = 1)).length := ⟨_, rfl⟩
  have hs := st_space (r := r) hc
  rw [← hm] at hs
  have : LX (r.drop m) (i + 1 + m) l := by
    by_cases h0 : m = 0
    · subst h0; exact h
    · cases h with
      | nil => simp at hm; omega
      | step h k =>
        obtain ⟨rfl, rfl⟩ := space_inv hm (by omega) h
        exact k
  have := LX.step (l' := l) (i := i) hs (by rw [show 1 + m = m + 1 by omega, List.drop_succ_cons, show i + (m + 1) = i + 1 + m by omega]; exact this)
  exact this
theorem LE.space {c : UInt8} {r : List UInt8} {i k : Nat} (hc : cls c = 1) (h : LE r (i + 1) k) : LE (c :: r) i k := by
  obtain ⟨m, hm⟩ : ∃ m, m = (r.takeWhile fun c => decide (cls c = 1)).length := ⟨_, rfl⟩
  have hs := st_space (r := r) hc
  rw [← hm] at hs
  have : LE (r.drop m) (i + 1 + m) k := by
    by_cases h0 : m = 0
    · subst h0; exact h
    · cases h with
      | here _ hr hn =>
        cases r with
        | nil => exact absurd rfl hr
        | cons c' r =>
          by_cases hc' : cls c' = 1
          · rw [st_space hc'] at hn; cases hn
          · rw [List.takeWhile_cons, if_neg (by simp [hc']), List.length_nil] at hm
            exact absurd hm h0
      | step h k =>
        obtain ⟨rfl, rfl⟩ := space_inv hm (by omega) h
        exact k
  exact LE.step (i := i) hs (by rw [show 1 + m = m + 1 by omega, List.drop_succ_cons, show i + (m + 1) = i + 1 + m by omega]; exact this)
theorem lexGo_space {s : List UInt8} {i : Nat} {c : UInt8} (xs : List Tok) (hx : s[i]? = some c) (hc : cls c = 1) : lexGo s (s.length - i) i xs = lexGo s (s.length - (i + 1)) (i + 1) xs := by
  have hi := (List.getElem?_eq_some_iff.1 hx).1
  have hd : s.drop i = c :: s.drop (i + 1) := by
    rw [List.drop_eq_getElem_cons hi]
    congr 1
    exact (List.getElem?_eq_some_iff.1 hx).2
  rcases lx_total _ (s.drop (i + 1)) (i + 1) (Nat.le_refl _) with ⟨l, h⟩ | ⟨k, h⟩
  · rw [h.go xs rfl, (h.space hc).go xs hd.symm]
  · rw [h.go xs rfl, (h.space hc).go xs hd.symm]
end Go.V.Lx

namespace Go.V.Lx
open Go.Proofs Go.RowKit
set_option linter.unusedSimpArgs false
set_option linter.unusedVariables false
set_option maxRecDepth 100000

theorem all8 {p : UInt8 → Bool} (h : ((List.range 256).all fun n => p (UInt8.ofNat n)) = true) (c : UInt8) : p c = true := by
  have := List.all_eq_true.1 h c.toNat (List.mem_range.2 (by have := c.toNat_lt; omega))
  rwa [UInt8.ofNat_toNat] at this
theorem cls_sp (c : UInt8) : decide (cls c = 1) = isSp c.toNat := by
  have := all8 (p := fun c => decide (cls c = 1) == isSp c.toNat) (by decide +kernel) c
  exact beq_iff_eq.1 this
theorem cls_fg (c : UInt8) : decide (cls c = 3) = isFg c.toNat := by
  have := all8 (p := fun c => decide (cls c = 3) == isFg c.toNat) (by decide +kernel) c
  exact beq_iff_eq.1 this
theorem cls_sg (c : UInt8) : decide (cls c = 4) = isSg c := by
  have := all8 (p := fun c => decide (cls c = 4) == isSg c) (by decide +kernel) c
  exact beq_iff_eq.1 this
theorem sg_signs (c : UInt8) : isSg c = signs.contains c := by
  have := all8 (p := fun c => isSg c == signs.contains c) (by decide +kernel) c
  exact beq_iff_eq.1 this
theorem cls_slash : cls 47 = 4 := by decide +kernel
theorem cls_lf : cls 10 = 1 := by decide +kernel
theorem cls_blank : cls 32 = 1 := by decide +kernel
theorem fg_iff (c : UInt8) : isFg c.toNat = true ↔ 48 ≤ c.toNat ∧ c.toNat ≤ 57 := by
  simp [isFg, Bool.and_eq_true, decide_eq_true_eq]; omega

def dv (acc : Nat) : List UInt8 → Nat
  | [] => acc
  | c :: r => dv (10 * acc + (c.toNat - 48)) r
theorem dv_ge : ∀ (l : List UInt8) (acc : Nat), acc ≤ dv acc l
  | [], acc => Nat.le_refl _
  | c :: r, acc => Nat.le_trans (by omega) (dv_ge r (10 * acc + (c.toNat - 48)))
theorem dv_one (c : UInt8) : dv 0 [c] = c.toNat - 48 := (show 10 * 0 + (c.toNat - 48) = c.toNat - 48 by omega)
theorem dv_snoc : ∀ (l : List UInt8) (acc : Nat) (c : UInt8), dv acc (l ++ [c]) = 10 * dv acc l + (c.toNat - 48)
  | [], acc, c => rfl
  | x :: r, acc, c => dv_snoc r _ c
theorem dv_app : ∀ (l m : List UInt8) (acc : Nat), dv acc (l ++ m) = dv (dv acc l) m
  | [], m, acc => rfl
  | x :: r, m, acc => dv_app r m _
def figs (t : List UInt8) : Bool := t.all fun c => isFg c.toNat
theorem parse_ok (l : List UInt8) : ∀ (acc : Nat), figs l = true → dv acc l < 9223372036854775808 → Lib.parseUint10 acc l = .ok (dv acc l) := by
  induction l with
  | nil => intro acc _ _; rfl
  | cons c r ih =>
    intro acc h hb
    simp only [figs, List.all_cons, Bool.and_eq_true] at h
    have h1 := (fg_iff c).1 h.1
    have h2 := dv_ge r (10 * acc + (c.toNat - 48))
    have h3 := ih (10 * acc + (c.toNat - 48)) h.2 hb
    have hb' : dv (10 * acc + (c.toNat - 48)) r < 9223372036854775808 := hb
    have e0 : acc * 10 = 10 * acc := Nat.mul_comm _ _
    have e1 : ¬ 1844674407370955162 ≤ acc := by omega
    have e2 : ¬ 18446744073709551616 ≤ acc * 10 + (c.toNat - 48) := by omega
    unfold Lib.parseUint10
    rw [if_pos h1, if_neg e1, if_neg e2, e0]
    exact h3
theorem parse_val : ∀ (l : List UInt8) (acc u : Nat), figs l = true → Lib.parseUint10 acc l = .ok u → u = dv acc l
  | [], acc, u, _, h => by simp only [Lib.parseUint10] at h; injection h with h; exact h.symm
  | c :: r, acc, u, hf, h => by
    simp only [figs, List.all_cons, Bool.and_eq_true] at hf
    have h1 := (fg_iff c).1 hf.1
    simp only [Lib.parseUint10] at h
    rw [if_pos h1] at h
    split at h
    · cases h
    split at h
    · cases h
    · rw [Nat.mul_comm acc 10] at h
      exact parse_val r _ u hf.2 h
theorem fg_no {c : UInt8} (h : isFg c.toNat = true) : c.toNat ≠ 43 ∧ c.toNat ≠ 45 := by
  have := (fg_iff c).1 h
  omega
theorem atoi_figs {t : List UInt8} (hn : t ≠ []) (hf : figs t = true) : Lib.atoiAll t = Lib.signless (Lib.parseUint10 0 t) := by
  cases t with
  | nil => exact absurd rfl hn
  | cons c r =>
    have h1 : isFg c.toNat = true := by
      simp only [figs, List.all_cons, Bool.and_eq_true] at hf; exact hf.1
    obtain ⟨h43, h45⟩ := fg_no h1
    rw [Lib.atoiAll_plain c r h43 h45]
    rfl
theorem dec_head : ∀ (u : Nat), 1 ≤ u → ∃ c r, Lib.decDigits u = c :: r ∧ c ≠ 48 := by
  intro u
  induction u using Nat.strongRecOn with
  | _ u ih =>
    intro h1
    by_cases h : u < 10
    · refine ⟨_, _, Lib.decDigits_one h, fun h2 => ?_⟩
      have := congrArg UInt8.toNat h2
      simp [UInt8.toNat_ofNat] at this
      omega
    · obtain ⟨c, r, h2, h3⟩ := ih (u / 10) (by omega) (by omega)
      refine ⟨c, r ++ [UInt8.ofNat (48 + u % 10)], ?_, h3⟩
      rw [Lib.decDigits, dif_neg h, h2]
      rfl
def lead (t : List UInt8) : Bool := decide (t.length = 1) || !(t.head? == some 48)
theorem byte_of {c : UInt8} (h : 48 ≤ c.toNat ∧ c.toNat ≤ 57) : UInt8.ofNat (48 + (c.toNat - 48)) = c := by
  rw [show 48 + (c.toNat - 48) = c.toNat by omega, UInt8.ofNat_toNat]
theorem dv_pos {t : List UInt8} (hf : figs t = true) (hn : t ≠ []) (hl : (t.head? == some 48) = false) : 1 ≤ dv 0 t := by
  cases t with
  | nil => exact absurd rfl hn
  | cons x r =>
    have hx := (fg_iff x).1 (List.all_eq_true.1 hf x (by simp))
    have : x.toNat ≠ 48 := fun e => by
      have : x = 48 := UInt8.toNat_inj.1 e
      subst this
      simp at hl
    have h := dv_ge r (10 * 0 + (x.toNat - 48))
    have e : dv 0 (x :: r) = dv (10 * 0 + (x.toNat - 48)) r := rfl
    omega
theorem dec_snoc {t : List UInt8} {c : UInt8} (h1 : 1 ≤ dv 0 t) (h : 48 ≤ c.toNat ∧ c.toNat ≤ 57) (ih : Lib.decDigits (dv 0 t) = t) : Lib.decDigits (dv 0 (t ++ [c])) = t ++ [c] := by
  rw [dv_snoc]
  generalize dv 0 t = u at h1 ih
  have e1 : (10 * u + (c.toNat - 48)) / 10 = u := by omega
  have e2 : (10 * u + (c.toNat - 48)) % 10 = c.toNat - 48 := by omega
  have e3 : ¬ 10 * u + (c.toNat - 48) < 10 := by omega
  rw [Lib.decDigits, dif_neg e3, e1, e2, ih, byte_of h]
theorem dec_dv (n : Nat) : ∀ (t : List UInt8), t.length = n + 1 → figs t = true → lead t = true → Lib.decDigits (dv 0 t) = t := by
  induction n with
  | zero =>
    intro t hn hf hl
    obtain ⟨c, rfl⟩ := List.length_eq_one_iff.1 hn
    simp only [figs, List.all_cons, List.all_nil, Bool.and_true] at hf
    have h := (fg_iff c).1 hf
    have e : dv 0 [c] = c.toNat - 48 := (show 10 * 0 + (c.toNat - 48) = c.toNat - 48 by omega)
    rw [e, Lib.decDigits_one (by omega), byte_of h]
  | succ n ihn =>
    intro t hn hf hl
    rcases List.eq_nil_or_concat t with rfl | ⟨t', c, rfl⟩
    · simp at hn
    · rw [List.concat_eq_append] at hn hf hl ⊢
      rw [List.length_append, List.length_cons, List.length_nil] at hn
      simp only [figs, List.all_append, List.all_cons, List.all_nil, Bool.and_true, Bool.and_eq_true] at hf
      have h := (fg_iff c).1 hf.2
      have hne : t' ≠ [] := by
        intro e; subst e; simp at hn
      have hh : (t' ++ [c]).head? = t'.head? := by
        cases t' with
        | nil => exact absurd rfl hne
        | cons x r => rfl
      have hl' : (t'.head? == some 48) = false := by
        unfold lead at hl
        rw [hh, List.length_append, List.length_cons, List.length_nil, decide_eq_false (by omega), Bool.false_or] at hl
        simpa using hl
      have ih := ihn t' (by omega) hf.1 (by unfold lead; rw [hl']; simp)
      exact dec_snoc (dv_pos hf.1 hne hl') h ih
theorem itoa_dv {t : List UInt8} (hn : t ≠ []) (hf : figs t = true) : Lib.itoa (dv 0 t : Int) = t ↔ lead t = true := by
  rw [Lib.itoa_nonneg]
  constructor
  · intro h
    unfold lead
    by_cases h1 : dv 0 t = 0
    · rw [h1, Lib.decDigits_one (by decide)] at h
      rw [← h]; rfl
    · obtain ⟨c, r, h2, h3⟩ := dec_head (dv 0 t) (by omega)
      rw [h] at h2
      rw [h2]
      simp [h3]
  · intro h
    have : 0 < t.length := List.length_pos_iff.2 hn
    exact dec_dv (t.length - 1) t (by omega) hf h
theorem numStep_eq {s : List UInt8} {i : Nat} {c : UInt8} (hx : s[i]? = some c) (hc : cls c = 3) : numStep s i = if dv 0 (runB [3] s i) ≤ 1099511627776 ∧ lead (runB [3] s i) = true then some (i + (runB [3] s i).length, [⟨2, [], dv 0 (runB [3] s i), i⟩]) else none := by
  have hp := runB_pos (p := [3]) hx (by simp [hc])
  have hf : figs (runB [3] s i) = true := by
    unfold figs runB
    rw [List.all_eq_true]
    intro x h
    have := List.all_eq_true.1 (List.all_takeWhile (l := s.drop i) (p := fun c => ([3] : List Int).contains (cls c))) x h
    rw [← cls_fg]
    simpa using this
  unfold numStep
  generalize runB [3] s i = t at hp hf ⊢
  have hn : t ≠ [] := List.length_pos_iff.1 hp
  rw [atoi_figs hn hf]
  by_cases h : dv 0 t ≤ 1099511627776
  · rw [parse_ok t 0 hf (by omega)]
    simp only [Lib.signless]
    rw [if_neg (by omega)]
    simp only [itoa_dv hn hf, h, true_and]
    split
    · simp [tokStep, validB, h]; omega
    · rfl
  · rw [if_neg (fun h' => h h'.1)]
    cases hu : Lib.parseUint10 0 t with
    | ok u =>
      have := parse_val t 0 u hf hu
      subst this
      simp only [Lib.signless]
      by_cases h9 : 9223372036854775808 ≤ dv 0 t
      · rw [if_pos h9]
      · rw [if_neg h9]
        simp only []
        split
        · unfold tokStep
          rw [if_neg]
          simp [validB]
          omega
        · rfl
    | _ => rfl
end Go.V.Lx

namespace Go.V.Lx
open Go.Proofs Go.RowKit
set_option linter.unusedSimpArgs false
set_option linter.unusedVariables false
set_option maxRecDepth 100000

/-! ### takeWhile -/
theorem tw_take {α : Type} (p : α → Bool) : ∀ (r : List α) (m : Nat), (r.takeWhile p).length ≤ m → (r.take m).takeWhile p = r.takeWhile p
  | [], m, _ => by simp
  | c :: r, 0, h => by
    cases hc : p c with
    | false => simp [List.takeWhile_cons, hc]
    | true => simp [List.takeWhile_cons, hc] at h
  | c :: r, m + 1, h => by
    rw [List.take_succ_cons, List.takeWhile_cons, List.takeWhile_cons]
    cases hc : p c with
    | false => rfl
    | true =>
      rw [List.takeWhile_cons, hc] at h
      simp only [if_true, List.length_cons] at h ⊢
      rw [tw_take p r m (by omega)]
theorem tw_app {α : Type} (p : α → Bool) : ∀ (r t : List α), (r.takeWhile p).length < r.length → (r ++ t).takeWhile p = r.takeWhile p
  | [], t, h => by simp at h
  | c :: r, t, h => by
    rw [List.cons_append, List.takeWhile_cons, List.takeWhile_cons]
    cases hc : p c with
    | false => rfl
    | true =>
      rw [List.takeWhile_cons, hc] at h
      simp only [if_true, List.length_cons] at h ⊢
      rw [tw_app p r t (by omega)]
theorem tw_stop {α : Type} (p : α → Bool) (r t : List α) (x : α) (hx : p x = false) : (r ++ x :: t).takeWhile p = r.takeWhile p := by
  induction r with
  | nil => simp [List.takeWhile_cons, hx]
  | cons c r ih =>
    rw [List.cons_append, List.takeWhile_cons, List.takeWhile_cons, ih]
theorem tw_all {α : Type} (p : α → Bool) : ∀ (r t : List α), r.all p = true → (∀ x t', t = x :: t' → p x = false) → (r ++ t).takeWhile p = r
  | [], t, _, h => by
    cases t with
    | nil => rfl
    | cons x t => rw [List.nil_append, List.takeWhile_cons, h x t rfl]; rfl
  | c :: r, t, h1, h2 => by
    simp only [List.all_cons, Bool.and_eq_true] at h1
    rw [List.cons_append, List.takeWhile_cons, if_pos h1.1, tw_all p r t h1.2 h2]
theorem tw_eq_take {α : Type} (p : α → Bool) : ∀ (r : List α), r.takeWhile p = r.take (r.takeWhile p).length
  | [] => rfl
  | c :: r => by
    rw [List.takeWhile_cons]
    cases p c with
    | false => rfl
    | true =>
      simp only [if_true, List.length_cons, List.take_succ_cons]
      rw [← tw_eq_take p r]

/-! ### A step, by the first byte -/
def noLf (c : UInt8) : Bool := !(c == 10)
theorem index_len : ∀ (r : List UInt8), (if 0 ≤ Lib.indexByte r 10 then (Lib.indexByte r 10).toNat else r.length) = (r.takeWhile noLf).length
  | [] => rfl
  | c :: r => by
    have ih := index_len r
    have hg := Lib.indexByte_ge r 10
    rw [List.takeWhile_cons]
    unfold Lib.indexByte
    cases hc : (c == 10) with
    | true => simp [noLf, hc]
    | false =>
      simp only [noLf, hc, Bool.not_false, if_true, Bool.false_eq_true, if_false, List.length_cons]
      by_cases h : Lib.indexByte r 10 = -1
      · rw [h] at ih ⊢
        simp at ih ⊢
        exact ih
      · have e : (if (Lib.indexByte r 10 == -1) = true then (-1 : Int) else Lib.indexByte r 10 + 1) = Lib.indexByte r 10 + 1 := if_neg (by simpa using h)
        rw [e, if_pos (by omega)]
        rw [if_pos (by omega)] at ih
        omega
def partB (c : UInt8) : Bool := ([2, 3, 5] : List Int).contains (cls c)
def figB (c : UInt8) : Bool := ([3] : List Int).contains (cls c)
def spB (c : UInt8) : Bool := ([1] : List Int).contains (cls c)
theorem spB_eq (c : UInt8) : spB c = decide (cls c = 1) := contains1 _ _
theorem figB_eq (c : UInt8) : figB c = isFg c.toNat := by rw [← cls_fg]; exact contains1 _ _
theorem partB_eq (c : UInt8) : partB c = isPart c := by rw [cls_part]; simp [partB, Bool.or_assoc, Bool.beq_eq_decide_eq]
def numTok (t : List UInt8) : Step := if dv 0 t ≤ 1099511627776 ∧ lead t = true then some (t.length, [⟨2, [], dv 0 t, 0⟩]) else none
theorem st1 {c : UInt8} {r : List UInt8} (h : cls c = 1) : st (c :: r) = some (((c :: r).takeWhile spB).length, []) := by
  show stepAt (c :: r) 0 c = _
  unfold stepAt
  rw [if_pos h]
  unfold spaceStep runB
  rw [List.drop_zero, Nat.zero_add]
  rfl
theorem st2 {c : UInt8} {r : List UInt8} (h : cls c = 2) : st (c :: r) = tokStep ⟨1, (c :: r).takeWhile partB, 0, 0⟩ 0 ((c :: r).takeWhile partB).length := by
  show stepAt (c :: r) 0 c = _
  unfold stepAt
  rw [if_neg (by omega), if_pos h]
  rfl
theorem st3 {c : UInt8} {r : List UInt8} (h : cls c = 3) : st (c :: r) = numTok ((c :: r).takeWhile figB) := by
  show stepAt (c :: r) 0 c = _
  unfold stepAt
  rw [if_neg (by omega), if_neg (by omega), if_pos h, numStep_eq (c := c) rfl h]
  unfold numTok runB
  rw [List.drop_zero, Nat.zero_add]
  rfl
def isCom (r : List UInt8) : Bool := Lib.hasPrefix r [47, 47]
theorem st4 {c : UInt8} {r : List UInt8} (h : cls c = 4) : st (c :: r) = if isCom (c :: r) = true then some (((c :: r).takeWhile noLf).length, []) else some (1, [⟨3, [c], 0, 0⟩]) := by
  show stepAt (c :: r) 0 c = _
  unfold stepAt
  rw [if_neg (by omega), if_neg (by omega), if_neg (by omega), if_pos h]
  unfold signStep
  rw [List.drop_zero]
  simp only [Nat.zero_add, List.take_succ_cons, List.take_zero, index_len]
  unfold isCom
  split
  · rfl
  · simp [tokStep, validB, oneSign, h]
theorem st5 {c : UInt8} {r : List UInt8} (h1 : cls c ≠ 1) (h2 : cls c ≠ 2) (h3 : cls c ≠ 3) (h4 : cls c ≠ 4) : st (c :: r) = none := by
  show stepAt (c :: r) 0 c = _
  unfold stepAt
  rw [if_neg h1, if_neg h2, if_neg h3, if_neg h4]
theorem com_inv {r : List UInt8} (h : isCom r = true) : ∃ t, r = 47 :: 47 :: t := by
  unfold isCom Lib.hasPrefix at h
  cases r with
  | nil => cases h
  | cons a r =>
    cases r with
    | nil => simp [List.isPrefixOf] at h
    | cons b t =>
      simp [List.isPrefixOf] at h
      exact ⟨t, by rw [← h.1, ← h.2]⟩
theorem com_mk (t : List UInt8) : isCom (47 :: 47 :: t) = true := by simp [isCom, Lib.hasPrefix, List.isPrefixOf]
theorem tokStep_some {x : Tok} {n n' : Nat} {l : List Tok} (h : tokStep x 0 n = some (n', l)) : n' = n ∧ l = [{ x with a := 0 }] ∧ validB x = true := by
  unfold tokStep at h
  split at h
  · rename_i hv
    injection h with h; injection h with h1 h2
    exact ⟨by omega, h2.symm, hv⟩
  · cases h
theorem numTok_some {t : List UInt8} {n : Nat} {l : List Tok} (h : numTok t = some (n, l)) : n = t.length ∧ l = [⟨2, [], dv 0 t, 0⟩] ∧ dv 0 t ≤ 1099511627776 ∧ lead t = true := by
  unfold numTok at h
  split at h
  · rename_i hv
    injection h with h; injection h with h1 h2
    exact ⟨h1.symm, h2.symm, hv⟩
  · cases h
/-- the cases of a step that goes on -/
theorem st_cases {r : List UInt8} {n : Nat} {l : List Tok} (h : st r = some (n, l)) : ∃ c t, r = c :: t ∧
    ((cls c = 1 ∧ n = (r.takeWhile spB).length ∧ l = []) ∨
     (cls c = 2 ∧ n = (r.takeWhile partB).length ∧ l = [⟨1, r.takeWhile partB, 0, 0⟩] ∧ validB ⟨1, r.takeWhile partB, 0, 0⟩ = true) ∨
     (cls c = 3 ∧ n = (r.takeWhile figB).length ∧ l = [⟨2, [], dv 0 (r.takeWhile figB), 0⟩] ∧ dv 0 (r.takeWhile figB) ≤ 1099511627776 ∧ lead (r.takeWhile figB) = true) ∨
     (cls c = 4 ∧ isCom r = true ∧ n = (r.takeWhile noLf).length ∧ l = []) ∨
     (cls c = 4 ∧ isCom r = false ∧ n = 1 ∧ l = [⟨3, [c], 0, 0⟩])) := by
  cases r with
  | nil => cases h
  | cons c t =>
    refine ⟨c, t, rfl, ?_⟩
    by_cases h1 : cls c = 1
    · rw [st1 h1] at h; injection h with h; injection h with h2 h3
      exact .inl ⟨h1, h2.symm, h3.symm⟩
    by_cases h2 : cls c = 2
    · rw [st2 h2] at h
      obtain ⟨h3, h4, h5⟩ := tokStep_some h
      exact .inr (.inl ⟨h2, h3, h4, h5⟩)
    by_cases h3 : cls c = 3
    · rw [st3 h3] at h
      obtain ⟨h4, h5, h6⟩ := numTok_some h
      exact .inr (.inr (.inl ⟨h3, h4, h5, h6⟩))
    by_cases h4 : cls c = 4
    · rw [st4 h4] at h
      split at h
      · rename_i hc
        injection h with h; injection h with h5 h6
        exact .inr (.inr (.inr (.inl ⟨h4, hc, h5.symm, h6.symm⟩)))
      · rename_i hc
        injection h with h; injection h with h5 h6
        exact .inr (.inr (.inr (.inr ⟨h4, by simpa using hc, h5.symm, h6.symm⟩)))
    · rw [st5 h1 h2 h3 h4] at h; cases h
theorem com_take {r : List UInt8} {m : Nat} (h : isCom r = true) (hm : 2 ≤ m) : isCom (r.take m) = true := by
  obtain ⟨t, rfl⟩ := com_inv h
  obtain ⟨k, rfl⟩ : ∃ k, m = k + 2 := ⟨m - 2, by omega⟩
  rw [List.take_succ_cons, List.take_succ_cons]
  exact com_mk _
theorem com_of_take {r : List UInt8} {m : Nat} (h : isCom (r.take m) = true) : isCom r = true := by
  obtain ⟨t, ht⟩ := com_inv h
  have := List.take_append_drop m r
  rw [ht] at this
  rw [← this]
  exact com_mk _
theorem com_of_app {r t : List UInt8} (h : isCom (r ++ t) = true) (hr : 2 ≤ r.length) : isCom r = true := by
  have := com_take (m := 2) h (Nat.le_refl _)
  rw [List.take_append_of_le_length hr] at this
  exact com_of_take this
theorem com_len {r : List UInt8} (h : isCom r = true) : 2 ≤ (r.takeWhile noLf).length := by
  obtain ⟨t, rfl⟩ := com_inv h
  rw [List.takeWhile_cons, if_pos (by decide), List.takeWhile_cons, if_pos (by decide)]
  simp
theorem st_take {r : List UInt8} {n m : Nat} {l : List Tok} (h : st r = some (n, l)) (hm : n ≤ m) : st (r.take m) = some (n, l) := by
  have hp := (st_on h).1
  obtain ⟨c, t, rfl, hc⟩ := st_cases h
  obtain ⟨k, rfl⟩ : ∃ k, m = k + 1 := ⟨m - 1, by omega⟩
  have ht : (c :: t).take (k + 1) = c :: t.take k := rfl
  rcases hc with ⟨h1, h2, h3⟩ | ⟨h1, h2, h3, h4⟩ | ⟨h1, h2, h3, h4, h5⟩ | ⟨h1, h2, h3, h4⟩ | ⟨h1, h2, h3, h4⟩
  · have := tw_take spB (c :: t) (k + 1) (by omega)
    rw [ht, st1 h1, ← ht, this, h2, h3]
  · have := tw_take partB (c :: t) (k + 1) (by omega)
    rw [ht, st2 h1, ← ht, this, ← st2 h1, h]
  · have := tw_take figB (c :: t) (k + 1) (by omega)
    rw [ht, st3 h1, ← ht, this, ← st3 h1, h]
  · have := tw_take noLf (c :: t) (k + 1) (by omega)
    have hl := com_len h2
    rw [ht, st4 h1, ← ht, com_take h2 (by omega), if_pos rfl, this, h3, h4]
  · rw [ht, st4 h1, ← ht, if_neg, h3, h4]
    intro hc
    rw [com_of_take hc] at h2
    cases h2
theorem st_app {r t : List UInt8} {n : Nat} {l : List Tok} (h : st r = some (n, l)) (hn : n < r.length) : st (r ++ t) = some (n, l) := by
  have hp := (st_on h).1
  obtain ⟨c, r, rfl, hc⟩ := st_cases h
  have ht : (c :: r) ++ t = c :: (r ++ t) := rfl
  rcases hc with ⟨h1, h2, h3⟩ | ⟨h1, h2, h3, h4⟩ | ⟨h1, h2, h3, h4, h5⟩ | ⟨h1, h2, h3, h4⟩ | ⟨h1, h2, h3, h4⟩
  · have := tw_app spB (c :: r) t (by omega)
    rw [ht, st1 h1, ← ht, this, h2, h3]
  · have := tw_app partB (c :: r) t (by omega)
    rw [ht, st2 h1, ← ht, this, ← st2 h1, h]
  · have := tw_app figB (c :: r) t (by omega)
    rw [ht, st3 h1, ← ht, this, ← st3 h1, h]
  · have := tw_app noLf (c :: r) t (by omega)
    have hl : isCom (c :: r ++ t) = true := by
      obtain ⟨t', h'⟩ := com_inv h2
      rw [h']
      exact com_mk _
    rw [ht, st4 h1, ← ht, hl, if_pos rfl, this, h3, h4]
  · rw [ht, st4 h1, ← ht, if_neg, h3, h4]
    intro hc
    rw [com_of_app hc (by omega)] at h2
    cases h2
theorem st_none_app {r t : List UInt8} (hr : r ≠ []) (h : st r = none) : st (r ++ 32 :: t) = none := by
  cases r with
  | nil => exact absurd rfl hr
  | cons c r =>
    have ht : (c :: r) ++ 32 :: t = c :: (r ++ 32 :: t) := rfl
    by_cases h1 : cls c = 1
    · rw [st1 h1] at h; cases h
    by_cases h2 : cls c = 2
    · rw [ht, st2 h2, ← ht, tw_stop partB _ _ _ (by decide +kernel), ← st2 h2, h]
    by_cases h3 : cls c = 3
    · rw [ht, st3 h3, ← ht, tw_stop figB _ _ _ (by decide +kernel), ← st3 h3, h]
    by_cases h4 : cls c = 4
    · rw [st4 h4] at h; split at h <;> cases h
    · rw [ht, st5 h1 h2 h3 h4]
theorem LE.bounds {r : List UInt8} {i k : Nat} (h : LE r i k) : i ≤ k ∧ k < i + r.length := by
  induction h with
  | here i hr h =>
    have := List.length_pos_iff.2 hr
    omega
  | step h hk ih =>
    have := st_on h
    rw [List.length_drop] at ih
    omega
theorem LE.more {r : List UInt8} {i k : Nat} (h : LE r i k) (t : List UInt8) : LE (r ++ 32 :: t) i k := by
  induction h with
  | here i hr h => exact .here i (by simp) (st_none_app hr h)
  | step h hk ih =>
    have h1 := hk.bounds
    rw [List.length_drop] at h1
    refine .step (st_app h (by omega)) ?_
    rw [List.drop_append_of_le_length (by omega)]
    exact ih
theorem LE.before {r : List UInt8} {i k : Nat} (h : LE r i k) : ∃ l, LX (r.take (k - i)) i l := by
  induction h with
  | here i hr h => exact ⟨[], by rw [Nat.sub_self, List.take_zero]; exact .nil i⟩
  | @step r i n k l h hk ih =>
    have h1 := hk.bounds
    obtain ⟨l', h2⟩ := ih
    refine ⟨_, .step (st_take (m := k - i) h (by omega)) (l' := l') ?_⟩
    rw [List.drop_take, show k - i - n = k - (i + n) by omega]
    exact h2
theorem LE.from {r : List UInt8} {i k : Nat} (h : LE r i k) : st (r.drop (k - i)) = none ∧ r.drop (k - i) ≠ [] := by
  induction h with
  | here i hr h => rw [Nat.sub_self, List.drop_zero]; exact ⟨h, hr⟩
  | @step r i n k l h hk ih =>
    have h1 := hk.bounds
    rw [List.drop_drop, show n + (k - (i + n)) = k - i by omega] at ih
    exact ih

/-! ### Words -/
theorem itoa_figs (u : Nat) : figs (Lib.decDigits u) = true ∧ dv 0 (Lib.decDigits u) = u ∧ lead (Lib.decDigits u) = true := by
  have h12 : figs (Lib.decDigits u) = true ∧ dv 0 (Lib.decDigits u) = u := by
    induction u using Nat.strongRecOn with
    | _ u ih =>
      have hd : ∀ k, k < 10 → (UInt8.ofNat (48 + k)).toNat = 48 + k := fun k hk => by
        rw [UInt8.toNat_ofNat']
        omega
      by_cases h : u < 10
      · rw [Lib.decDigits_one h, dv_one, hd u h]
        simp only [figs, List.all_cons, List.all_nil, Bool.and_true]
        exact ⟨by rw [fg_iff, hd u h]; omega, by omega⟩
      · obtain ⟨h1, h2⟩ := ih (u / 10) (by omega)
        rw [Lib.decDigits, dif_neg h, dv_snoc, h2, hd _ (by omega)]
        refine ⟨?_, by omega⟩
        unfold figs at h1 ⊢
        rw [List.all_append, h1]
        simp only [List.all_cons, List.all_nil, Bool.and_true, Bool.true_and]
        rw [fg_iff, hd _ (by omega)]
        omega
  refine ⟨h12.1, h12.2, ?_⟩
  unfold lead
  by_cases h : u < 10
  · rw [Lib.decDigits_one h]; rfl
  · obtain ⟨c, r, h1, h2⟩ := dec_head u (by omega)
    rw [h1]
    simp [h2]
/-- what may follow a word -/
def Stops (t : List UInt8) : Prop := ∀ c t', t = c :: t' → cls c = 1
theorem stops_nil : Stops [] := fun c t' h => by cases h
theorem stops_blank (t : List UInt8) : Stops (32 :: t) := fun c t' h => by
  injection h with h1 h2
  subst h1
  exact cls_blank
theorem dec_cons (u : Nat) : ∃ c r, Lib.decDigits u = c :: r := by
  rw [Lib.decDigits]
  split
  · exact ⟨_, _, rfl⟩
  · cases h : Lib.decDigits (u / 10) with
    | nil => exact ⟨_, _, rfl⟩
    | cons c r => exact ⟨c, _, rfl⟩
theorem cls_of_fg {c : UInt8} (h : isFg c.toNat = true) : cls c = 3 := by
  have := cls_fg c
  rw [h] at this
  simpa using this
theorem cls_of_lt {c : UInt8} (h : isLt c.toNat = true) : cls c = 2 := by
  have := cls_lt c
  rw [h] at this
  simpa using this
theorem st_word {x : Tok} {t : List UInt8} (h : validB x = true) (ht : Stops t) : st (word x ++ t) = some ((word x).length, [{ x with a := 0 }]) := by
  obtain ⟨k, w, n, a⟩ := x
  unfold validB at h
  by_cases k1 : k = 1
  · subst k1
    simp only [if_true, Bool.and_eq_true, decide_eq_true_eq] at h
    obtain ⟨h1, h2⟩ := h
    subst h2
    have hw : word ⟨1, w, 0, a⟩ = w := rfl
    rw [hw]
    cases w with
    | nil => cases h1
    | cons c r =>
      have h1' := h1
      simp only [nameB, Bool.and_eq_true] at h1
      have hall : (c :: r).all partB = true := by
        have e : partB = isPart := by funext c; exact partB_eq c
        rw [e]; exact h1.2
      have htw : ((c :: r) ++ t).takeWhile partB = c :: r := tw_all partB (c :: r) t hall fun x t' h => by
        have := ht x t' h
        unfold partB
        rw [this]; rfl
      rw [List.cons_append] at htw ⊢
      rw [st2 (cls_of_lt h1.1.2), htw]
      simp only [tokStep, validB, if_true, h1', decide_true, Bool.and_self, Nat.zero_add]
      rfl
  rw [if_neg k1] at h
  by_cases k2 : k = 2
  · subst k2
    simp only [if_true, Bool.and_eq_true, decide_eq_true_eq] at h
    obtain ⟨⟨h1, h2⟩, h3⟩ := h
    subst h1
    obtain ⟨u, rfl⟩ : ∃ u : Nat, n = u := ⟨n.toNat, by omega⟩
    have hw : word ⟨2, [], u, a⟩ = Lib.decDigits u := by
      unfold word
      rw [if_pos rfl]
      exact Lib.itoa_nonneg u
    rw [hw]
    obtain ⟨f1, f2, f3⟩ := itoa_figs u
    have hall : (Lib.decDigits u).all figB = true := by
      have e : figB = fun c => isFg c.toNat := by funext c; exact figB_eq c
      rw [e]; exact f1
    have htw : (Lib.decDigits u ++ t).takeWhile figB = Lib.decDigits u := tw_all figB _ t hall fun x t' h => by
      have := ht x t' h
      unfold figB
      rw [this]; rfl
    obtain ⟨c, r, hc⟩ := dec_cons u
    have hcf : isFg c.toNat = true := by
      unfold figs at f1
      rw [hc, List.all_cons, Bool.and_eq_true] at f1
      exact f1.1
    have e : Lib.decDigits u ++ t = c :: (r ++ t) := by rw [hc]; rfl
    rw [e, st3 (cls_of_fg hcf), ← e, htw]
    unfold numTok
    rw [f2, if_pos ⟨by omega, f3⟩]
  rw [if_neg k2] at h
  by_cases k3 : k = 3
  · subst k3
    simp only [if_true, Bool.and_eq_true, decide_eq_true_eq] at h
    obtain ⟨h1, h2⟩ := h
    subst h2
    have hw : word ⟨3, w, 0, a⟩ = w := rfl
    rw [hw]
    match w, h1 with
    | [c], h1 =>
      have hc : cls c = 4 := by simpa [oneSign] using h1
      rw [List.cons_append, List.nil_append, st4 hc, if_neg]
      · rfl
      · intro h
        obtain ⟨t', h'⟩ := com_inv h
        injection h' with h3 h4
        have := ht _ _ h4
        rw [cls_slash] at this
        omega
  · rw [if_neg k3] at h
    cases h
theorem word_pos {x : Tok} (h : validB x = true) : 0 < (word x).length := (st_on (st_word h stops_nil)).1
/-- what a step takes is the word of its token -/
theorem st_is_word {r : List UInt8} {n : Nat} {x : Tok} {l : List Tok} (h : st r = some (n, x :: l)) : l = [] ∧ validB x = true ∧ word x = r.take n ∧ x.a = 0 := by
  obtain ⟨c, t, rfl, hc⟩ := st_cases h
  rcases hc with ⟨h1, h2, h3⟩ | ⟨h1, h2, h3, h4⟩ | ⟨h1, h2, h3, h4, h5⟩ | ⟨h1, h2, h3, h4⟩ | ⟨h1, h2, h3, h4⟩
  · cases h3
  · injection h3 with h5 h6
    subst h5; subst h6
    exact ⟨rfl, h4, by rw [h2]; exact tw_eq_take _ _, rfl⟩
  · injection h3 with h6 h7
    subst h6; subst h7
    refine ⟨rfl, ?_, ?_, rfl⟩
    · simp [validB]; omega
    · have hf : figs ((c :: t).takeWhile figB) = true := by
        unfold figs
        rw [List.all_eq_true]
        intro x hx
        have := List.all_eq_true.1 (List.all_takeWhile (l := c :: t) (p := figB)) x hx
        rwa [figB_eq] at this
      have hne : (c :: t).takeWhile figB ≠ [] := by
        rw [List.takeWhile_cons, if_pos (by simp [figB, h1])]
        simp
      have hw : word ⟨2, [], dv 0 ((c :: t).takeWhile figB), 0⟩ = Lib.itoa (dv 0 ((c :: t).takeWhile figB) : Int) := rfl
      rw [hw, (itoa_dv hne hf).2 h5, h2]
      exact tw_eq_take _ _
  · cases h4
  · injection h4 with h5 h6
    subst h5; subst h6
    refine ⟨rfl, ?_, ?_, rfl⟩
    · simp [validB, oneSign, h1]
    · rw [h3]; rfl
theorem valid_at (x : Tok) (i : Nat) : validB (atT i x) = validB x := rfl
theorem word_at (x : Tok) (i : Nat) : word (atT i x) = word x := rfl
/-- the tokens of a source: valid, not longer than the source -/
theorem LX.facts {r : List UInt8} {i : Nat} {l : List Tok} (h : LX r i l) : l.all validB = true ∧ ((l.map word).flatten).length ≤ r.length ∧ l.length ≤ r.length := by
  induction h with
  | nil i => simp
  | @step r i n l l' h k ih =>
    obtain ⟨i1, i2, i3⟩ := ih
    have h1 := st_on h
    rw [List.length_drop] at i2 i3
    match l, h, h1 with
    | [], h, h1 =>
      refine ⟨i1, ?_, ?_⟩
      · simp only [List.map_nil, List.nil_append]; omega
      · simp only [List.map_nil, List.nil_append]; omega
    | x :: l, h, h1 =>
      obtain ⟨rfl, h2, h3, h4⟩ := st_is_word h
      refine ⟨?_, ?_, ?_⟩
      · simp only [List.map_cons, List.map_nil, List.cons_append, List.nil_append, List.all_cons, i1, valid_at, h2, Bool.and_self]
      · simp only [List.map_cons, List.map_nil, List.cons_append, List.nil_append, List.flatten_cons, List.length_append, word_at, h3, List.length_take]
        omega
      · simp only [List.map_cons, List.map_nil, List.cons_append, List.nil_append, List.length_cons]
        omega
theorem same1_at (x : Tok) (i : Nat) : same1 x (atT i x) = true := by simp [same1, atT]
theorem same1_refl (x : Tok) : same1 x x = true := by simp [same1]
theorem sameL_refl : ∀ l : List Tok, sameL l l = true
  | [] => rfl
  | x :: l => by simp [sameL, same1_refl, sameL_refl l]
theorem atT_zero {x : Tok} (i : Nat) : atT i { x with a := 0 } = atT i x := rfl
/-- words with blanks between them have their tokens -/
theorem lx_words : ∀ (l : List Tok) (i : Nat), l.all validB = true → ∃ l', LX (Lib.join (l.map word) [32]) i l' ∧ sameL l l' = true
  | [], i, _ => ⟨[], .nil i, rfl⟩
  | [x], i, h => by
    simp only [List.all_cons, List.all_nil, Bool.and_true] at h
    have hs := st_word h stops_nil
    rw [List.append_nil] at hs
    refine ⟨[atT i x], ?_, by simp [sameL, same1_at]⟩
    rw [List.map_cons, List.map_nil, Lib.join_one]
    exact LX.step (i := i) hs (l' := []) (by rw [List.drop_length]; exact .nil _)
  | x :: y :: l, i, h => by
    rw [List.all_cons, Bool.and_eq_true] at h
    obtain ⟨l', h1, h2⟩ := lx_words (y :: l) (i + (word x).length + 1) h.2
    have hj : Lib.join ((x :: y :: l).map word) [32] = word x ++ 32 :: Lib.join ((y :: l).map word) [32] := by
      simp only [List.map_cons]
      rw [Lib.join_cons, Lib.join_cons]
      simp [Lib.joinTail]
    have hs := st_word h.1 (stops_blank (Lib.join ((y :: l).map word) [32]))
    refine ⟨atT i x :: l', ?_, by rw [sameL, same1_at, h2]; rfl⟩
    rw [hj]
    refine LX.step (i := i) (l' := l') hs ?_
    rw [List.drop_left]
    exact h1.space cls_blank

/-! ### Between the tokens -/
def gapC : Bool → List UInt8 → Option Bool
  | b, [] => some b
  | b, c :: r => if !(noLf c && (b || (c == 47 && r.head? == some 47))) && !isSp c.toNat then none else gapC (noLf c && (b || (c == 47 && r.head? == some 47))) r
/-- in no comment, or at its end -/
def EndC (b : Bool) (r : List UInt8) : Prop := b = false ∨ r = [] ∨ ∃ t, r = 10 :: t
theorem sp_no {c : UInt8} (h : cls c = 1) : (c == 47) = false ∧ isSp c.toNat = true := by
  constructor
  · cases hc : (c == 47) with
    | false => rfl
    | true =>
      have : c = 47 := by simpa using hc
      subst this
      rw [cls_slash] at h; omega
  · rw [← cls_sp]; simpa using h
theorem gap_sp : ∀ (g t : List UInt8), g.all spB = true → gapC false (g ++ t) = gapC false t
  | [], t, _ => rfl
  | c :: g, t, h => by
    rw [List.all_cons, Bool.and_eq_true] at h
    obtain ⟨h1, h2⟩ := sp_no (c := c) (by have := h.1; rw [spB_eq] at this; simpa using this)
    rw [List.cons_append, gapC]
    simp only [h1, h2, Bool.false_and, Bool.or_self, Bool.and_false, Bool.not_false, Bool.not_true, Bool.false_eq_true, if_false]
    exact gap_sp g t h.2
theorem gap_sp' {c : UInt8} {g t : List UInt8} {b : Bool} (h : (c :: g).all spB = true) (hb : b = false ∨ c = 10) : gapC b (c :: g ++ t) = gapC false t := by
  rcases hb with rfl | rfl
  · exact gap_sp _ t h
  · rw [List.all_cons, Bool.and_eq_true] at h
    rw [List.cons_append, gapC]
    have e1 : noLf 10 = false := by decide
    have e2 : isSp (10 : UInt8).toNat = true := by decide
    simp only [e1, e2, Bool.false_and, Bool.not_false, Bool.not_true, Bool.and_false, Bool.false_eq_true, if_false]
    exact gap_sp g t h.2
theorem gap_in : ∀ (g t : List UInt8), g.all noLf = true → gapC true (g ++ t) = gapC true t
  | [], t, _ => rfl
  | c :: g, t, h => by
    rw [List.all_cons, Bool.and_eq_true] at h
    rw [List.cons_append, gapC]
    simp only [h.1, Bool.true_or, Bool.and_self, Bool.not_true, Bool.false_and, Bool.false_eq_true, if_false]
    exact gap_in g t h.2
theorem gap_com {g t : List UInt8} (h : g.all noLf = true) : gapC false (47 :: 47 :: g ++ t) = gapC true t := by
  rw [List.cons_append, List.cons_append, gapC]
  have e1 : noLf 47 = true := by decide
  simp only [e1, Bool.true_and, beq_self_eq_true, List.head?_cons, Bool.or_true, Bool.not_true, Bool.false_and, Bool.false_eq_true, if_false]
  exact gap_in (47 :: g) t (by rw [List.all_cons, h, e1]; rfl)
theorem tw_drop {α : Type} (p : α → Bool) (r : List α) : r = r.takeWhile p ++ r.drop (r.takeWhile p).length := by
  conv => lhs; rw [← List.take_append_drop (r.takeWhile p).length r]
  rw [← tw_eq_take]
theorem drop_tw {α : Type} (p : α → Bool) : ∀ (r : List α), r.drop (r.takeWhile p).length = [] ∨ ∃ c t, r.drop (r.takeWhile p).length = c :: t ∧ p c = false
  | [] => .inl rfl
  | c :: r => by
    rw [List.takeWhile_cons]
    cases h : p c with
    | false => exact .inr ⟨c, r, rfl, h⟩
    | true =>
      simp only [if_true, List.length_cons, List.drop_succ_cons]
      exact drop_tw p r
/-- What stands between the tokens of a source. -/
def Gaps : Bool → List UInt8 → Nat → List Tok → Prop
  | b, r, i, [] => (gapC b r).isSome = true
  | b, r, i, x :: l => ∃ g r', r = g ++ (word x ++ r') ∧ x.a = ((i + g.length : Nat) : Int) ∧ 0 < (word x).length ∧ gapC b g = some false ∧ Gaps false r' (i + g.length + (word x).length) l
theorem LX.gaps {r : List UInt8} {i : Nat} {l : List Tok} (h : LX r i l) : ∀ b, EndC b r → Gaps b r i l := by
  induction h with
  | nil i => intro b _; rfl
  | @step r i n l l' h k ih =>
    intro b hb
    have hon := st_on h
    obtain ⟨c, t, rfl, hc⟩ := st_cases h
    have skip : ∀ (g : List UInt8) (b' : Bool), (c :: t) = g ++ (c :: t).drop n → n = g.length → (∀ t', gapC b (g ++ t') = gapC b' t') → EndC b' ((c :: t).drop n) → Gaps b (c :: t) i l' := by
      intro g b' hg hn hgap he
      have ih := ih b' he
      cases l' with
      | nil =>
        show (gapC b (c :: t)).isSome = true
        rw [hg, hgap]
        exact ih
      | cons x l' =>
        obtain ⟨g', r', h1, h2, h3, h4, h5⟩ := ih
        refine ⟨g ++ g', r', ?_, ?_, h3, ?_, ?_⟩
        · rw [List.append_assoc, ← h1]; exact hg
        · rw [h2, List.length_append, hn, Nat.add_assoc]
        · rw [hgap]; exact h4
        · rw [List.length_append, ← Nat.add_assoc, ← hn]; exact h5
    rcases hc with ⟨h1, h2, h3⟩ | ⟨h1, h2, h3, h4⟩ | ⟨h1, h2, h3, h4, h5⟩ | ⟨h1, h2, h3, h4⟩ | ⟨h1, h2, h3, h4⟩
    · subst h3
      have e : (c :: t).takeWhile spB = c :: t.takeWhile spB := by rw [List.takeWhile_cons, if_pos (by rw [spB_eq]; simpa using h1)]
      refine skip ((c :: t).takeWhile spB) false (by rw [h2]; exact tw_drop _ _) h2 (fun t' => ?_) (.inl rfl)
      rw [e]
      refine gap_sp' (by rw [← e]; exact List.all_takeWhile) ?_
      rcases hb with hb | hb | ⟨t', hb⟩
      · exact .inl hb
      · cases hb
      · injection hb with hb; exact .inr hb
    case inr.inr.inr.inl =>
      subst h4
      obtain ⟨t', ht⟩ := com_inv h2
      injection ht with h5 h6
      subst h5; subst h6
      have hbf : b = false := by
        rcases hb with hb | hb | ⟨t', hb⟩
        · exact hb
        · cases hb
        · injection hb with hb; exact absurd hb (by decide)
      subst hbf
      have e : (47 :: 47 :: t').takeWhile noLf = 47 :: 47 :: t'.takeWhile noLf := by
        rw [List.takeWhile_cons, if_pos (by decide), List.takeWhile_cons, if_pos (by decide)]
      refine skip ((47 :: 47 :: t').takeWhile noLf) true (by rw [h3]; exact tw_drop _ _) h3 (fun t2 => ?_) ?_
      · rw [e]
        exact gap_com List.all_takeWhile
      · rcases drop_tw noLf (47 :: 47 :: t') with h7 | ⟨c, t2, h7, h8⟩
        · exact .inr (.inl (by rw [h3]; exact h7))
        · refine .inr (.inr ⟨t2, ?_⟩)
          rw [h3, h7]
          have : c = 10 := by simpa [noLf] using h8
          rw [this]
    all_goals
      obtain ⟨x, rfl⟩ : ∃ x, l = [x] := by first | exact ⟨_, h3⟩ | exact ⟨_, h4⟩
      obtain ⟨_, h7, h8, h9⟩ := st_is_word h
      have hbf : b = false := by
        rcases hb with hb | hb | ⟨t', hb⟩
        · exact hb
        · cases hb
        · injection hb with hb
          subst hb
          rw [cls_lf] at h1
          omega
      subst hbf
      refine ⟨[], (c :: t).drop n, ?_, ?_, ?_, rfl, ?_⟩
      · rw [List.nil_append, word_at, h8, List.take_append_drop]
      · rfl
      · rw [word_at]; exact word_pos h7
      · have : (word (atT i x)).length = n := by rw [word_at, h8, List.length_take]; omega
        rw [this]
        exact ih false (.inl rfl)
end Go.V.Lx
