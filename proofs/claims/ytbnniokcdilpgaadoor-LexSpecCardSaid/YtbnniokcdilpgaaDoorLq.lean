/-
  Lex: numbers and classes, with no program in sight.
-/
import Derived.Test.YtbnniokcdilpgaaDoorLp
import Derived.Lib.ItoaMem
namespace Go.V.Lx
open Go.Proofs Go.RowKit
set_option linter.unusedSimpArgs false
set_option linter.unusedVariables false

theorem all8 {p : UInt8 → Bool} (h : ((List.range 256).all fun n => p (UInt8.ofNat n)) = true) (c : UInt8) : p c = true := by
  have := List.all_eq_true.1 h c.toNat (List.mem_range.2 (by have := c.toNat_lt; omega))
  rwa [UInt8.ofNat_toNat] at this
theorem cls_sp (c : UInt8) : decide (cls c = 1) = isSp c.toNat := by
  have := all8 (p := fun c => decide (cls c = 1) == isSp c.toNat) (by decide +kernel) c
  exact beq_iff_eq.1 this
theorem cls_fg (c : UInt8) : decide (cls c = 3) = isFg c.toNat := by
  have := all8 (p := fun c => decide (cls c = 3) == isFg c.toNat) (by decide +kernel) c
  exact beq_iff_eq.1 this
theorem cls_sg (c : UInt8) : decide (cls c = 4) = isSg c := by
  have := all8 (p := fun c => decide (cls c = 4) == isSg c) (by decide +kernel) c
  exact beq_iff_eq.1 this
theorem sg_signs (c : UInt8) : isSg c = signs.contains c := by
  have := all8 (p := fun c => isSg c == signs.contains c) (by decide +kernel) c
  exact beq_iff_eq.1 this
theorem cls_slash : cls 47 = 4 := by decide +kernel
theorem cls_lf : cls 10 = 1 := by decide +kernel
theorem cls_blank : cls 32 = 1 := by decide +kernel
theorem fg_iff (c : UInt8) : isFg c.toNat = true ↔ 48 ≤ c.toNat ∧ c.toNat ≤ 57 := by
  simp [isFg, Bool.and_eq_true, decide_eq_true_eq]; omega

def dv (acc : Nat) : List UInt8 → Nat
  | [] => acc
  | c :: r => dv (10 * acc + (c.toNat - 48)) r
theorem dv_ge : ∀ (l : List UInt8) (acc : Nat), acc ≤ dv acc l
  | [], acc => Nat.le_refl _
  | c :: r, acc => Nat.le_trans (by omega) (dv_ge r (10 * acc + (c.toNat - 48)))
theorem dv_one (c : UInt8) : dv 0 [c] = c.toNat - 48 := (show 10 * 0 + (c.toNat - 48) = c.toNat - 48 by omega)
theorem dv_snoc : ∀ (l : List UInt8) (acc : Nat) (c : UInt8), dv acc (l ++ [c]) = 10 * dv acc l + (c.toNat - 48)
  | [], acc, c => rfl
  | x :: r, acc, c => dv_snoc r _ c
theorem dv_app : ∀ (l m : List UInt8) (acc : Nat), dv acc (l ++ m) = dv (dv acc l) m
  | [], m, acc => rfl
  | x :: r, m, acc => dv_app r m _
def figs (t : List UInt8) : Bool := t.all fun c => isFg c.toNat
theorem parse_ok (l : List UInt8) : ∀ (acc : Nat), figs l = true → dv acc l < 9223372036854775808 → Lib.parseUint10 acc l = .ok (dv acc l) := by
  induction l with
  | nil => intro acc _ _; rfl
  | cons c r ih =>
    intro acc h hb
    simp only [figs, List.all_cons, Bool.and_eq_true] at h
    have h1 := (fg_iff c).1 h.1
    have h2 := dv_ge r (10 * acc + (c.toNat - 48))
    have h3 := ih (10 * acc + (c.toNat - 48)) h.2 hb
    have hb' : dv (10 * acc + (c.toNat - 48)) r < 9223372036854775808 := hb
    have e0 : acc * 10 = 10 * acc := Nat.mul_comm _ _
    have e1 : ¬ 1844674407370955162 ≤ acc := by omega
    have e2 : ¬ 18446744073709551616 ≤ acc * 10 + (c.toNat - 48) := by omega
    unfold Lib.parseUint10
    rw [if_pos h1, if_neg e1, if_neg e2, e0]
    exact h3
theorem parse_val : ∀ (l : List UInt8) (acc u : Nat), figs l = true → Lib.parseUint10 acc l = .ok u → u = dv acc l
  | [], acc, u, _, h => by simp only [Lib.parseUint10] at h; injection h with h; exact h.symm
  | c :: r, acc, u, hf, h => by
    simp only [figs, List.all_cons, Bool.and_eq_true] at hf
    have h1 := (fg_iff c).1 hf.1
    simp only [Lib.parseUint10] at h
    rw [if_pos h1] at h
    split at h
    · cases h
    split at h
    · cases h
    · rw [Nat.mul_comm acc 10] at h
      exact parse_val r _ u hf.2 h
theorem fg_no {c : UInt8} (h : isFg c.toNat = true) : c.toNat ≠ 43 ∧ c.toNat ≠ 45 := by
  have := (fg_iff c).1 h
  omega
theorem atoi_figs {t : List UInt8} (hn : t ≠ []) (hf : figs t = true) : Lib.atoiAll t = Lib.signless (Lib.parseUint10 0 t) := by
  cases t with
  | nil => exact absurd rfl hn
  | cons c r =>
    have h1 : isFg c.toNat = true := by
      simp only [figs, List.all_cons, Bool.and_eq_true] at hf; exact hf.1
    obtain ⟨h43, h45⟩ := fg_no h1
    rw [Lib.atoiAll_plain c r h43 h45]
    rfl
theorem dec_head : ∀ (u : Nat), 1 ≤ u → ∃ c r, Lib.decDigits u = c :: r ∧ c ≠ 48 := by
  intro u
  induction u using Nat.strongRecOn with
  | _ u ih =>
    intro h1
    by_cases h : u < 10
    · refine ⟨_, _, Lib.decDigits_one h, fun h2 => ?_⟩
      have := congrArg UInt8.toNat h2
      simp [UInt8.toNat_ofNat] at this
      omega
    · obtain ⟨c, r, h2, h3⟩ := ih (u / 10) (by omega) (by omega)
      refine ⟨c, r ++ [UInt8.ofNat (48 + u % 10)], ?_, h3⟩
      rw [Lib.decDigits, dif_neg h, h2]
      rfl
def lead (t : List UInt8) : Bool := decide (t.length = 1) || !(t.head? == some 48)
theorem byte_of {c : UInt8} (h : 48 ≤ c.toNat ∧ c.toNat ≤ 57) : UInt8.ofNat (48 + (c.toNat - 48)) = c := by
  rw [show 48 + (c.toNat - 48) = c.toNat by omega, UInt8.ofNat_toNat]
theorem dv_pos {t : List UInt8} (hf : figs t = true) (hn : t ≠ []) (hl : (t.head? == some 48) = false) : 1 ≤ dv 0 t := by
  cases t with
  | nil => exact absurd rfl hn
  | cons x r =>
    have hx := (fg_iff x).1 (List.all_eq_true.1 hf x (by simp))
    have : x.toNat ≠ 48 := fun e => by
      have : x = 48 := UInt8.toNat_inj.1 e
      subst this
      simp at hl
    have h := dv_ge r (10 * 0 + (x.toNat - 48))
    have e : dv 0 (x :: r) = dv (10 * 0 + (x.toNat - 48)) r := rfl
    omega
theorem dec_snoc {t : List UInt8} {c : UInt8} (h1 : 1 ≤ dv 0 t) (h : 48 ≤ c.toNat ∧ c.toNat ≤ 57) (ih : Lib.decDigits (dv 0 t) = t) : Lib.decDigits (dv 0 (t ++ [c])) = t ++ [c] := by
  rw [dv_snoc]
  generalize dv 0 t = u at h1 ih
  have e1 : (10 * u + (c.toNat - 48)) / 10 = u := by omega
  have e2 : (10 * u + (c.toNat - 48)) % 10 = c.toNat - 48 := by omega
  have e3 : ¬ 10 * u + (c.toNat - 48) < 10 := by omega
  rw [Lib.decDigits, dif_neg e3, e1, e2, ih, byte_of h]
theorem dec_dv (n : Nat) : ∀ (t : List UInt8), t.length = n + 1 → figs t = true → lead t = true → Lib.decDigits (dv 0 t) = t := by
  induction n with
  | zero =>
    intro t hn hf hl
    obtain ⟨c, rfl⟩ := List.length_eq_one_iff.1 hn
    simp only [figs, List.all_cons, List.all_nil, Bool.and_true] at hf
    have h := (fg_iff c).1 hf
    have e : dv 0 [c] = c.toNat - 48 := (show 10 * 0 + (c.toNat - 48) = c.toNat - 48 by omega)
    rw [e, Lib.decDigits_one (by omega), byte_of h]
  | succ n ihn =>
    intro t hn hf hl
    rcases List.eq_nil_or_concat t with rfl | ⟨t', c, rfl⟩
    · simp at hn
    · rw [List.concat_eq_append] at hn hf hl ⊢
      rw [List.length_append, List.length_cons, List.length_nil] at hn
      simp only [figs, List.all_append, List.all_cons, List.all_nil, Bool.and_true, Bool.and_eq_true] at hf
      have h := (fg_iff c).1 hf.2
      have hne : t' ≠ [] := by
        intro e; subst e; simp at hn
      have hh : (t' ++ [c]).head? = t'.head? := by
        cases t' with
        | nil => exact absurd rfl hne
        | cons x r => rfl
      have hl' : (t'.head? == some 48) = false := by
        unfold lead at hl
        rw [hh, List.length_append, List.length_cons, List.length_nil, decide_eq_false (by omega), Bool.false_or] at hl
        simpa using hl
      have ih := ihn t' (by omega) hf.1 (by unfold lead; rw [hl']; simp)
      exact dec_snoc (dv_pos hf.1 hne hl') h ih
theorem itoa_dv {t : List UInt8} (hn : t ≠ []) (hf : figs t = true) : Lib.itoa (dv 0 t : Int) = t ↔ lead t = true := by
  rw [Lib.itoa_nonneg]
  constructor
  · intro h
    unfold lead
    by_cases h1 : dv 0 t = 0
    · rw [h1, Lib.decDigits_one (by decide)] at h
      rw [← h]; rfl
    · obtain ⟨c, r, h2, h3⟩ := dec_head (dv 0 t) (by omega)
      rw [h] at h2
      rw [h2]
      simp [h3]
  · intro h
    have : 0 < t.length := List.length_pos_iff.2 hn
    exact dec_dv (t.length - 1) t (by omega) hf h
theorem numStep_eq {s : List UInt8} {i : Nat} {c : UInt8} (hx : s[i]? = some c) (hc : cls c = 3) : numStep s i = if dv 0 (runB [3] s i) ≤ 1099511627776 ∧ lead (runB [3] s i) = true then some (i + (runB [3] s i).length, [⟨2, [], dv 0 (runB [3] s i), i⟩]) else none := by
  have hp := runB_pos (p := [3]) hx (by simp [hc])
  have hf : figs (runB [3] s i) = true := by
    unfold figs runB
    rw [List.all_eq_true]
    intro x h
    have := List.all_eq_true.1 (List.all_takeWhile (l := s.drop i) (p := fun c => ([3] : List Int).contains (cls c))) x h
    rw [← cls_fg]
    simpa using this
  unfold numStep
  generalize runB [3] s i = t at hp hf ⊢
  have hn : t ≠ [] := List.length_pos_iff.1 hp
  rw [atoi_figs hn hf]
  by_cases h : dv 0 t ≤ 1099511627776
  · rw [parse_ok t 0 hf (by omega)]
    simp only [Lib.signless]
    rw [if_neg (by omega)]
    simp only [itoa_dv hn hf, h, true_and]
    split
    · simp [tokStep, validB, h]; omega
    · rfl
  · rw [if_neg (fun h' => h h'.1)]
    cases hu : Lib.parseUint10 0 t with
    | ok u =>
      have := parse_val t 0 u hf hu
      subst this
      simp only [Lib.signless]
      by_cases h9 : 9223372036854775808 ≤ dv 0 t
      · rw [if_pos h9]
      · rw [if_neg h9]
        simp only []
        split
        · unfold tokStep
          rw [if_neg]
          simp [validB]
          omega
        · rfl
    | _ => rfl
end Go.V.Lx
