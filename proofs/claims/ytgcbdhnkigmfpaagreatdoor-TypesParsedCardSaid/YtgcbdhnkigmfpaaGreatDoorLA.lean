/-
  Lex: plain data and what the functions compute.
  Lex: the functions of the program, on data.
  Lex: names, validity.
-/
import Derived.Test.YtgcbdhnkigmfpaaGreatDoorLs
import Derived.Test.YtgcbdhnkigmfpaaGreatDoorVD
namespace Go.V.Lx
open Go.Proofs Go.RowKit
set_option linter.unusedSimpArgs false
set_option linter.unusedVariables false
set_option maxRecDepth 100000

structure Tok where
  k : Int
  t : List UInt8
  n : Int
  a : Int
  deriving DecidableEq
def Tok.d (x : Tok) : D := .agg [.int .i64 x.k, .str x.t, .int .i64 x.n, .int .i64 x.a]
def toks (l : List Tok) : D := .sl 4 (l.map Tok.d)
def scD (s : List UInt8) (i : Int) (x : D) : D := .agg [.str s, .int .i64 i, x]
def signs : List UInt8 := [123, 125, 40, 41, 59, 44, 61, 58, 46, 60, 62, 33, 43, 45, 42, 47]
def isLt (n : Int) : Bool := decide (97 ≤ n) && decide (n ≤ 122) || decide (65 ≤ n) && decide (n ≤ 90)
def isFg (n : Int) : Bool := decide (48 ≤ n) && decide (n ≤ 57)
def isSp (n : Int) : Bool := n == 32 || n == 9 || n == 10 || n == 13
def isSg (c : UInt8) : Bool := decide (0 ≤ Lib.indexByte signs c)
def cls (c : UInt8) : Int := if isLt c.toNat then 2 else if isFg c.toNat then 3 else if (c.toNat : Int) == 95 then 5 else if isSp c.toNat then 1 else if isSg c then 4 else 0
def isPart (c : UInt8) : Bool := isLt c.toNat || isFg c.toNat || (c.toNat : Int) == 95
def nameB (s : List UInt8) : Bool := match s with
  | [] => false
  | c :: _ => decide (s.length ≤ 32) && isLt c.toNat && s.all isPart
def oneSign : List UInt8 → Bool
  | [c] => decide (cls c = 4)
  | _ => false
def validB (x : Tok) : Bool :=
  if x.k = 1 then nameB x.t && decide (x.n = 0)
  else if x.k = 2 then decide (x.t = []) && decide (0 ≤ x.n) && decide (x.n ≤ 1099511627776)
  else if x.k = 3 then oneSign x.t && decide (x.n = 0)
  else false
theorem weak_eq {x y : D} (h : x = y) : Weak x y := h ▸ .refl _
theorem pureO {tab : List (Nat × List (Nat × Nat))} {base nxt lo : Nat} {yl : Option (List (List D) × Nat × Nat)} {pn df : Bool} {P : Program} {bx : Bxs} {f : Nat} {ds : List D} {K2 : Cl → D → Bxs → Prop} {d : D} (h : CallsTo P f ds d) (hp : D.pureL ds = true) (hk : K2 .n d bx) : callD ⟨orac P, tab, base, nxt, lo, yl, pn, df⟩ f ds bx K2 := call_pure h hp hk
theorem pureT {tab : List (Nat × List (Nat × Nat))} {base nxt lo : Nat} {yl : Option (List (List D) × Nat × Nat)} {pn df : Bool} {P : Program} {tb : FuncId → Nat → List D → Bxs → (D → Bxs → Prop) → (D → Bxs → Prop) → Prop} {it : FuncId → List D → List (List D) → Nat → Prop} {bx : Bxs} {f : Nat} {ds : List D} {K2 : Cl → D → Bxs → Prop} {d : D} (h : CallsTo P f ds d) (hp : D.pureL ds = true) (hk : K2 .n d bx) : callD ⟨⟨(orac P).to, tb, it⟩, tab, base, nxt, lo, yl, pn, df⟩ f ds bx K2 := call_pure h hp hk
def intN : D → Nat
  | .int _ n => n.toNat
  | _ => 0
end Go.V.Lx

namespace Go.V.Lx
open Go.Proofs Go.RowKit
set_option linter.unusedSimpArgs false
set_option linter.unusedVariables false
set_option maxRecDepth 100000

theorem class_d (c : UInt8) : fnD Tryz.prog (orac Tryz.prog) [] Tryz.f52 [.int .u8 (c.toNat : Int)] (.int .i64 (cls c)) := by
  refine fn_intro _ [.tmp 2] _ rfl rfl rfl (by kernel_rfl) ?_
  have hx : Int.toNat (c.toNat : Int) = c.toNat := by simp
  repeat' (first
    | with_reducible refine condD_dec (fun _ => ?_) (fun _ => ?_)
    | with_reducible refine condD_split (fun _ => ?_) (fun _ => ?_)
    | (refine call_pure (indexByte_c signs c) (by simp [go_sem]) ?_)
    | simp (maxSteps := 1000000) (disch := omega) only [go_sem, *])
  all_goals
    refine weak_eq ?_
    simp [cls, isLt, isFg, isSp, isSg, *]
theorem class_c (c : UInt8) : CallsTo Tryz.prog 52 [.int .u8 (c.toNat : Int)] (.int .i64 (cls c)) := fn_calls mixed (class_d c) rfl (by kernel_rfl) rfl
end Go.V.Lx

namespace Go.V.Lx
open Go.Proofs Go.RowKit
set_option linter.unusedSimpArgs false
set_option linter.unusedVariables false
set_option maxRecDepth 100000

theorem get_lt {α : Type} {l : List α} {k : Nat} (h : k < l.length) : ∃ x, l[k]? = some x := ⟨l[k], List.getElem?_eq_getElem h⟩
theorem take_all {α : Type} (p : α → Bool) {l : List α} {k : Nat} {x : α} (hx : l[k]? = some x) (h : (l.take k).all p = true) (hp : p x = true) : (l.take (k + 1)).all p = true := by
  rw [List.take_add_one, hx, List.all_append, h]
  simp [hp]
theorem all_of {α : Type} (p : α → Bool) {l : List α} {k : Nat} {x : α} (hx : l[k]? = some x) (hp : p x = false) : l.all p = false := by
  rw [List.all_eq_false]
  exact ⟨x, List.mem_of_getElem? hx, by simp [hp]⟩
theorem cls_lt (c : UInt8) : decide (cls c = 2) = isLt c.toNat := by
  unfold cls
  cases isLt c.toNat <;> cases isFg c.toNat <;> cases ((c.toNat : Int) == 95) <;> cases isSp c.toNat <;> cases isSg c <;> rfl
theorem cls_part (c : UInt8) : isPart c = (decide (cls c = 2) || decide (cls c = 3) || decide (cls c = 5)) := by
  unfold cls isPart
  cases isLt c.toNat <;> cases isFg c.toNat <;> cases ((c.toNat : Int) == 95) <;> cases isSp c.toNat <;> cases isSg c <;> rfl
theorem name_d (s : List UInt8) (hs : s.length ≤ 140737488355328) : fnD Tryz.prog (orac Tryz.prog) [] Tryz.f67 [.str s] (.bool (nameB s)) := by
  refine fn_intro _ [.tmp 2] _ rfl rfl rfl (by kernel_rfl) ?_
  match s, hs with
  | [], hs =>
    simp (maxSteps := 1000000) (disch := omega) only [go_sem, *]
    exact .refl _
  | c :: r, hs =>
    have hx : (c :: r)[0]? = some c := rfl
    repeat' (first | with_reducible refine condD_dec (fun _ => ?_) (fun _ => ?_) | with_reducible refine condD_split (fun _ => ?_) (fun _ => ?_) | with_reducible refine pureO (class_c c) (by simp [go_sem]) ?_ | with_reducible refine pureT (class_c c) (by simp [go_sem]) ?_ | simp (maxSteps := 1000000) (disch := omega) only [go_sem, *])
    · exact weak_eq (by simp_all)
    · refine weak_eq ?_
      have : ¬ (c :: r).length ≤ 32 := by simp only [List.length_cons]; omega
      simp only [nameB, this, decide_false, Bool.false_and]
    · rename_i _ hle hc
      have hlt : isLt c.toNat = true := by rw [← cls_lt, hc]; rfl
      have hnb : nameB (c :: r) = (c :: r).all isPart := by
        have : (c :: r).length ≤ 32 := by simp only [List.length_cons]; omega
        simp only [nameB, this, decide_true, hlt, Bool.true_and]
      rw [hnb]
      obtain ⟨z, hz⟩ : ∃ z, z = c :: r := ⟨_, rfl⟩
      have hlen : z.length = r.length + 1 := by rw [hz]; rfl
      rw [← hz]
      refine cD_for z.length (fun k σ _ => σ 0 = .str z ∧ σ 19 = .int .i64 ((r.length + 1 : Nat) : Int) ∧ σ 20 = .int .i64 k ∧ (z.take k).all isPart = true)
        ⟨by simp [go_sem, argsF, hz], by simp [go_sem], by simp [go_sem], by simp⟩ ?_ ?_
      · clear hz hnb
        rintro k σ bx hk ⟨h0, h19, h20, hb⟩
        obtain ⟨x, hx⟩ := get_lt hk
        simp (maxSteps := 1000000) (disch := omega) only [go_sem, h0, h19, h20]
        refine condD_yes (by omega) ?_
        have hp := cls_part x
        have bad : isPart x = false → Weak (D.bool false) (.bool (z.all isPart)) := fun h => weak_eq (by rw [all_of isPart hx h])
        have good : isPart x = true → (z.take (k + 1)).all isPart = true := fun h => take_all isPart hx hb h
        repeat' (first | with_reducible refine condD_dec (fun _ => ?_) (fun _ => ?_) | with_reducible refine condD_split (fun _ => ?_) (fun _ => ?_) | with_reducible refine pureO (class_c x) (by simp [go_sem]) ?_ | with_reducible refine pureT (class_c x) (by simp [go_sem]) ?_ | simp (maxSteps := 1000000) (disch := omega) only [go_sem, *])
        all_goals first
          | (rw [wrap_succ (by omega)]; exact ⟨rfl, good (by rw [hp]; simp [*])⟩)
          | exact bad (by rw [hp]; simp [*])
          | trace_state
      · rintro σ bx ⟨h0, h19, h20, hb⟩
        simp (maxSteps := 1000000) (disch := omega) only [go_sem, h0, h19, h20]
        refine condD_no (by omega) ?_
        simp (maxSteps := 1000000) (disch := omega) only [go_sem]
        rw [List.take_length] at hb
        exact weak_eq (by rw [hb])
    · rename_i hc
      refine weak_eq ?_
      have hlt : isLt c.toNat = false := by rw [← cls_lt]; simp [hc]
      simp only [nameB, hlt, Bool.and_false, Bool.false_and]
theorem name_c (s : List UInt8) (hs : s.length ≤ 140737488355328) : CallsTo Tryz.prog 67 [.str s] (.bool (nameB s)) := fn_calls mixed (name_d s hs) rfl (by kernel_rfl) rfl

set_option maxRecDepth 20000 in
theorem valid_d (x : Tok) (hs : x.t.length ≤ 140737488355328) : fnD Tryz.prog (orac Tryz.prog) [] Tryz.f34 [x.d] (.bool (validB x)) := by
  refine fn_intro _ [.tmp 2] _ rfl rfl rfl (by kernel_rfl) ?_
  obtain ⟨k, t, n, a⟩ := x
  simp only [Tok.d]
  have hv : validB ⟨k, t, n, a⟩ = if k = 1 then nameB t && decide (n = 0) else if k = 2 then decide (t = []) && decide (0 ≤ n) && decide (n ≤ 1099511627776) else if k = 3 then oneSign t && decide (n = 0) else false := rfl
  rw [hv]
  clear hv
  have ht : t = [] ∨ (∃ c, t = [c]) ∨ t.length ≠ 1 := by
    match t with
    | [] => exact .inl rfl
    | [c] => exact .inr (.inl ⟨c, rfl⟩)
    | _ :: _ :: _ => exact .inr (.inr (by simp))
  have h1 : t.length ≠ 1 → oneSign t = false := fun h => by
    match t with
    | [] => rfl
    | [c] => simp at h
    | _ :: _ :: _ => rfl
  by_cases k1 : k = 1
  · subst k1
    repeat' (first | with_reducible refine condD_dec (fun _ => ?_) (fun _ => ?_) | with_reducible refine condD_split (fun _ => ?_) (fun _ => ?_) | with_reducible refine pureO (name_c t hs) (by simp [go_sem]) ?_ | with_reducible refine pureT (name_c t hs) (by simp [go_sem]) ?_ | simp (maxSteps := 1000000) (disch := omega) only [go_sem, *])
    all_goals exact weak_eq (by simp_all)
  by_cases k2 : k = 2
  · subst k2
    repeat' (first | with_reducible refine condD_dec (fun _ => ?_) (fun _ => ?_) | with_reducible refine condD_split (fun _ => ?_) (fun _ => ?_) | simp (maxSteps := 1000000) (disch := omega) only [go_sem, *])
    all_goals exact weak_eq (by simp_all)
  by_cases k3 : k = 3
  · subst k3
    rcases ht with rfl | ⟨c, rfl⟩ | ht
    · repeat' (first | with_reducible refine condD_dec (fun _ => ?_) (fun _ => ?_) | with_reducible refine condD_split (fun _ => ?_) (fun _ => ?_) | simp (maxSteps := 1000000) (disch := omega) only [go_sem, *])
      all_goals exact weak_eq (by simp_all [oneSign])
    · repeat' (first | with_reducible refine condD_dec (fun _ => ?_) (fun _ => ?_) | with_reducible refine condD_split (fun _ => ?_) (fun _ => ?_) | with_reducible refine pureO (class_c c) (by simp [go_sem]) ?_ | with_reducible refine pureT (class_c c) (by simp [go_sem]) ?_ | simp (maxSteps := 1000000) (disch := omega) only [go_sem, *])
      all_goals exact weak_eq (by simp_all [oneSign])
    · have ht' : ¬ ((t.length : Int) = 1) := by omega
      repeat' (first | with_reducible refine condD_dec (fun _ => ?_) (fun _ => ?_) | with_reducible refine condD_split (fun _ => ?_) (fun _ => ?_) | simp (maxSteps := 1000000) (disch := omega) only [go_sem, *])
      all_goals exact weak_eq (by simp_all)
  · repeat' (first | with_reducible refine condD_dec (fun _ => ?_) (fun _ => ?_) | with_reducible refine condD_split (fun _ => ?_) (fun _ => ?_) | simp (maxSteps := 1000000) (disch := omega) only [go_sem, *])
    all_goals exact weak_eq (by simp_all)
theorem valid_c (x : Tok) (hs : x.t.length ≤ 140737488355328) : CallsTo Tryz.prog 34 [x.d] (.bool (validB x)) := fn_calls mixed (valid_d x hs) rfl (by kernel_rfl) rfl
end Go.V.Lx
