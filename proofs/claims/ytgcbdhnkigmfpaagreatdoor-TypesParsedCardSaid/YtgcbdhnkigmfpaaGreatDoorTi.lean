/-
  Types: Check.
-/
import Derived.Test.YtgcbdhnkigmfpaaGreatDoorTh
namespace Go.V.Ty
open Go.Proofs Go.RowKit Go.V.Lx Go.V.Gr
set_option linter.unusedSimpArgs false
set_option linter.unusedVariables false
set_option maxRecDepth 100000

def all2 {α : Type} (p : α → α → Bool) (l m : List α) : Bool := decide (l.length = m.length) && (l.zip m).all fun q => p q.1 q.2
theorem zip_at {α : Type} {l m : List α} {k : Nat} {x y : α} (hx : l[k]? = some x) (hy : m[k]? = some y) : (l.zip m).take (k + 1) = (l.zip m).take k ++ [(x, y)] := by
  have h : (l.zip m)[k]? = some (x, y) := List.getElem?_zip_eq_some.2 ⟨hx, hy⟩
  rw [List.take_add_one, h]; rfl
theorem eqfE_c {f : FuncId} {p : Entry → Entry → Bool} (l m : List Entry) (hl : l.length ≤ 140737488355328) (hf : ∀ x ∈ l, ∀ y ∈ m, CallsTo Tryz.prog f [x.d, y.d] (.bool (p x y))) :
    CallsTo Tryz.prog 28 [.sl 5 (l.map Entry.d), .sl 5 (m.map Entry.d), .fn (.func f) []] (.bool (all2 p l m)) := by
  refine fn_calls mixed (fn := Tryz.f28) (tab := []) ?_ rfl (by kernel_rfl) rfl
  refine fn_intro _ [.tmp 6] _ rfl rfl rfl (by kernel_rfl) ?_
  simp (maxSteps := 1000000) (disch := omega) only [go_sem]
  refine condD_dec (fun h1 => ?_) (fun h1 => ?_)
  rotate_left
  · exact weak_eq (congrArg D.bool (by rw [all2, decide_eq_false (by omega)]; rfl))
  have h1 : l.length = m.length := by omega
  simp (maxSteps := 1000000) (disch := omega) only [go_sem]
  refine cD_for l.length (fun k σ bx => σ 1 = .sl 5 (m.map Entry.d) ∧ σ 2 = .fn (.func f) [] ∧ σ 15 = .sl 5 (l.map Entry.d) ∧ σ 16 = .int .i64 l.length ∧ σ 17 = .int .i64 k ∧ ((l.zip m).take k).all (fun q => p q.1 q.2) = true) ?_ ?_ ?_
  · simp [go_sem, argsF]
  · rintro k σ bx hk ⟨q1, q2, q15, q16, q17, hn⟩
    obtain ⟨x, hx⟩ := get_lt hk
    obtain ⟨y, hy⟩ := get_lt (show k < m.length by omega)
    have hlt : (k : Int) < (l.length : Int) := by omega
    have hlt2 : (k : Int) < (m.length : Int) := by omega
    have hk1 : IntKind.i64.wrap ((k : Int) + 1) = ((k + 1 : Nat) : Int) := wrap_succ (by omega)
    simp (maxSteps := 1000000) (disch := omega) only [go_sem, q1, q2, q15, q16, q17, hlt, hlt2, hx, hy, Entry.d, strs]
    refine call_pure (hf x (List.mem_of_getElem? hx) y (List.mem_of_getElem? hy)) (show D.pureL [x.d, y.d] = true by simp [D.pureL, D.pure, Entry.d, strs, pureL_strs, pure_part, pure_give]) ?_
    cases hp : p x y
    · simp (maxSteps := 1000000) (disch := omega) only [go_sem, hp, Bool.not_false]
      refine weak_eq (congrArg D.bool ?_)
      have : ((l.zip m).all fun q => p q.1 q.2) = false := by
        rw [List.all_eq_false]
        exact ⟨(x, y), List.mem_of_getElem? (List.getElem?_zip_eq_some.2 ⟨hx, hy⟩), by simp [hp]⟩
      rw [all2, this, Bool.and_false]
    · simp (maxSteps := 1000000) (disch := omega) only [go_sem, hp, Bool.not_true, q1, q2, q15, q16, q17, hk1]
      rw [zip_at hx hy, List.all_append, hn]
      simp [hp]
  · rintro σ bx ⟨q1, q2, q15, q16, q17, hn⟩
    have hlt : ¬ (l.length : Int) < (l.length : Int) := by omega
    simp (maxSteps := 1000000) (disch := omega) only [go_sem, q1, q2, q15, q16, q17, hlt]
    refine weak_eq (congrArg D.bool ?_)
    rw [List.take_of_length_le (by simp; omega)] at hn
    rw [all2, hn, decide_eq_true h1]; rfl
theorem eqfR_c {f : FuncId} {p : Rule → Rule → Bool} (l m : List Rule) (hl : l.length ≤ 140737488355328) (hf : ∀ x ∈ l, ∀ y ∈ m, CallsTo Tryz.prog f [x.d, y.d] (.bool (p x y))) :
    CallsTo Tryz.prog 30 [.sl 5 (l.map Rule.d), .sl 5 (m.map Rule.d), .fn (.func f) []] (.bool (all2 p l m)) := by
  refine fn_calls mixed (fn := Tryz.f30) (tab := []) ?_ rfl (by kernel_rfl) rfl
  refine fn_intro _ [.tmp 6] _ rfl rfl rfl (by kernel_rfl) ?_
  simp (maxSteps := 1000000) (disch := omega) only [go_sem]
  refine condD_dec (fun h1 => ?_) (fun h1 => ?_)
  rotate_left
  · exact weak_eq (congrArg D.bool (by rw [all2, decide_eq_false (by omega)]; rfl))
  have h1 : l.length = m.length := by omega
  simp (maxSteps := 1000000) (disch := omega) only [go_sem]
  refine cD_for l.length (fun k σ bx => σ 1 = .sl 5 (m.map Rule.d) ∧ σ 2 = .fn (.func f) [] ∧ σ 15 = .sl 5 (l.map Rule.d) ∧ σ 16 = .int .i64 l.length ∧ σ 17 = .int .i64 k ∧ ((l.zip m).take k).all (fun q => p q.1 q.2) = true) ?_ ?_ ?_
  · simp [go_sem, argsF]
  · rintro k σ bx hk ⟨q1, q2, q15, q16, q17, hn⟩
    obtain ⟨x, hx⟩ := get_lt hk
    obtain ⟨y, hy⟩ := get_lt (show k < m.length by omega)
    have hlt : (k : Int) < (l.length : Int) := by omega
    have hlt2 : (k : Int) < (m.length : Int) := by omega
    have hk1 : IntKind.i64.wrap ((k : Int) + 1) = ((k + 1 : Nat) : Int) := wrap_succ (by omega)
    simp (maxSteps := 1000000) (disch := omega) only [go_sem, q1, q2, q15, q16, q17, hlt, hlt2, hx, hy, Rule.d, strs]
    refine call_pure (hf x (List.mem_of_getElem? hx) y (List.mem_of_getElem? hy)) (show D.pureL [x.d, y.d] = true by simp [D.pureL, D.pure, Rule.d, strs, pureL_strs, pure_part, pure_give]) ?_
    cases hp : p x y
    · simp (maxSteps := 1000000) (disch := omega) only [go_sem, hp, Bool.not_false]
      refine weak_eq (congrArg D.bool ?_)
      have : ((l.zip m).all fun q => p q.1 q.2) = false := by
        rw [List.all_eq_false]
        exact ⟨(x, y), List.mem_of_getElem? (List.getElem?_zip_eq_some.2 ⟨hx, hy⟩), by simp [hp]⟩
      rw [all2, this, Bool.and_false]
    · simp (maxSteps := 1000000) (disch := omega) only [go_sem, hp, Bool.not_true, q1, q2, q15, q16, q17, hk1]
      rw [zip_at hx hy, List.all_append, hn]
      simp [hp]
  · rintro σ bx ⟨q1, q2, q15, q16, q17, hn⟩
    have hlt : ¬ (l.length : Int) < (l.length : Int) := by omega
    simp (maxSteps := 1000000) (disch := omega) only [go_sem, q1, q2, q15, q16, q17, hlt]
    refine weak_eq (congrArg D.bool ?_)
    rw [List.take_of_length_le (by simp; omega)] at hn
    rw [all2, hn, decide_eq_true h1]; rfl
theorem chk1_c (x y : Entry) : CallsTo Tryz.prog 29 [x.d, y.d] (.bool (decide (x.no = y.no))) := by
  refine fn_calls mixed (fn := Tryz.f29) (tab := []) ?_ rfl (by kernel_rfl) rfl
  refine fn_intro _ [.tmp 4] _ rfl rfl rfl (by kernel_rfl) ?_
  simp (maxSteps := 1000000) (disch := omega) only [go_sem, Entry.d, strs]
  exact .refl _
theorem chk2_c (x y : Rule) (hx : x.parts.length ≤ 140737488355328) (hy : y.parts.length ≤ 140737488355328) : CallsTo Tryz.prog 31 [x.d, y.d] (.bool (decide (x.no = y.no) && decide (x.parts = y.parts))) := by
  refine fn_calls mixed (fn := Tryz.f31) (tab := []) ?_ rfl (by kernel_rfl) rfl
  refine fn_intro _ [.tmp 4] _ rfl rfl rfl (by kernel_rfl) ?_
  simp (maxSteps := 1000000) (disch := omega) only [go_sem, Rule.d]
  refine condD_dec (fun h1 => ?_) (fun h1 => ?_)
  rotate_left
  · simp (maxSteps := 1000000) (disch := omega) only [go_sem, h1, decide_false]
    exact weak_eq (by simp [h1])
  simp (maxSteps := 1000000) (disch := omega) only [go_sem, h1, decide_true]
  refine call_pure (equalP_c x.parts y.parts hx hy) (by simp [go_sem, pure_part]) ?_
  simp (maxSteps := 1000000) (disch := omega) only [go_sem, h1, decide_true]
  exact weak_eq (by simp [h1])
def checkL (g : Gram) : Int :=
  if (resolveL g).2 ≠ 0 then (resolveL g).2
  else if decide ((resolveL g).1.no = g.no) && (all2 (fun x y => decide (x.no = y.no)) (resolveL g).1.entries g.entries && all2 (fun x y => decide (x.no = y.no) && decide (x.parts = y.parts)) (resolveL g).1.rules g.rules) then 0 else 260
theorem resolve_ok {g : Gram} (h : (resolveL g).2 = 0) : (resolveL g).1 = setG g := by
  unfold resolveL at h ⊢
  split
  · rename_i h1; rw [if_pos h1] at h; simp at h
  · rename_i h1
    rw [if_neg h1] at h
    split
    · rename_i h2; rw [if_pos h2] at h; simp at h
    · rename_i h2
      rw [if_neg h2] at h
      split
      · rename_i h3; rw [if_pos h3] at h; simp at h
      · rfl
theorem check_c (g : Gram) (hg : SmG g) : CallsTo Tryz.prog 13 [g.d] (.int .i64 (checkL g)) := by
  refine fn_calls mixed (fn := Tryz.f13) (tab := []) ?_ rfl (by kernel_rfl) rfl
  refine fn_intro _ [.tmp 2] _ rfl rfl rfl (by kernel_rfl) ?_
  have hel := hg.elen
  have hrl := hg.rlen
  simp (maxSteps := 1000000) (disch := omega) only [go_sem, Gram.d, strs]
  refine call_pure (resolve_c g hg) (show D.pureL [g.d] = true by simp [D.pureL, pure_gram]) ?_
  simp (maxSteps := 1000000) (disch := omega) only [go_sem, resD, Gram.d, strs]
  refine condD_dec (fun h1 => ?_) (fun h1 => ?_)
  rotate_left
  · simp (maxSteps := 1000000) (disch := omega) only [go_sem, h1, decide_false, Bool.not_false]
    exact weak_eq (by rw [checkL, if_pos h1])
  have hr := resolve_ok h1
  have hck : checkL g = if decide ((setG g).no = g.no) && (all2 (fun x y => decide (x.no = y.no)) (setG g).entries g.entries && all2 (fun x y => decide (x.no = y.no) && decide (x.parts = y.parts)) (setG g).rules g.rules) then 0 else 260 := by
    rw [checkL, if_neg (by simp [h1]), hr]
  rw [hck]
  clear hck
  simp (maxSteps := 1000000) (disch := omega) only [go_sem, h1, hr, decide_true, Bool.not_true]
  have hse : (setG g).entries.length ≤ 140737488355328 := by simp [setG, hel]
  have hsr : (setG g).rules.length ≤ 140737488355328 := by simp [setG, hrl]
  refine call_pure (eqfE_c (setG g).entries g.entries hse (fun x _ y _ => chk1_c x y)) (by simp [go_sem, pure_ent]) ?_
  simp (maxSteps := 1000000) (disch := omega) only [go_sem, hr, Gram.d, strs]
  refine call_pure (eqfR_c (setG g).rules g.rules hsr (fun x hx y hy => chk2_c x y ?_ (hg.rules y hy).plen)) (by simp [go_sem, pure_rls]) ?_
  · obtain ⟨z, hz, rfl⟩ := List.mem_map.1 hx
    have := (hg.rules z hz).plen
    simpa [setR] using this
  simp (maxSteps := 1000000) (disch := omega) only [go_sem, hr, Gram.d, strs]
  refine condD_dec (fun h2 => ?_) (fun h2 => ?_)
  rotate_left
  · simp (maxSteps := 1000000) (disch := omega) only [go_sem, h2, decide_false, Bool.not_false]
    first | exact .refl _ | exact weak_eq (by simp [h2])
  cases h3 : all2 (fun x y => decide (x.no = y.no)) (setG g).entries g.entries
  · simp (maxSteps := 1000000) (disch := omega) only [go_sem, h2, h3, decide_true, Bool.not_true, Bool.not_false]
    first | exact .refl _ | exact weak_eq (by simp)
  cases h4 : all2 (fun x y => decide (x.no = y.no) && decide (x.parts = y.parts)) (setG g).rules g.rules
  · simp (maxSteps := 1000000) (disch := omega) only [go_sem, h2, h3, h4, decide_true, Bool.not_true, Bool.not_false]
    first | exact .refl _ | exact weak_eq (by simp)
  · simp (maxSteps := 1000000) (disch := omega) only [go_sem, h2, h3, h4, decide_true, Bool.not_true, Bool.not_false]
    first | exact .refl _ | exact weak_eq (by simp)
end Go.V.Ty
