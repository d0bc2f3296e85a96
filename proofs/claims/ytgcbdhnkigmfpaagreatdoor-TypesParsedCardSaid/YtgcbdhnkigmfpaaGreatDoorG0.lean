/-
  Grammar: plain data.
-/
import Derived.Test.YtgcbdhnkigmfpaaGreatDoorLA
namespace Go.V.Gr
open Go.Proofs Go.RowKit Go.V.Lx
set_option linter.unusedSimpArgs false
set_option linter.unusedVariables false

abbrev Str := List UInt8
abbrev Tk := Go.V.Lx.Tok
structure Part where
  cat : Str
  no : Int
  text : Str
  deriving DecidableEq
structure Give where
  part : Int
  text : Str
  deriving DecidableEq
structure Entry where
  text : Str
  cat : Str
  no : Int
  gives : List Str
  cost : Int
  deriving DecidableEq
structure Rule where
  cat : Str
  no : Int
  parts : List Part
  gives : List Give
  cost : Int
  deriving DecidableEq
structure Gram where
  name : Str
  cats : List Str
  start : Str
  no : Int
  entries : List Entry
  rules : List Rule
  deriving DecidableEq
def Gram.zero : Gram := ⟨[], [], [], 0, [], []⟩
def strs (l : List Str) : D := .sl 1 (l.map D.str)
def Part.d (x : Part) : D := .agg [.str x.cat, .int .i64 x.no, .str x.text]
def Give.d (x : Give) : D := .agg [.int .i64 x.part, .str x.text]
def Entry.d (x : Entry) : D := .agg [.str x.text, .str x.cat, .int .i64 x.no, strs x.gives, .int .i64 x.cost]
def Rule.d (x : Rule) : D := .agg [.str x.cat, .int .i64 x.no, .sl 3 (x.parts.map Part.d), .sl 2 (x.gives.map Give.d), .int .i64 x.cost]
def Gram.d (x : Gram) : D := .agg [.str x.name, strs x.cats, .str x.start, .int .i64 x.no, .sl 5 (x.entries.map Entry.d), .sl 5 (x.rules.map Rule.d)]

/-- the words of the form: grammar category start word is gives cost rule -/
def wGrammar : Str := [103, 114, 97, 109, 109, 97, 114]
def wCategory : Str := [99, 97, 116, 101, 103, 111, 114, 121]
def wStart : Str := [115, 116, 97, 114, 116]
def wWord : Str := [119, 111, 114, 100]
def wIs : Str := [105, 115]
def wGives : Str := [103, 105, 118, 101, 115]
def wCost : Str := [99, 111, 115, 116]
def wRule : Str := [114, 117, 108, 101]
def words8 : List Str := [wGrammar, wCategory, wStart, wWord, wIs, wGives, wCost, wRule]

set_option maxRecDepth 100000
theorem idx_at : ∀ (l : List Str) (k : Nat) (x : Str), l[k]? = some x → x ∉ l.take k → l.idxOf x = k ∧ x ∈ l
  | [], k, x, h, _ => by simp at h
  | y :: l, 0, x, h, _ => by
    simp at h; subst h; simp
  | y :: l, k + 1, x, h, hn => by
    simp only [List.take_succ_cons, List.mem_cons, not_or] at hn
    obtain ⟨h1, h2⟩ := idx_at l k x (by simpa using h) hn.2
    exact ⟨by
    have hb : (y == x) = false := by simpa using Ne.symm hn.1
    rw [List.idxOf_cons, hb, h1]; rfl, List.mem_cons_of_mem _ h2⟩
theorem index_d (l : List Str) (t : Str) (hl : l.length ≤ 140737488355328) : fnD Tryz.prog (orac Tryz.prog) [] Tryz.f97 [strs l, .str t] (.int .i64 (if l.contains t then (l.idxOf t : Int) else -1)) := by
  refine fn_intro _ [.tmp 4] _ rfl rfl rfl (by kernel_rfl) ?_
  simp (maxSteps := 1000000) (disch := omega) only [go_sem, strs]
  refine cD_for l.length (fun k σ bx => σ 0 = strs l ∧ σ 1 = .str t ∧ σ 7 = .int .i64 l.length ∧ σ 8 = .int .i64 k ∧ ¬ t ∈ l.take k) ?_ ?_ ?_
  · simp [go_sem, argsF, strs]
  · rintro k σ bx hk ⟨h0, h1, h7, h8, hn⟩
    obtain ⟨x, hx⟩ := get_lt hk
    have hlt : (k : Int) < (l.length : Int) := by omega
    repeat' (first | with_reducible refine condD_dec (fun _ => ?_) (fun _ => ?_) | with_reducible refine condD_split (fun _ => ?_) (fun _ => ?_) | simp (maxSteps := 1000000) (disch := omega) only [go_sem, *, h0, h1, h7, h8, hlt, strs, hx])
    · rename_i hx2
      subst hx2
      obtain ⟨g1, g2⟩ := idx_at l k _ hx hn
      exact weak_eq (by rw [if_pos (by simpa using g2), g1])
    · rename_i hne
      rw [wrap_succ (by omega)]
      refine ⟨rfl, fun hm => ?_⟩
      rw [List.take_add_one, hx] at hm
      simp at hm
      rcases hm with hm | hm
      · exact hn hm
      · exact hne hm
  · rintro σ bx ⟨h0, h1, h7, h8, hn⟩
    have hlt : ¬ (l.length : Int) < (l.length : Int) := by omega
    repeat' (first | with_reducible refine condD_dec (fun _ => ?_) (fun _ => ?_) | with_reducible refine condD_split (fun _ => ?_) (fun _ => ?_) | simp (maxSteps := 1000000) (disch := omega) only [go_sem, *, h0, h1, h7, h8, hlt])
    rw [List.take_length] at hn
    exact weak_eq (by rw [if_neg (by simpa using hn)])
theorem pureL_strs (l : List Str) : D.pureL (l.map D.str) = true := pureL_map _ _ fun _ => by simp [D.pure]
theorem index_c (l : List Str) (t : Str) (hl : l.length ≤ 140737488355328) : CallsTo Tryz.prog 97 [strs l, .str t] (.int .i64 (if l.contains t then (l.idxOf t : Int) else -1)) := fn_calls mixed (index_d l t hl) rfl (by kernel_rfl) rfl
theorem contains_d (l : List Str) (t : Str) (hl : l.length ≤ 140737488355328) : fnD Tryz.prog (orac Tryz.prog) [] Tryz.f65 [strs l, .str t] (.bool (l.contains t)) := by
  refine fn_intro _ [.tmp 4] _ rfl rfl rfl (by kernel_rfl) ?_
  simp (maxSteps := 1000000) (disch := omega) only [go_sem]
  refine call_pure (index_c l t hl) (by simp [go_sem, strs, pureL_strs]) ?_
  simp (maxSteps := 1000000) (disch := omega) only [go_sem]
  refine weak_eq (congrArg D.bool ?_)
  cases h : l.contains t
  · simp
  · simp
theorem contains_str (l : List Str) (t : Str) (hl : l.length ≤ 140737488355328) : CallsTo Tryz.prog 65 [strs l, .str t] (.bool (l.contains t)) := fn_calls mixed (contains_d l t hl) rfl (by kernel_rfl) rfl
structure Sz (g : Gram) : Prop where
  cats : g.cats.length ≤ 140737488355328
  ents : g.entries.length ≤ 140737488355328
  ruls : g.rules.length ≤ 140737488355328
  ent : ∀ x ∈ g.entries, x.gives.length ≤ 140737488355328
  rul : ∀ x ∈ g.rules, x.parts.length ≤ 140737488355328 ∧ x.gives.length ≤ 140737488355328
theorem pure_part : ∀ l : List Part, D.pureL (l.map Part.d) = true := fun l => pureL_map _ _ fun _ => rfl
theorem pure_give : ∀ l : List Give, D.pureL (l.map Give.d) = true := fun l => pureL_map _ _ fun _ => rfl
theorem pure_ent : ∀ l : List Entry, D.pureL (l.map Entry.d) = true := fun l => pureL_map _ _ fun x => by simp [Entry.d, D.pure, D.pureL, strs, pureL_strs]
theorem pure_rls : ∀ l : List Rule, D.pureL (l.map Rule.d) = true := fun l => pureL_map _ _ fun x => by simp [Rule.d, D.pure, D.pureL, pure_part, pure_give]
theorem pure_gram (g : Gram) : g.d.pure = true := by simp [Gram.d, D.pure, D.pureL, strs, pureL_strs, pure_ent, pure_rls]
theorem take_eq {α : Type} [DecidableEq α] {l m : List α} {k : Nat} {x y : α} (hx : l[k]? = some x) (hy : m[k]? = some y) (h : l.take k = m.take k) (e : x = y) : l.take (k + 1) = m.take (k + 1) := by
  rw [List.take_add_one, List.take_add_one, h, hx, hy, e]
theorem equalP_d (l m : List Part) (hl : l.length ≤ 140737488355328) (hm : m.length ≤ 140737488355328) : fnD Tryz.prog (orac Tryz.prog) [] Tryz.f32 [.sl 3 (l.map Part.d), .sl 3 (m.map Part.d)] (.bool (decide (l = m))) := by
  refine fn_intro _ [.tmp 4] _ rfl rfl rfl (by kernel_rfl) ?_
  simp (maxSteps := 1000000) (disch := omega) only [go_sem]
  refine condD_dec (fun h1 => ?_) (fun h1 => ?_)
  · have h1 : l.length = m.length := by omega
    simp (maxSteps := 1000000) (disch := omega) only [go_sem]
    refine cD_for l.length (fun k σ bx => σ 0 = .sl 3 (l.map Part.d) ∧ σ 1 = .sl 3 (m.map Part.d) ∧ σ 12 = .int .i64 l.length ∧ σ 13 = .int .i64 k ∧ l.take k = m.take k) ?_ ?_ ?_
    · simp [go_sem, argsF]
    · rintro k σ bx hk ⟨h0, h1', h7, h8, hn⟩
      obtain ⟨x, hx⟩ := get_lt hk
      obtain ⟨y, hy⟩ := get_lt (show k < m.length by omega)
      have hlt : (k : Int) < (l.length : Int) := by omega
      have hlt2 : (k : Int) < (m.length : Int) := by omega
      obtain ⟨a, b, c⟩ := x
      obtain ⟨a', b', c'⟩ := y
      repeat' (first | with_reducible refine condD_dec (fun _ => ?_) (fun _ => ?_) | with_reducible refine condD_split (fun _ => ?_) (fun _ => ?_) | simp (maxSteps := 1000000) (disch := omega) only [go_sem, *, h0, h1', h7, h8, hlt, hlt2, hx, hy, Part.d])
      all_goals first
        | (rename_i hxy; rw [wrap_succ (by omega)]; exact ⟨rfl, take_eq hx hy hn (by simpa using hxy)⟩)
        | (rename_i hxy
           refine weak_eq (congrArg D.bool ?_)
           refine (decide_eq_false fun e => ?_).symm
           rw [e, hy] at hx
           injection hx with hx
           injection hx
           subst_vars
           simp at hxy)
    · rintro σ bx ⟨h0, h1', h7, h8, hn⟩
      have hlt : ¬ (l.length : Int) < (l.length : Int) := by omega
      simp (maxSteps := 1000000) (disch := omega) only [go_sem, h0, h1', h7, h8, hlt]
      rw [List.take_length, h1, List.take_length] at hn
      exact weak_eq (congrArg D.bool (decide_eq_true hn).symm)
  · have : ¬ l = m := fun e => h1 (by rw [e])
    exact weak_eq (congrArg D.bool (decide_eq_false this).symm)
theorem equalP_c (l m : List Part) (hl : l.length ≤ 140737488355328) (hm : m.length ≤ 140737488355328) : CallsTo Tryz.prog 32 [.sl 3 (l.map Part.d), .sl 3 (m.map Part.d)] (.bool (decide (l = m))) := fn_calls mixed (equalP_d l m hl hm) rfl (by kernel_rfl) rfl
end Go.V.Gr
