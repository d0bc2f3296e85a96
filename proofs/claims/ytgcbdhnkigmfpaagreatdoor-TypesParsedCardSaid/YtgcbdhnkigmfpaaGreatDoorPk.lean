/-
  Grammar: printed and parsed, with no program in sight.
-/
import Derived.Test.YtgcbdhnkigmfpaaGreatDoorPg
namespace Go.V.Gr
open Go.Proofs Go.RowKit Go.V.Lx
set_option linter.unusedSimpArgs false
set_option linter.unusedVariables false
set_option maxRecDepth 100000

/-! ### Room -/
abbrev M : Nat := 140737488355328
structure StE (x : Entry) : Prop where
  text : x.text.length ≤ M
  cat : x.cat.length ≤ M
  gives : ∀ s ∈ x.gives, s.length ≤ M
structure StR (x : Rule) : Prop where
  cat : x.cat.length ≤ M
  parts : ∀ p ∈ x.parts, p.cat.length ≤ M ∧ p.text.length ≤ M
  gives : ∀ y ∈ x.gives, y.text.length ≤ M
structure St (g : Gram) : Prop where
  name : g.name.length ≤ M
  start : g.start.length ≤ M
  cats : ∀ s ∈ g.cats, s.length ≤ M
  ents : ∀ x ∈ g.entries, StE x
  ruls : ∀ x ∈ g.rules, StR x
def Fit (l : List Tk) : Prop := ∀ x ∈ l, x.t.length ≤ M
theorem fit_nil : Fit [] := fun x h => by cases h
theorem fit_cons {x : Tk} {l : List Tk} (h : x.t.length ≤ M) (hl : Fit l) : Fit (x :: l) := fun y hy => by
  rcases List.mem_cons.1 hy with rfl | hy
  · exact h
  · exact hl y hy
theorem fit_app {l m : List Tk} (hl : Fit l) (hm : Fit m) : Fit (l ++ m) := fun y hy => by
  rcases List.mem_append.1 hy with hy | hy
  · exact hl y hy
  · exact hm y hy
theorem fit_flat {α : Type} {f : α → List Tk} {l : List α} (h : ∀ a ∈ l, Fit (f a)) : Fit (l.flatMap f) := fun y hy => by
  obtain ⟨a, ha, hy⟩ := List.mem_flatMap.1 hy
  exact h a ha y hy
theorem fit_gives {l : List Str} (h : ∀ s ∈ l, s.length ≤ M) : Fit (tokGives l) := by
  cases l with
  | nil => exact fit_nil
  | cons a l =>
    refine fit_cons (h a (List.mem_cons_self ..)) (fit_flat fun s hs => ?_)
    exact fit_cons (by decide) (fit_cons (h s (List.mem_cons_of_mem _ hs)) fit_nil)
theorem fit_end (n : Int) : Fit (tokEnd n) := fit_cons (by decide) (fit_cons (by simp [dT]) (fit_cons (by decide) fit_nil))
theorem fit_entry {x : Entry} (h : StE x) : Fit (tokEntry x) :=
  fit_app (fit_cons (by decide) (fit_cons h.text (fit_cons (by decide) (fit_cons h.cat (fit_cons (by decide) fit_nil))))) (fit_app (fit_gives h.gives) (fit_end _))
theorem fit_rule {x : Rule} (h : StR x) : Fit (tokRule x) :=
  fit_app (fit_cons (by decide) (fit_cons h.cat (fit_cons (by decide) fit_nil))) (fit_app (fit_flat fun p hp => by
    unfold tokPart
    split
    · exact fit_cons (h.parts p hp).1 fit_nil
    · exact fit_cons (by decide) (fit_cons (h.parts p hp).2 fit_nil)) (fit_cons (by decide) (fit_app (fit_flat fun y hy => by
    unfold tokGive
    split
    · exact fit_cons (by simp [dT]) fit_nil
    · exact fit_cons (by decide) (fit_cons (h.gives y hy) fit_nil)) (fit_end _))))
theorem fit_gram {g : Gram} (h : St g) : Fit (tokensOf g) :=
  fit_app (fit_app (fit_cons (by decide) (fit_cons h.name (fit_cons (by decide) fit_nil))) (fit_app (fit_flat fun s hs => fit_cons (by decide) (fit_cons (h.cats s hs) (fit_cons (by decide) fit_nil))) (fit_cons (by decide) (fit_cons h.start (fit_cons (by decide) fit_nil)))))
    (fit_app (fit_flat fun x hx => fit_entry (h.ents x hx)) (fit_flat fun x hx => fit_rule (h.ruls x hx)))
theorem flat_max {α : Type} {f : α → List Tk} {B : Nat} : ∀ {l : List α}, (∀ a ∈ l, (f a).length ≤ B) → (l.flatMap f).length ≤ l.length * B
  | [], _ => by simp
  | a :: l, h => by
    rw [List.flatMap_cons, List.length_append, List.length_cons, Nat.succ_mul]
    have := h a (List.mem_cons_self ..)
    have := flat_max (l := l) fun b hb => h b (List.mem_cons_of_mem _ hb)
    omega
theorem gives_max (l : List Str) : (tokGives l).length ≤ 2 * l.length := by
  cases l with
  | nil => simp [tokGives]
  | cons a l =>
    rw [tokGives, List.length_cons, List.length_cons]
    have := flat_max (f := tokComma) (B := 2) (l := l) fun s _ => by simp [tokComma]
    omega
theorem entry_max {x : Entry} {n : Nat} (h : x.gives.length ≤ n) : (tokEntry x).length ≤ 8 + 2 * n := by
  have := gives_max x.gives
  simp only [tokEntry, tokEnd, List.length_append, List.length_cons, List.length_nil]
  omega
theorem rule_max {x : Rule} {n : Nat} (h : x.parts.length ≤ n ∧ x.gives.length ≤ n) : (tokRule x).length ≤ 7 + 4 * n := by
  have h1 := flat_max (f := tokPart) (B := 2) (l := x.parts) fun p _ => by unfold tokPart; split <;> simp
  have h2 := flat_max (f := tokGive) (B := 2) (l := x.gives) fun p _ => by unfold tokGive; split <;> simp
  simp only [tokRule, tokEnd, List.length_append, List.length_cons, List.length_nil]
  omega
theorem gram_max {g : Gram} {c e r n : Nat} (h1 : g.cats.length ≤ c) (h2 : g.entries.length ≤ e) (h3 : g.rules.length ≤ r) (h4 : ∀ x ∈ g.entries, x.gives.length ≤ n) (h5 : ∀ x ∈ g.rules, x.parts.length ≤ n ∧ x.gives.length ≤ n) : (tokensOf g).length ≤ 30 + c * 3 + e * (8 + 2 * n) + r * (7 + 4 * n) := by
  have k1 := flat_max (f := tokCat) (B := 3) (l := g.cats) fun p _ => by simp [tokCat]
  have k2 := flat_max (f := tokEntry) (B := 8 + 2 * n) (l := g.entries) fun x hx => entry_max (h4 x hx)
  have k3 := flat_max (f := tokRule) (B := 7 + 4 * n) (l := g.rules) fun x hx => rule_max (h5 x hx)
  have m1 := Nat.mul_le_mul_right 3 h1
  have m2 := Nat.mul_le_mul_right (8 + 2 * n) h2
  have m3 := Nat.mul_le_mul_right (7 + 4 * n) h3
  simp only [tokensOf, tokHead, List.length_append, List.length_cons, List.length_nil]
  omega
theorem parse_of_same {s : Str} {l l' : List Tk} {g : Gram} (hs : s.length ≤ 65536) (hl : LX s 0 l') (h : sameL l l' = true) (hg : gramP l = .ok (g, [])) : parseL s = (g, 0, 0) := by
  have hp : parseL s = readL l' s.length := by unfold parseL; rw [hl.lex hs]; rfl
  rw [hp]
  unfold readL
  rcases gram_same l l' h with ⟨a, k, h1, h2⟩ | ⟨k, h1, h2⟩
  · rw [hg] at h1
    injection h1 with h1
    injection h1 with h1
    rw [h2, ← h1]
  · rw [hg] at h1; cases h1
theorem parse_back {g : Gram} (h : okG g) (hl : (Lib.join ((tokensOf g).map word) [32]).length ≤ 65536) : parseL (Lib.join ((tokensOf g).map word) [32]) = (g, 0, 0) := by
  obtain ⟨l', h1, h2⟩ := lx_words (tokensOf g) 0 h.1
  exact parse_of_same hl h1 h2 (gram_of h.2)
end Go.V.Gr
