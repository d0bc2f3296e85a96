/-
  Lex: from the laws on data to the arguments of the statements (first part).
-/
import Derived.Test.YtbnniokcdilpgaaDoorLw
namespace Go.V.Lx
open Go.Proofs Go.RowKit
set_option linter.unusedSimpArgs false
set_option linter.unusedVariables false
set_option maxRecDepth 100000

def shTok : Sh := .agg [.int .i64, .str, .int .i64, .int .i64]
def shToks : Sh := .slice 4 shTok
theorem has_tok {ys : List D} (h : shTok.hasC ys) : ∃ x : Tok, shTok.pack ys = x.d ∧ x.t.length ≤ reachBytes := by
  simp only [shTok, Sh.hasC, Sh.hasL] at h
  obtain ⟨a, b, rfl, ⟨m, rfl, _⟩, c, e, rfl, ⟨s, rfl, hs⟩, c2, e2, rfl, ⟨n, rfl, _⟩, c3, e3, rfl, ⟨o, rfl, _⟩, rfl⟩ := h
  exact ⟨⟨m, s, n, o⟩, rfl, hs⟩
theorem list_of2 {α : Type} {es : List D} {f : α → D} {p : α → Prop} (h : ∀ x ∈ es, ∃ a, x = f a ∧ p a) : ∃ l : List α, es = l.map f ∧ ∀ x ∈ l, p x := by
  induction es with
  | nil => exact ⟨[], rfl, fun x hx => by cases hx⟩
  | cons x es ih =>
    obtain ⟨a, rfl, ha⟩ := h x (by simp)
    obtain ⟨l, rfl, hl⟩ := ih fun y hy => h y (by simp [hy])
    exact ⟨a :: l, rfl, fun y hy => by
      rcases List.mem_cons.1 hy with rfl | hy
      · exact ha
      · exact hl y hy⟩
theorem has_toks {d : D} (h : shToks.has d) : ∃ l : List Tok, d = toks l ∧ l.length ≤ 140737488355328 ∧ ∀ x ∈ l, x.t.length ≤ 140737488355328 := by
  obtain ⟨ys, rfl, h⟩ := h
  simp only [shToks, Sh.hasC] at h
  obtain ⟨es, rfl, hl, h⟩ := h
  obtain ⟨l, rfl, hp⟩ := list_of2 (f := Tok.d) (p := fun x => x.t.length ≤ reachBytes) (es := es) fun x hx => by
    obtain ⟨zs, rfl, hz⟩ := h x hx
    exact has_tok hz
  refine ⟨l, rfl, ?_, fun x hx => ?_⟩
  · rw [List.length_map] at hl
    unfold reachBytes at hl; omega
  · have := hp x hx
    unfold reachBytes at this; omega
theorem has_str {d : D} (h : Sh.str.has d) : ∃ s, d = .str s ∧ s.length ≤ 140737488355328 := by
  obtain ⟨ys, rfl, h⟩ := h
  simp only [Sh.hasC] at h
  obtain ⟨s, rfl, hs⟩ := h
  exact ⟨s, rfl, by unfold reachBytes at hs; omega⟩
theorem lexSpec_all (xs : List D) (h : AllHave [.str] xs) : CallsTo Tryd.prog 3 xs (.bool true) := by
  obtain ⟨a, _, rfl, h1, h⟩ := args_cons h
  obtain rfl := args_nil h
  obtain ⟨s, rfl, hs⟩ := has_str h1
  exact lexSpec_c s hs
theorem lexText_all (xs : List D) (h : AllHave [shToks, shToks, .str] xs) : CallsTo Tryd.prog 4 xs (.bool true) := by
  obtain ⟨a, _, rfl, h1, h⟩ := args_cons h
  obtain ⟨b, _, rfl, h2, h⟩ := args_cons h
  obtain ⟨c, _, rfl, h3, h⟩ := args_cons h
  obtain rfl := args_nil h
  obtain ⟨l, rfl, hl, ht⟩ := has_toks h1
  obtain ⟨m, rfl, hm, hu⟩ := has_toks h2
  obtain ⟨s, rfl, hs⟩ := has_str h3
  exact lexText_c l m s hl hm ht hu hs
end Go.V.Lx
