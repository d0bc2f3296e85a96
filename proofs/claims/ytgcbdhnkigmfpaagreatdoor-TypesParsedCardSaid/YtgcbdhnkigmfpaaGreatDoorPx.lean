/-
  Types: from the laws on data to the arguments of the statements.
-/
import Derived.Test.YtgcbdhnkigmfpaaGreatDoorPw
import Derived.Test.YtgcbdhnkigmfpaaGreatDoorVE
import Derived.Test.YtgcbdhnkigmfpaaGreatDoorPz
namespace Go.V.Ty
open Go.Proofs Go.RowKit Go.V.Lx Go.V.Gr
set_option linter.unusedSimpArgs false
set_option linter.unusedVariables false
set_option maxRecDepth 100000

theorem list_of3 {α : Type} {es : List D} {f : α → D} {p : α → Prop} (h : ∀ x ∈ es, ∃ a, x = f a ∧ p a) : ∃ l : List α, es = l.map f ∧ ∀ x ∈ l, p x := by
  induction es with
  | nil => exact ⟨[], rfl, fun x hx => by cases hx⟩
  | cons x es ih =>
    obtain ⟨a, rfl, ha⟩ := h x (by simp)
    obtain ⟨l, rfl, hl⟩ := ih fun y hy => h y (by simp [hy])
    exact ⟨a :: l, rfl, fun y hy => by
      rcases List.mem_cons.1 hy with rfl | hy
      · exact ha
      · exact hl y hy⟩
theorem reach_le {n : Nat} (h : n ≤ reachBytes) : n ≤ 140737488355328 := by unfold reachBytes at h; show n ≤ 140737488355328; omega
def shStrs : Sh := .slice 1 .str
def shTk : Sh := .agg [.int .i64, .str, .int .i64, .int .i64]
def shBytes : Sh := .slice 1 (.int .u8)
def shPart : Sh := .agg [.str, .int .i64, .str]
def shGive : Sh := .agg [.int .i64, .str]
def shEntry : Sh := .agg [.str, .str, .int .i64, shStrs, .int .i64]
def shRule : Sh := .agg [.str, .int .i64, .slice 3 shPart, .slice 2 shGive, .int .i64]
def shGram : Sh := .agg [.str, shStrs, .str, .int .i64, .slice 5 shEntry, .slice 5 shRule]
theorem has_strs {ys : List D} (h : shStrs.hasC ys) : ∃ l : List Str, ys = [strs l] ∧ l.length ≤ 140737488355328 ∧ ∀ s ∈ l, s.length ≤ 140737488355328 := by
  simp only [shStrs, Sh.hasC] at h
  obtain ⟨es, rfl, hl, h⟩ := h
  obtain ⟨l, rfl, hp⟩ := list_of3 (f := D.str) (p := fun s => s.length ≤ 140737488355328) (es := es) fun x hx => by
    obtain ⟨zs, rfl, s, rfl, hs⟩ := h x hx
    exact ⟨s, rfl, reach_le hs⟩
  exact ⟨l, rfl, by rw [List.length_map] at hl; exact reach_le hl, hp⟩
theorem has_part {ys : List D} (h : shPart.hasC ys) : ∃ x : Part, shPart.pack ys = x.d ∧ SmP x := by
  simp only [shPart, Sh.hasC, Sh.hasL] at h
  obtain ⟨a, b, rfl, ⟨m, rfl, h1⟩, c, e, rfl, ⟨s, rfl, _⟩, c2, e2, rfl, ⟨n, rfl, h2⟩, rfl⟩ := h
  exact ⟨⟨m, s, n⟩, rfl, reach_le h2, reach_le h1⟩
theorem has_give {ys : List D} (h : shGive.hasC ys) : ∃ x : Give, shGive.pack ys = x.d ∧ small x.text := by
  simp only [shGive, Sh.hasC, Sh.hasL] at h
  obtain ⟨a, b, rfl, ⟨m, rfl, h1⟩, c, e, rfl, ⟨s, rfl, h2⟩, rfl⟩ := h
  exact ⟨⟨m, s⟩, rfl, reach_le h2⟩
theorem has_entry {ys : List D} (h : shEntry.hasC ys) : ∃ x : Entry, shEntry.pack ys = x.d ∧ SmE x := by
  simp only [shEntry, Sh.hasC, Sh.hasL] at h
  obtain ⟨a, b, rfl, ⟨t, rfl, h1⟩, c, e, rfl, ⟨s, rfl, h2⟩, c2, e2, rfl, ⟨n, rfl, _⟩, c3, e3, rfl, h3, c4, e4, rfl, ⟨k, rfl, _⟩, rfl⟩ := h
  obtain ⟨l, rfl, hl, hp⟩ := has_strs h3
  exact ⟨⟨t, s, n, l, k⟩, rfl, reach_le h1, reach_le h2, hl, hp⟩
theorem has_rule {ys : List D} (h : shRule.hasC ys) : ∃ x : Rule, shRule.pack ys = x.d ∧ SmR x := by
  simp only [shRule, Sh.hasC, Sh.hasL] at h
  obtain ⟨a, b, rfl, ⟨t, rfl, h1⟩, c, e, rfl, ⟨s, rfl, _⟩, c2, e2, rfl, ⟨ps, rfl, hpl, h2⟩, c3, e3, rfl, ⟨gs, rfl, hgl, h3⟩, c4, e4, rfl, ⟨k, rfl, _⟩, rfl⟩ := h
  obtain ⟨l, rfl, hp⟩ := list_of3 (f := Part.d) (p := SmP) (es := ps) fun x hx => by
    obtain ⟨zs, rfl, hz⟩ := h2 x hx
    exact has_part hz
  obtain ⟨m, rfl, hq⟩ := list_of3 (f := Give.d) (p := fun x => small x.text) (es := gs) fun x hx => by
    obtain ⟨zs, rfl, hz⟩ := h3 x hx
    exact has_give hz
  rw [List.length_map] at hpl hgl
  exact ⟨⟨t, s, l, m, k⟩, rfl, reach_le h1, reach_le hpl, reach_le hgl, hp, hq⟩
theorem has_gram {d : D} (h : shGram.has d) : ∃ g : Gram, d = g.d ∧ SmG g := by
  obtain ⟨ys, rfl, h⟩ := h
  simp only [shGram, Sh.hasC, Sh.hasL] at h
  obtain ⟨a, b, rfl, ⟨t, rfl, h1⟩, c, e, rfl, h2, c2, e2, rfl, ⟨s, rfl, h3⟩, c3, e3, rfl, ⟨n, rfl, _⟩, c4, e4, rfl, ⟨es, rfl, hel, h4⟩, c5, e5, rfl, ⟨rs, rfl, hrl, h5⟩, rfl⟩ := h
  obtain ⟨l, rfl, hl, hp⟩ := has_strs h2
  obtain ⟨m, rfl, hm⟩ := list_of3 (f := Entry.d) (p := SmE) (es := es) fun x hx => by
    obtain ⟨zs, rfl, hz⟩ := h4 x hx
    exact has_entry hz
  obtain ⟨k, rfl, hk⟩ := list_of3 (f := Rule.d) (p := SmR) (es := rs) fun x hx => by
    obtain ⟨zs, rfl, hz⟩ := h5 x hx
    exact has_rule hz
  rw [List.length_map] at hel hrl
  exact ⟨⟨t, l, s, n, m, k⟩, rfl, reach_le h1, reach_le h3, hl, reach_le hel, reach_le hrl, hp, hm, hk⟩
theorem has_int1 {d : D} (h : (Sh.int .i64).has d) : ∃ n, d = .int .i64 n := by
  obtain ⟨ys, rfl, h⟩ := h
  simp only [Sh.hasC] at h
  obtain ⟨n, rfl, _⟩ := h
  exact ⟨n, rfl⟩
theorem has_u8 {d : D} (h : (Sh.int .u8).has d) : ∃ n, d = .int .u8 n ∧ 0 ≤ n ∧ n ≤ 255 := by
  obtain ⟨ys, rfl, h⟩ := h
  simp only [Sh.hasC] at h
  obtain ⟨n, rfl, hw⟩ := h
  refine ⟨n, rfl, ?_⟩
  simp [Lit.wf, IntKind.min, IntKind.max, IntKind.signed, IntKind.bits] at hw
  omega
theorem parsed_all (xs : List D) (h : AllHave [shGram] xs) : CallsTo Tryz.prog 3 xs (.bool true) := by
  obtain ⟨a, _, rfl, h1, h⟩ := args_cons h
  obtain rfl := args_nil h
  obtain ⟨g, rfl, hg⟩ := has_gram h1
  exact parsed_c g hg
end Go.V.Ty
