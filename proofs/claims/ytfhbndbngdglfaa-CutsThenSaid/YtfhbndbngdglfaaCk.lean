/-
  Cuts: from the laws on data to the arguments of the statements.
-/
import Derived.Test.YtfhbndbngdglfaaCi
import Derived.Test.YtfhbndbngdglfaaVu
namespace Go.V.Cu
open Go.Proofs Go.RowKit
set_option linter.unusedSimpArgs false
set_option linter.unusedVariables false
set_option maxRecDepth 100000

def shSpan : Sh := .agg [.int .i64, .int .i64]
def shSpans : Sh := .slice 2 shSpan
theorem has_span {ys : List D} (h : shSpan.hasC ys) : ∃ x : Span, shSpan.pack ys = x.d := by
  simp only [shSpan, Sh.hasC, Sh.hasL] at h
  obtain ⟨a, b, rfl, ⟨m, rfl, _⟩, c, e, rfl, ⟨n, rfl, _⟩, rfl⟩ := h
  exact ⟨⟨m, n⟩, rfl⟩
theorem has_spans {d : D} (h : shSpans.has d) : ∃ l : List Span, d = spans l := by
  obtain ⟨ys, rfl, h⟩ := h
  simp only [shSpans, Sh.hasC] at h
  obtain ⟨es, rfl, _, h⟩ := h
  obtain ⟨l, rfl⟩ := list_of (f := Span.d) (es := es) fun x hx => by
    obtain ⟨zs, rfl, hz⟩ := h x hx
    exact has_span hz
  exact ⟨l, rfl⟩

theorem spec_all (xs : List D) (h : AllHave [shSpans, .int .i64, .int .i64] xs) : CallsTo Try.prog 3 xs (.bool true) := by
  obtain ⟨a, _, rfl, h1, h⟩ := args_cons h
  obtain ⟨b, _, rfl, h2, h⟩ := args_cons h
  obtain ⟨c, _, rfl, h3, h⟩ := args_cons h
  obtain rfl := args_nil h
  obtain ⟨l, rfl⟩ := has_spans h1
  obtain ⟨u, rfl⟩ := has_int h2
  obtain ⟨t, rfl⟩ := has_int h3
  exact fn_calls mixed (spec_d l u t) rfl (by kernel_rfl) rfl
theorem back_all (xs : List D) (h : AllHave [shSpans, .int .i64, .int .i64] xs) : CallsTo Try.prog 5 xs (.bool true) := by
  obtain ⟨a, _, rfl, h1, h⟩ := args_cons h
  obtain ⟨b, _, rfl, h2, h⟩ := args_cons h
  obtain ⟨c, _, rfl, h3, h⟩ := args_cons h
  obtain rfl := args_nil h
  obtain ⟨l, rfl⟩ := has_spans h1
  obtain ⟨u, rfl⟩ := has_int h2
  obtain ⟨t, rfl⟩ := has_int h3
  exact fn_calls mixed (backLaw_d l u t) rfl (by kernel_rfl) rfl
theorem thenSpec_all (xs : List D) (h : AllHave [shSpans, shSpans] xs) : CallsTo Try.prog 4 xs (.bool true) := by
  obtain ⟨a, _, rfl, h1, h⟩ := args_cons h
  obtain ⟨b, _, rfl, h2, h⟩ := args_cons h
  obtain rfl := args_nil h
  obtain ⟨l, rfl⟩ := has_spans h1
  obtain ⟨m, rfl⟩ := has_spans h2
  exact fn_calls mixed (thenSpec_d l m) rfl (by kernel_rfl) rfl
theorem then_all (xs : List D) (h : AllHave [shSpans, shSpans, .int .i64] xs) : CallsTo Try.prog 6 xs (.bool true) := by
  obtain ⟨a, _, rfl, h1, h⟩ := args_cons h
  obtain ⟨b, _, rfl, h2, h⟩ := args_cons h
  obtain ⟨c, _, rfl, h3, h⟩ := args_cons h
  obtain rfl := args_nil h
  obtain ⟨l, rfl⟩ := has_spans h1
  obtain ⟨m, rfl⟩ := has_spans h2
  obtain ⟨u, rfl⟩ := has_int h3
  exact fn_calls mixed (thenLaw_d l m u) rfl (by kernel_rfl) rfl
theorem three_all (xs : List D) (h : AllHave [shSpans, shSpans, shSpans] xs) : CallsTo Try.prog 7 xs (.bool true) := by
  obtain ⟨a, _, rfl, h1, h⟩ := args_cons h
  obtain ⟨b, _, rfl, h2, h⟩ := args_cons h
  obtain ⟨c, _, rfl, h3, h⟩ := args_cons h
  obtain rfl := args_nil h
  obtain ⟨l, rfl⟩ := has_spans h1
  obtain ⟨m, rfl⟩ := has_spans h2
  obtain ⟨n, rfl⟩ := has_spans h3
  exact fn_calls mixed (threeLaw_d l m n) rfl (by kernel_rfl) rfl
theorem whole_all (xs : List D) (h : AllHave [shSpans, .int .i64] xs) : CallsTo Try.prog 8 xs (.bool true) := by
  obtain ⟨a, _, rfl, h1, h⟩ := args_cons h
  obtain ⟨b, _, rfl, h2, h⟩ := args_cons h
  obtain rfl := args_nil h
  obtain ⟨l, rfl⟩ := has_spans h1
  obtain ⟨u, rfl⟩ := has_int h2
  exact fn_calls mixed (wholeLaw_d l u) rfl (by kernel_rfl) rfl
end Go.V.Cu
