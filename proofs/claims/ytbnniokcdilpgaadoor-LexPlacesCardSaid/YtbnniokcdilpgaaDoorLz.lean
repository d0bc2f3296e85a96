/-
  Lex: from the laws on data to the arguments of the statements (second part).
-/
import Derived.Test.YtbnniokcdilpgaaDoorLy
import Derived.Test.YtbnniokcdilpgaaDoorLx
namespace Go.V.Lx
open Go.Proofs Go.RowKit
set_option linter.unusedSimpArgs false
set_option linter.unusedVariables false
set_option maxRecDepth 100000

def shBytes : Sh := .slice 1 (.int .u8)
theorem has_bytes {d : D} (h : shBytes.has d) : ∃ us : List Int, d = .sl 1 (us.map (D.int .u8)) ∧ us.length ≤ 140737488355328 ∧ ∀ n ∈ us, 0 ≤ n ∧ n ≤ 255 := by
  obtain ⟨ys, rfl, h⟩ := h
  simp only [shBytes, Sh.hasC] at h
  obtain ⟨es, rfl, hl, h⟩ := h
  obtain ⟨l, rfl, hp⟩ := list_of2 (f := D.int .u8) (p := fun n => 0 ≤ n ∧ n ≤ 255) (es := es) fun x hx => by
    obtain ⟨zs, rfl, n, rfl, hw⟩ := h x hx
    refine ⟨n, rfl, ?_⟩
    simp [Lit.wf, IntKind.min, IntKind.max, IntKind.signed, IntKind.bits] at hw
    omega
  refine ⟨l, rfl, ?_, hp⟩
  rw [List.length_map] at hl
  unfold reachBytes at hl; omega
theorem lexNames_all (xs : List D) (h : AllHave [.str] xs) : CallsTo Tryd.prog 9 xs (.bool true) := by
  obtain ⟨a, _, rfl, h1, h⟩ := args_cons h
  obtain rfl := args_nil h
  obtain ⟨s, rfl, hs⟩ := has_str h1
  exact lexNames_c s hs
theorem lexPlaces_all (xs : List D) (h : AllHave [.str] xs) : CallsTo Tryd.prog 6 xs (.bool true) := by
  obtain ⟨a, _, rfl, h1, h⟩ := args_cons h
  obtain rfl := args_nil h
  obtain ⟨s, rfl, hs⟩ := has_str h1
  exact lexPlaces_c s hs
theorem lexWrong_all (xs : List D) (h : AllHave [.str, .str] xs) : CallsTo Tryd.prog 8 xs (.bool true) := by
  obtain ⟨a, _, rfl, h1, h⟩ := args_cons h
  obtain ⟨b, _, rfl, h2, h⟩ := args_cons h
  obtain rfl := args_nil h
  obtain ⟨s, rfl, hs⟩ := has_str h1
  obtain ⟨m, rfl, hm⟩ := has_str h2
  exact lexWrong_c s m hs hm
theorem lexBack_all (xs : List D) (h : AllHave [shToks, .str] xs) : CallsTo Tryd.prog 5 xs (.bool true) := by
  obtain ⟨a, _, rfl, h1, h⟩ := args_cons h
  obtain ⟨b, _, rfl, h2, h⟩ := args_cons h
  obtain rfl := args_nil h
  obtain ⟨l, rfl, hl, ht⟩ := has_toks h1
  obtain ⟨m, rfl, hm⟩ := has_str h2
  exact lexBack_c l m hl ht hm
theorem lexSpaces_all (xs : List D) (h : AllHave [shToks, shBytes, .str] xs) : CallsTo Tryd.prog 7 xs (.bool true) := by
  obtain ⟨a, _, rfl, h1, h⟩ := args_cons h
  obtain ⟨b, _, rfl, h2, h⟩ := args_cons h
  obtain ⟨c, _, rfl, h3, h⟩ := args_cons h
  obtain rfl := args_nil h
  obtain ⟨l, rfl, hl, ht⟩ := has_toks h1
  obtain ⟨us, rfl, hul, hu⟩ := has_bytes h2
  obtain ⟨m, rfl, hm⟩ := has_str h3
  exact lexSpaces_c l us m hl ht hul hu hm
end Go.V.Lx
