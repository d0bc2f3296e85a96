/-
  Grammar: the examples with which the statements begin.
-/
import Derived.Test.YtiolflfjekiboaaGreatDoorGg
import Derived.Test.YtiolflfjekiboaaGreatDoorGh
import Derived.Test.YtiolflfjekiboaaGreatDoorLn
namespace Go.V.Gr
open Go.Proofs Go.RowKit Go.V.Lx
set_option linter.unusedSimpArgs false
set_option linter.unusedVariables false
set_option maxRecDepth 100000

theorem parse_at {s : Str} {l : List Tk} {r : Gram × Int × Int} (hs : s.length ≤ 65536) (h : lexK s.length s 0 [] = (l, 0, 0)) (hr : readL l s.length = r) : parseL s = r := by
  unfold parseL
  rw [lexL_eq s hs, h, ← hr]
  rfl
def exs : List (Str × Int) := [([], 0), ([103, 114, 97, 109, 109, 97, 114, 32, 119, 111, 114, 100, 59], 8), ([103, 114, 97, 109, 109, 97, 114, 32, 103, 59, 115, 116, 97, 114, 116], 15), ([103, 114, 97, 109, 109, 97, 114, 32, 103, 59, 32, 115, 116, 97, 114, 116, 32, 115, 59, 32, 114, 117, 108, 101, 32, 115, 32, 61, 32, 103, 105, 118, 101, 115, 32, 48, 32, 99, 111, 115, 116, 32, 49, 59], 29), ([103, 114, 97, 109, 109, 97, 114, 32, 103, 59, 115, 116, 97, 114, 116, 32, 115, 59, 99, 97, 116, 101, 103, 111, 114, 121, 32, 99, 59], 18)]
theorem exs_ok : ∀ p ∈ exs, parseL p.1 = (Gram.zero, p.2, 250) := by
  intro p hp
  simp only [exs, List.mem_cons, List.not_mem_nil, or_false] at hp
  rcases hp with rfl | rfl | rfl | rfl | rfl
  · exact parse_at (l := []) (by decide) (by decide +kernel) (by kernel_rfl)
  · exact parse_at (l := [⟨1, [103, 114, 97, 109, 109, 97, 114], 0, 0⟩, ⟨1, [119, 111, 114, 100], 0, 8⟩, ⟨3, [59], 0, 12⟩]) (by decide) (by decide +kernel) (by kernel_rfl)
  · exact parse_at (l := [⟨1, [103, 114, 97, 109, 109, 97, 114], 0, 0⟩, ⟨1, [103], 0, 8⟩, ⟨3, [59], 0, 9⟩, ⟨1, [115, 116, 97, 114, 116], 0, 10⟩]) (by decide) (by decide +kernel) (by kernel_rfl)
  · exact parse_at (l := [⟨1, [103, 114, 97, 109, 109, 97, 114], 0, 0⟩, ⟨1, [103], 0, 8⟩, ⟨3, [59], 0, 9⟩, ⟨1, [115, 116, 97, 114, 116], 0, 11⟩, ⟨1, [115], 0, 17⟩, ⟨3, [59], 0, 18⟩, ⟨1, [114, 117, 108, 101], 0, 20⟩, ⟨1, [115], 0, 25⟩, ⟨3, [61], 0, 27⟩, ⟨1, [103, 105, 118, 101, 115], 0, 29⟩, ⟨2, [], 0, 35⟩, ⟨1, [99, 111, 115, 116], 0, 37⟩, ⟨2, [], 1, 42⟩, ⟨3, [59], 0, 43⟩]) (by decide) (by decide +kernel) (by kernel_rfl)
  · exact parse_at (l := [⟨1, [103, 114, 97, 109, 109, 97, 114], 0, 0⟩, ⟨1, [103], 0, 8⟩, ⟨3, [59], 0, 9⟩, ⟨1, [115, 116, 97, 114, 116], 0, 10⟩, ⟨1, [115], 0, 16⟩, ⟨3, [59], 0, 17⟩, ⟨1, [99, 97, 116, 101, 103, 111, 114, 121], 0, 18⟩, ⟨1, [99], 0, 27⟩, ⟨3, [59], 0, 28⟩]) (by decide) (by decide +kernel) (by kernel_rfl)
def shortS : Str := [103, 114, 97, 109, 109, 97, 114, 32, 103, 59, 115, 116, 97, 114, 116, 32, 115, 59]
def shortP : Str := [103, 114, 97, 109, 109, 97, 114, 32, 103, 32, 59, 32, 115, 116, 97, 114, 116, 32, 115, 32, 59]
def shortG : Gram := ⟨[103], [], [115], 0, [], []⟩
theorem short_ok : parseL shortS = (shortG, 0, 0) := parse_at (l := [⟨1, [103, 114, 97, 109, 109, 97, 114], 0, 0⟩, ⟨1, [103], 0, 8⟩, ⟨3, [59], 0, 9⟩, ⟨1, [115, 116, 97, 114, 116], 0, 10⟩, ⟨1, [115], 0, 16⟩, ⟨3, [59], 0, 17⟩]) (by decide) (by decide +kernel) (by kernel_rfl)
def wholeS : Str := [103, 114, 97, 109, 109, 97, 114, 32, 103, 32, 59, 32, 99, 97, 116, 101, 103, 111, 114, 121, 32, 110, 112, 32, 59, 32, 99, 97, 116, 101, 103, 111, 114, 121, 32, 115, 32, 59, 32, 115, 116, 97, 114, 116, 32, 115, 32, 59, 32, 119, 111, 114, 100, 32, 100, 111, 103, 32, 105, 115, 32, 110, 112, 32, 103, 105, 118, 101, 115, 32, 100, 101, 114, 32, 44, 32, 104, 117, 110, 100, 32, 99, 111, 115, 116, 32, 51, 32, 59, 32, 114, 117, 108, 101, 32, 115, 32, 61, 32, 110, 112, 32, 58, 32, 98, 97, 114, 107, 115, 32, 110, 112, 32, 103, 105, 118, 101, 115, 32, 49, 32, 58, 32, 98, 101, 108, 108, 116, 32, 48, 32, 99, 111, 115, 116, 32, 52, 32, 59]
def wholeG : Gram := ⟨[103], [[110, 112], [115]], [115], 0, [⟨[100, 111, 103], [110, 112], 0, [[100, 101, 114], [104, 117, 110, 100]], 3⟩], [⟨[115], 0, [⟨[110, 112], 0, []⟩, ⟨[], 0, [98, 97, 114, 107, 115]⟩, ⟨[110, 112], 0, []⟩], [⟨1, []⟩, ⟨0, [98, 101, 108, 108, 116]⟩, ⟨0, []⟩], 4⟩]⟩
theorem whole_ok : parseL wholeS = (wholeG, 0, 0) := parse_at (l := [⟨1, [103, 114, 97, 109, 109, 97, 114], 0, 0⟩, ⟨1, [103], 0, 8⟩, ⟨3, [59], 0, 10⟩, ⟨1, [99, 97, 116, 101, 103, 111, 114, 121], 0, 12⟩, ⟨1, [110, 112], 0, 21⟩, ⟨3, [59], 0, 24⟩, ⟨1, [99, 97, 116, 101, 103, 111, 114, 121], 0, 26⟩, ⟨1, [115], 0, 35⟩, ⟨3, [59], 0, 37⟩, ⟨1, [115, 116, 97, 114, 116], 0, 39⟩, ⟨1, [115], 0, 45⟩, ⟨3, [59], 0, 47⟩, ⟨1, [119, 111, 114, 100], 0, 49⟩, ⟨1, [100, 111, 103], 0, 54⟩, ⟨1, [105, 115], 0, 58⟩, ⟨1, [110, 112], 0, 61⟩, ⟨1, [103, 105, 118, 101, 115], 0, 64⟩, ⟨1, [100, 101, 114], 0, 70⟩, ⟨3, [44], 0, 74⟩, ⟨1, [104, 117, 110, 100], 0, 76⟩, ⟨1, [99, 111, 115, 116], 0, 81⟩, ⟨2, [], 3, 86⟩, ⟨3, [59], 0, 88⟩, ⟨1, [114, 117, 108, 101], 0, 90⟩, ⟨1, [115], 0, 95⟩, ⟨3, [61], 0, 97⟩, ⟨1, [110, 112], 0, 99⟩, ⟨3, [58], 0, 102⟩, ⟨1, [98, 97, 114, 107, 115], 0, 104⟩, ⟨1, [110, 112], 0, 110⟩, ⟨1, [103, 105, 118, 101, 115], 0, 113⟩, ⟨2, [], 1, 119⟩, ⟨3, [58], 0, 121⟩, ⟨1, [98, 101, 108, 108, 116], 0, 123⟩, ⟨2, [], 0, 129⟩, ⟨1, [99, 111, 115, 116], 0, 131⟩, ⟨2, [], 4, 136⟩, ⟨3, [59], 0, 138⟩]) (by decide) (by decide +kernel) (by kernel_rfl)
theorem okG_of {g g' : Gram} {r : List Tk} (hv : (tokensOf g).all validB = true) (h : gramP (tokensOf g) = .ok (g, r)) : okG g := ⟨hv, (gram_ok hv h).2⟩
theorem wholeT : (tokensOf wholeG).map word = [[103, 114, 97, 109, 109, 97, 114], [103], [59], [99, 97, 116, 101, 103, 111, 114, 121], [110, 112], [59], [99, 97, 116, 101, 103, 111, 114, 121], [115], [59], [115, 116, 97, 114, 116], [115], [59], [119, 111, 114, 100], [100, 111, 103], [105, 115], [110, 112], [103, 105, 118, 101, 115], [100, 101, 114], [44], [104, 117, 110, 100], [99, 111, 115, 116], [51], [59], [114, 117, 108, 101], [115], [61], [110, 112], [58], [98, 97, 114, 107, 115], [110, 112], [103, 105, 118, 101, 115], [49], [58], [98, 101, 108, 108, 116], [48], [99, 111, 115, 116], [52], [59]] := by
  have h : tokensOf wholeG = [nT [103, 114, 97, 109, 109, 97, 114], nT [103], sT [59], nT [99, 97, 116, 101, 103, 111, 114, 121], nT [110, 112], sT [59], nT [99, 97, 116, 101, 103, 111, 114, 121], nT [115], sT [59], nT [115, 116, 97, 114, 116], nT [115], sT [59], nT [119, 111, 114, 100], nT [100, 111, 103], nT [105, 115], nT [110, 112], nT [103, 105, 118, 101, 115], nT [100, 101, 114], sT [44], nT [104, 117, 110, 100], nT [99, 111, 115, 116], dT 3, sT [59], nT [114, 117, 108, 101], nT [115], sT [61], nT [110, 112], sT [58], nT [98, 97, 114, 107, 115], nT [110, 112], nT [103, 105, 118, 101, 115], dT 1, sT [58], nT [98, 101, 108, 108, 116], dT 0, nT [99, 111, 115, 116], dT 4, sT [59]] := rfl
  have i1 : Lib.itoa 1 = [49] := (Lib.itoa_nonneg 1).trans (Lib.decDigits_one (by decide))
  have i3 : Lib.itoa 3 = [51] := (Lib.itoa_nonneg 3).trans (Lib.decDigits_one (by decide))
  have i0 : Lib.itoa 0 = [48] := (Lib.itoa_nonneg 0).trans (Lib.decDigits_one (by decide))
  have i4 : Lib.itoa 4 = [52] := (Lib.itoa_nonneg 4).trans (Lib.decDigits_one (by decide))
  rw [h]
  simp [word, nT, sT, dT, i1, i3, i0, i4]
theorem okw : okG wholeG := okG_of (g' := wholeG) (by decide +kernel) (r := []) (by kernel_rfl)
theorem oks : okG shortG := okG_of (g' := shortG) (by decide +kernel) (r := []) (by kernel_rfl)
theorem okz : ¬ okG Gram.zero := fun h => absurd h.1 (show ¬ ((tokensOf Gram.zero).all validB = true) by decide +kernel)
theorem print_w : printL wholeG = (wholeS, 0) := by
  rw [printL_ok okw, wholeT]
  rfl
theorem print_s : printL shortG = (shortP, 0) := by
  rw [printL_ok oks]
  rfl
theorem print_z : printL Gram.zero = ([], 250) := printL_no okz
theorem pr_w : Pr wholeG := Pr.of (by decide +kernel) (by decide +kernel)
theorem pr_s : Pr shortG := Pr.of (by decide +kernel) (by decide +kernel)
theorem pr_z : Pr Gram.zero := Pr.of (by decide +kernel) (by decide +kernel)
set_option maxHeartbeats 8000000 in
theorem declared_d : fnD Tryz.prog (orac Tryz.prog) [] Tryz.f21 [] wholeG.d := by
  refine fn_intro _ [.cell 0 27] _ rfl rfl rfl (by kernel_rfl) ?_
  simp (maxSteps := 1000000) (disch := omega) only [go_sem, reduceIte, Nat.reduceEqDiff, Nat.reduceAdd, Nat.reduceLeDiff, Nat.reduceLT, Nat.reduceSub, Int.reduceLT, Int.reduceLE, Int.reduceEq, Int.reduceToNat, Option.map_some, List.length_map, List.getElem?_map, Int.toNat_natCast]
  exact .refl _
theorem declared_c : CallsTo Tryz.prog 21 [] wholeG.d := fn_calls mixed declared_d rfl (by kernel_rfl) rfl
end Go.V.Gr
