/-
  Lex: the examples with which the statements begin.
-/
import Derived.Test.YtiolflfjekiboaaGreatDoorLm
namespace Go.V.Lx
open Go.Proofs Go.RowKit
set_option linter.unusedSimpArgs false
set_option linter.unusedVariables false
set_option maxRecDepth 100000

def stK (r : List UInt8) : Step := match r with
  | [] => none
  | c :: _ => if cls c = 1 then some ((r.takeWhile spB).length, []) else if cls c = 2 then tokStep ⟨1, r.takeWhile partB, 0, 0⟩ 0 (r.takeWhile partB).length
    else if cls c = 3 then numTok (r.takeWhile figB) else if cls c = 4 then (if isCom r = true then some ((r.takeWhile noLf).length, []) else some (1, [⟨3, [c], 0, 0⟩])) else none
theorem stK_eq (r : List UInt8) : stK r = st r := by
  cases r with
  | nil => rfl
  | cons c t =>
    show (if cls c = 1 then _ else _) = _
    split
    · rename_i h; exact (st1 h).symm
    split
    · rename_i h; exact (st2 h).symm
    split
    · rename_i h; exact (st3 h).symm
    split
    · rename_i h; exact (st4 h).symm
    · rename_i h1 h2 h3 h4; exact (st5 h1 h2 h3 h4).symm
def lexK : Nat → List UInt8 → Nat → List Tok → List Tok × Int × Int
  | 0, _, _, xs => (xs, 0, 0)
  | f + 1, r, i, xs => if r = [] then (xs, 0, 0) else match stK r with
    | none => ([], i, 30)
    | some (n, l) => lexK f (r.drop n) (i + n) (xs ++ l.map (atT i))
theorem lexK_eq (s : List UInt8) : ∀ (f i : Nat) (xs : List Tok), s.length - i ≤ f → lexK f (s.drop i) i xs = lexGo s (s.length - i) i xs
  | 0, i, xs, h => by rw [lexGo_end (by omega)]; rfl
  | f + 1, i, xs, h => by
    rw [lexK]
    by_cases hr : s.drop i = []
    · rw [if_pos hr, lexGo_end]
      have := congrArg List.length hr
      rw [List.length_drop, List.length_nil] at this
      omega
    · rw [if_neg hr, stK_eq]
      have hi : i < s.length := by
        apply Classical.byContradiction
        intro hn
        exact hr (List.drop_eq_nil_of_le (by omega))
      cases hs : st (s.drop i) with
      | none => simp only []; rw [lexGo_bad hi hs]
      | some p =>
        obtain ⟨n, l⟩ := p
        simp only []
        have h1 := st_on hs
        rw [List.drop_drop, lexK_eq s f (i + n) _ (by omega), lexGo_at hs]
theorem lexL_eq (s : List UInt8) (hs : s.length ≤ 65536) : lexL s = lexK s.length s 0 [] := by
  unfold lexL
  rw [if_neg (by omega)]
  exact (lexK_eq s s.length 0 [] (by omega)).symm
theorem lex_at {s : List UInt8} {r : List Tok × Int × Int} (hs : s.length ≤ 65536) (h : lexK s.length s 0 [] = r) : CallsTo Tryz.prog 17 [.str s] (lexD r) := by
  rw [← h, ← lexL_eq s hs]
  exact lex_c s (by omega)
theorem text3 : textL [⟨1, [97], 0, 0⟩, ⟨3, [61], 0, 1⟩, ⟨2, [], 1, 2⟩] = ([97, 32, 61, 32, 49], 0) := by
  unfold textL
  rw [if_pos (by decide +kernel)]
  have h : word ⟨2, [], 1, 2⟩ = [49] := (Lib.itoa_nonneg 1).trans (Lib.decDigits_one (by decide))
  have h1 : word ⟨1, [97], 0, 0⟩ = [97] := rfl
  have h2 : word ⟨3, [61], 0, 1⟩ = [61] := rfl
  simp only [List.map_cons, List.map_nil, h, h1, h2, Lib.join_cons, Lib.joinTail]
  rfl
end Go.V.Lx
