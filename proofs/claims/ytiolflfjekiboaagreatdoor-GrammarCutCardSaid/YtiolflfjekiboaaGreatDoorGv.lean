/-
  Grammar: a further word, with no program in sight.
-/
import Derived.Test.YtiolflfjekiboaaGreatDoorGm
namespace Go.V.Gr
open Go.Proofs Go.RowKit Go.V.Lx
set_option linter.unusedSimpArgs false
set_option linter.unusedVariables false
set_option maxRecDepth 100000

theorem txt_app (x y : Tk) (l m : List Tk) : txt (x :: l ++ y :: m) = txt (x :: l) ++ 32 :: txt (y :: m) := by
  induction l generalizing x with
  | nil => rw [List.cons_append, List.nil_append, txt_cons, txt_one]
  | cons z l ih =>
    rw [List.cons_append, List.cons_append, txt_cons, ← List.cons_append, ih z, txt_cons, List.append_assoc, List.cons_append]
/-- tokens' words, and something behind them -/
theorem lx_then : ∀ (l : List Tk) (i : Nat) (r : Str) (l2 : List Tk), l.all validB = true → Stops r → LX r (i + (txt l).length) l2 → ∃ l1, LX (txt l ++ r) i (l1 ++ l2) ∧ sameL l l1 = true
  | [], i, r, l2, _, _, h => ⟨[], by simpa [txt_nil] using h, rfl⟩
  | [x], i, r, l2, hv, hr, h => by
    simp only [List.all_cons, List.all_nil, Bool.and_true] at hv
    have hs := st_word hv hr
    refine ⟨[atT i x], ?_, by simp [sameL, same1_at]⟩
    rw [txt_one] at h ⊢
    refine LX.step (i := i) hs (l' := l2) ?_
    rw [List.drop_left]
    exact h
  | x :: y :: l, i, r, l2, hv, hr, h => by
    rw [List.all_cons, Bool.and_eq_true] at hv
    have hlen : i + (word x).length + 1 + (txt (y :: l)).length = i + (txt (x :: y :: l)).length := by
      rw [txt_cons, List.length_append, List.length_cons]; omega
    obtain ⟨l1, h1, h2⟩ := lx_then (y :: l) (i + (word x).length + 1) r l2 hv.2 hr (by rw [hlen]; exact h)
    have hs := st_word hv.1 (stops_blank (txt (y :: l) ++ r))
    refine ⟨atT i x :: l1, ?_, by rw [sameL, same1_at, h2]; rfl⟩
    rw [txt_cons, List.append_assoc, List.cons_append]
    refine LX.step (i := i) (l' := l1 ++ l2) hs ?_
    rw [List.drop_left]
    exact h1.space cls_blank
theorem stops_lf (t : Str) : Stops (10 :: t) := fun c t' h => by
  injection h with h1 h2
  subst h1
  exact cls_lf
def headG (g : Gram) : Gram := { g with rules := [] }
def tailG (g : Gram) (x : Entry) : Gram := { g with entries := [x], rules := [] }
def bareG (g : Gram) : Gram := ⟨g.name, g.cats, g.start, 0, [], []⟩
def wantG (g : Gram) (x : Entry) : Gram := { g with entries := g.entries ++ [x] }
def moreT (g : Gram) (x : Entry) : Str := txt (tokensOf (headG g)) ++ [10] ++ (txt (tokensOf (tailG g x))).drop (txt (tokensOf (bareG g))).length ++ [10] ++ (txt (tokensOf g)).drop (txt (tokensOf (headG g))).length
theorem ok_want {g : Gram} {x : Entry} (h : okG g) (ht : okG (tailG g x)) : okG (wantG g x) := by
  obtain ⟨v1, w1⟩ := h
  obtain ⟨v2, w2⟩ := ht
  refine ⟨?_, w1.1, w1.2.1, w1.2.2.1, w1.2.2.2.1, fun y hy => ?_, w1.2.2.2.2.2⟩
  · unfold Vd at v1 v2 ⊢
    simp only [tokensOf, tailG, wantG, List.all_append, Bool.and_eq_true, List.flatMap_append, List.flatMap_cons, List.flatMap_nil] at v1 v2 ⊢
    exact ⟨v1.1, ⟨v1.2.1, v2.2.1⟩, v1.2.2⟩
  · rcases List.mem_append.1 hy with hy | hy
    · exact w1.2.2.2.2.1 y hy
    · exact w2.2.2.2.2.1 y hy
theorem more_law {g : Gram} {x : Entry} (h : okG g) (ht : okG (tailG g x)) (hlen : (txt (tokensOf g)).length + (txt (tokensOf (tailG g x))).length ≤ 65536) :
    Lib.hasPrefix (txt (tokensOf g)) (txt (tokensOf (headG g))) = true ∧ Lib.hasPrefix (txt (tokensOf (tailG g x))) (txt (tokensOf (bareG g))) = true ∧ (moreT g x).length ≤ 65536 ∧ parseL (moreT g x) = (wantG g x, 0, 0) ∧ (txt (tokensOf (headG g))).length ≤ (txt (tokensOf g)).length ∧ (txt (tokensOf (bareG g))).length ≤ (txt (tokensOf (tailG g x))).length := by
  have hno := h.2.2.2.2.1
  obtain ⟨h0, hl, hH, h1, hl1, hne⟩ : ∃ h0 hl, tokHead g.name g.cats g.start = h0 :: hl ∧ ∃ h1 hl1, hl = h1 :: hl1 := ⟨_, _, rfl, _, _, rfl⟩
  obtain ⟨x0, xl, hX⟩ : ∃ x0 xl, tokEntry x = x0 :: xl := ⟨_, _, rfl⟩
  have tB : tokensOf (bareG g) = h0 :: hl := by simp [tokensOf, bareG, hH]
  have tT : tokensOf (tailG g x) = h0 :: hl ++ x0 :: xl := by simp [tokensOf, tailG, hH, hX]
  have tHd : tokensOf (headG g) = h0 :: (hl ++ g.entries.flatMap tokEntry) := by simp [tokensOf, headG, hH]
  have tG : tokensOf g = h0 :: (hl ++ g.entries.flatMap tokEntry) ++ g.rules.flatMap tokRule := by simp [tokensOf, hH]
  have cT : txt (tokensOf (tailG g x)) = txt (tokensOf (bareG g)) ++ 32 :: txt (x0 :: xl) := by rw [tT, tB, txt_app]
  obtain ⟨rest, hrest, hG⟩ : ∃ rest : Str, (rest = [] ∧ g.rules.flatMap tokRule = [] ∨ ∃ r0 rl, g.rules.flatMap tokRule = r0 :: rl ∧ rest = 32 :: txt (r0 :: rl)) ∧ txt (tokensOf g) = txt (tokensOf (headG g)) ++ rest := by
    cases hr : g.rules.flatMap tokRule with
    | nil => exact ⟨[], .inl ⟨rfl, rfl⟩, by rw [tG, tHd, hr, List.append_nil, List.append_nil]⟩
    | cons r0 rl => exact ⟨_, .inr ⟨r0, rl, rfl, rfl⟩, by rw [tG, tHd, hr, txt_app]⟩
  have hm : moreT g x = txt (tokensOf (headG g)) ++ 10 :: 32 :: (txt (x0 :: xl) ++ 10 :: rest) := by
    unfold moreT
    rw [cT, hG, List.drop_left, List.drop_left]
    simp
  have l1 := congrArg List.length hm
  have l2 := congrArg List.length hG
  have l3 := congrArg List.length cT
  simp only [List.length_append, List.length_cons] at l1 l2 l3
  have hpos : 2 ≤ (txt (tokensOf (bareG g))).length := by
    rw [tB]
    have hv := ht.1
    unfold Vd at hv
    rw [tT, List.cons_append, List.all_cons, Bool.and_eq_true] at hv
    have hw := word_pos hv.1
    rw [hne, txt_cons, List.length_append, List.length_cons]; omega
  have hml : (moreT g x).length ≤ 65536 := by omega
  refine ⟨prefix_of hG, prefix_of cT, hml, ?_, by omega, by omega⟩
  have hv := h.1
  unfold Vd at hv
  have hvH : (tokensOf (headG g)).all validB = true := by
    rw [tG, List.all_append, Bool.and_eq_true] at hv
    rw [tHd]; exact hv.1
  have hvR : (g.rules.flatMap tokRule).all validB = true := by
    rw [tG, List.all_append, Bool.and_eq_true] at hv
    exact hv.2
  have hvX : (x0 :: xl).all validB = true := by
    have := ht.1
    unfold Vd at this
    rw [tT, List.all_append, Bool.and_eq_true] at this
    exact this.2
  obtain ⟨lr, r1, r2, r3⟩ : ∃ lr, LX rest (0 + (txt (tokensOf (headG g))).length + 2 + (txt (x0 :: xl)).length + 1) lr ∧ sameL (g.rules.flatMap tokRule) lr = true ∧ True := by
    rcases hrest with ⟨e1, e2⟩ | ⟨r0, rl, e1, e2⟩
    · rw [e1, e2]; exact ⟨[], .nil _, rfl, trivial⟩
    · rw [e2, e1]
      rw [e1] at hvR
      obtain ⟨k1, k2⟩ := lx_wpl (r0 :: rl) (0 + (txt (tokensOf (headG g))).length + 2 + (txt (x0 :: xl)).length + 1 + 1) hvR
      exact ⟨_, k1.space cls_blank, k2, trivial⟩
  obtain ⟨lx, x1, x2⟩ := lx_then (x0 :: xl) (0 + (txt (tokensOf (headG g))).length + 2) (10 :: rest) lr hvX (stops_lf _) (r1.space cls_lf)
  obtain ⟨lh, y1, y2⟩ := lx_then (tokensOf (headG g)) 0 (10 :: 32 :: (txt (x0 :: xl) ++ 10 :: rest)) (lx ++ lr) hvH (stops_lf _) (LX.space cls_lf (LX.space cls_blank x1))
  rw [← hm] at y1
  refine parse_of_same hml y1 (l := tokensOf (wantG g x)) ?_ (gram_of (ok_want h ht).2)
  have tW : tokensOf (wantG g x) = tokensOf (headG g) ++ (x0 :: xl ++ g.rules.flatMap tokRule) := by simp [tokensOf, wantG, headG, hX]
  rw [tW]
  exact same_app y2 (same_app x2 r2)
end Go.V.Gr
