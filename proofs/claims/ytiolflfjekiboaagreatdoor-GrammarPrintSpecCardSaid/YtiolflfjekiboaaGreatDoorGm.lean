/-
  Grammar: tokens that are replaced, cut off, spaced out; with no program in sight.
-/
import Derived.Test.YtiolflfjekiboaaGreatDoorGk
namespace Go.V.Gr
open Go.Proofs Go.RowKit Go.V.Lx
set_option linter.unusedSimpArgs false
set_option linter.unusedVariables false
set_option maxRecDepth 100000

theorem u64_idx (n : Int) {m : Nat} (hm : 0 < m) (hm2 : m ≤ M) : ∃ j : Nat, j < m ∧ Int.tmod (IntKind.u64.wrap n) (IntKind.u64.wrap (m : Int)) = (j : Int) := by
  have h1 : IntKind.u64.wrap (m : Int) = (m : Int) := IntWalk.u64_in _ (by have : m ≤ 140737488355328 := hm2; omega)
  have h2 : 0 ≤ IntKind.u64.wrap n := by rw [IntKind.wrap_u64]; omega
  rw [h1]
  refine ⟨(Int.tmod (IntKind.u64.wrap n) (m : Int)).toNat, ?_, ?_⟩
  · have := Int.tmod_lt_of_pos (IntKind.u64.wrap n) (b := (m : Int)) (by omega)
    omega
  · have := Int.tmod_nonneg (m : Int) h2
    omega
/-- the text of tokens -/
abbrev txt (l : List Tk) : Str := Lib.join (l.map word) [32]
theorem txt_cons (x y : Tk) (l : List Tk) : txt (x :: y :: l) = word x ++ 32 :: txt (y :: l) := by
  simp only [txt, List.map_cons]
  rw [Lib.join_cons, Lib.join_cons]
  simp [Lib.joinTail]
theorem txt_one (x : Tk) : txt [x] = word x := by simp only [txt, List.map_cons, List.map_nil]; rw [Lib.join_one]
theorem txt_nil : txt [] = [] := rfl
theorem txt_le (x : Tk) (l : List Tk) : (txt (x :: l)).length ≤ (word x).length + 1 + (txt l).length := by
  cases l with
  | nil => rw [txt_one]; omega
  | cons y l => rw [txt_cons, List.length_append, List.length_cons]; omega
theorem txt_prefix : ∀ (l : List Tk) (j : Nat), ∃ t, txt l = txt (l.take j) ++ t
  | [], j => ⟨[], by simp [txt_nil]⟩
  | x :: l, 0 => ⟨txt (x :: l), by simp [txt_nil]⟩
  | [x], j + 1 => ⟨[], by simp⟩
  | x :: y :: l, 1 => ⟨32 :: txt (y :: l), by rw [txt_cons]; simp only [List.take_succ_cons, List.take_zero]; rw [txt_one]⟩
  | x :: y :: l, j + 2 => by
    obtain ⟨t, ht⟩ := txt_prefix (y :: l) (j + 1)
    refine ⟨t, ?_⟩
    rw [txt_cons, ht]
    simp only [List.take_succ_cons]
    rw [txt_cons, List.append_assoc, List.cons_append]
theorem prefix_of {s p t : Str} (h : s = p ++ t) : Lib.hasPrefix s p = true := by
  subst h
  unfold Lib.hasPrefix
  rw [List.isPrefixOf_iff_prefix]
  exact ⟨t, rfl⟩
/-- tokens, each at the place of its word -/
def wpl : Nat → List Tk → List Tk
  | _, [] => []
  | i, x :: l => atT i x :: wpl (i + (word x).length + 1) l
theorem lx_wpl : ∀ (l : List Tk) (i : Nat), l.all validB = true → LX (txt l) i (wpl i l) ∧ sameL l (wpl i l) = true
  | [], i, _ => ⟨.nil i, rfl⟩
  | [x], i, h => by
    simp only [List.all_cons, List.all_nil, Bool.and_true] at h
    have hs := st_word h stops_nil
    rw [List.append_nil] at hs
    refine ⟨?_, by simp [wpl, sameL, same1_at]⟩
    rw [txt_one]
    exact LX.step (i := i) hs (l' := []) (by rw [List.drop_length]; exact .nil _)
  | x :: y :: l, i, h => by
    rw [List.all_cons, Bool.and_eq_true] at h
    obtain ⟨h1, h2⟩ := lx_wpl (y :: l) (i + (word x).length + 1) h.2
    have hs := st_word h.1 (stops_blank (txt (y :: l)))
    refine ⟨?_, by rw [wpl, sameL, same1_at, h2]; rfl⟩
    rw [txt_cons]
    refine LX.step (i := i) (l' := wpl (i + (word x).length + 1) (y :: l)) hs ?_
    rw [List.drop_left]
    exact h1.space cls_blank
theorem wpl_at : ∀ (l : List Tk) (i k j : Nat) (y : Tk), (wpl i l)[k]? = some y → j ≤ k → (i + (txt (l.take j)).length : Nat) ≤ y.a ∧ y.a ≤ (i + (txt l).length : Nat)
  | [], i, k, j, y, h, _ => by simp [wpl] at h
  | x :: l, i, 0, j, y, h, hj => by
    simp only [wpl, List.getElem?_cons_zero, Option.some.injEq] at h
    subst h
    have : j = 0 := by omega
    subst this
    simp only [atT, List.take_zero, txt_nil, List.length_nil]
    omega
  | x :: l, i, k + 1, j, y, h, hj => by
    rw [wpl, List.getElem?_cons_succ] at h
    have hl : l ≠ [] := by rintro rfl; simp [wpl] at h
    have hlen : (txt (x :: l)).length = (word x).length + 1 + (txt l).length := by
      cases l with
      | nil => exact absurd rfl hl
      | cons z l => rw [txt_cons, List.length_append, List.length_cons]; omega
    cases j with
    | zero =>
      have := wpl_at l _ k 0 y h (by omega)
      simp only [List.take_zero, txt_nil, List.length_nil] at this ⊢
      omega
    | succ j =>
      have := wpl_at l _ k j y h (by omega)
      have h2 := txt_le x (l.take j)
      rw [List.take_succ_cons]
      omega
theorem agree_trans {i : Nat} {l m m' : List Tk} (h : Agree i l m) (k : sameL m m' = true) : Agree i l m' := by
  obtain ⟨h1, h2, h3⟩ := h
  obtain ⟨k1, k2, k3⟩ := agree_same k
  refine ⟨h1, by omega, fun j hj => ?_⟩
  obtain ⟨x, y, e1, e2, e3, e4, e5⟩ := h3 j hj
  obtain ⟨y', z, f1, f2, f3, f4, f5⟩ := k3 j (by omega)
  rw [e2] at f1
  injection f1 with f1
  subst f1
  exact ⟨x, z, e1, f2, e3.trans f3, e4.trans f4, e5.trans f5⟩
/-- Tokens that agree with accepted ones up to the i-th are accepted, or wrong at the i-th or later. -/
theorem later_law {l m : List Tk} {g : Gram} {i : Nat} (hg : gramP l = .ok (g, [])) (hm : m.all validB = true) (ha : Agree i l m) (hs : (txt m).length ≤ 65536) :
    (∃ g', parseL (txt m) = (g', 0, 0)) ∨ ∃ at_ : Int, parseL (txt m) = (Gram.zero, at_, 250) ∧ ((txt (m.take i)).length : Int) ≤ at_ ∧ at_ ≤ (txt m).length := by
  obtain ⟨h1, h2⟩ := lx_wpl m 0 hm
  have hp : parseL (txt m) = readL (wpl 0 m) (txt m).length := by unfold parseL; rw [h1.lex hs]; rfl
  rw [hp]
  unfold readL
  rcases gram_later (agree_trans ha h2) hg with ⟨g', h⟩ | ⟨k, hk, h⟩
  · rw [h]; exact .inl ⟨g', rfl⟩
  · rw [h]
    refine .inr ⟨_, rfl, ?_⟩
    obtain ⟨t, ht⟩ := txt_prefix m i
    have hle : (txt (m.take i)).length ≤ (txt m).length := by
      have := congrArg List.length ht
      rw [List.length_append] at this
      omega
    cases hd : (wpl 0 m).drop k with
    | nil => simp only [placeT]; omega
    | cons y r =>
      have hy : (wpl 0 m)[k]? = some y := by
        have := congrArg (fun l => l[0]?) hd
        simp only [List.getElem?_drop, Nat.add_zero, List.getElem?_cons_zero] at this
        exact this
      have := wpl_at m 0 k i y hy hk
      simp only [placeT]
      omega
theorem agree_take (l : List Tk) {j : Nat} (hj : j ≤ l.length) : Agree j l (l.take j) := by
  refine ⟨hj, by rw [List.length_take]; omega, fun k hk => ?_⟩
  obtain ⟨x, hx⟩ := get_lt (show k < l.length by omega)
  exact ⟨x, x, hx, by rw [List.getElem?_take, if_pos hk]; exact hx, rfl, rfl, rfl⟩
theorem agree_set (l : List Tk) {j : Nat} (y : Tk) (hj : j < l.length) : Agree j l (l.set j y) := by
  refine ⟨by omega, by rw [List.length_set]; omega, fun k hk => ?_⟩
  obtain ⟨x, hx⟩ := get_lt (show k < l.length by omega)
  exact ⟨x, x, hx, by rw [List.getElem?_set_ne (by omega)]; exact hx, rfl, rfl, rfl⟩
theorem valid_take {l : List Tk} (h : l.all validB = true) (j : Nat) : (l.take j).all validB = true := by
  rw [List.all_eq_true] at h ⊢
  exact fun x hx => h x (List.mem_of_mem_take hx)
theorem valid_set {l : List Tk} (h : l.all validB = true) {j : Nat} {y : Tk} (hy : validB y = true) : (l.set j y).all validB = true := by
  rw [List.all_eq_true] at h ⊢
  intro x hx
  rcases List.mem_or_eq_of_mem_set hx with hx | rfl
  · exact h x hx
  · exact hy
end Go.V.Gr
