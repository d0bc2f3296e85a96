/-
  Grammar: Print.
-/
import Derived.Test.YtgcbdhnkigmfpaaGreatDoorGf
import Derived.Test.YtgcbdhnkigmfpaaGreatDoorGe
import Derived.Test.YtgcbdhnkigmfpaaGreatDoorGz
import Derived.Test.YtgcbdhnkigmfpaaGreatDoorGr
import Derived.Test.YtgcbdhnkigmfpaaGreatDoorPl
namespace Go.V.Gr
open Go.Proofs Go.RowKit Go.V.Lx
set_option linter.unusedSimpArgs false
set_option linter.unusedVariables false
set_option maxRecDepth 100000

theorem valid_sum : ∀ {l : List Tk}, l.all validB = true → textSum l ≤ 32 * l.length := by
  intro l
  induction l with
  | nil => intro _; simp [textSum]
  | cons x l ih =>
    intro h
    rw [List.all_cons, Bool.and_eq_true] at h
    have h1 : x.t.length ≤ 32 := by
      have h := h.1
      unfold validB at h
      split at h
      · rw [Bool.and_eq_true] at h
        have h := h.1
        cases ht : x.t with
        | nil => simp
        | cons c r => rw [ht] at h; simp only [nameB, Bool.and_eq_true, decide_eq_true_eq] at h; exact h.1.1
      split at h
      · simp only [Bool.and_eq_true, decide_eq_true_eq] at h; rw [h.1.1]; simp
      split at h
      · rw [Bool.and_eq_true] at h
        have h := h.1
        match ht : x.t, h with
        | [c], _ => simp
      · cases h
    have := ih h.2
    rw [sum_cons, List.length_cons]
    omega
theorem text_v (l : List Tk) (hl : l.length ≤ 1000000) (ht : ∀ x ∈ l, x.t.length ≤ 140737488355328) : CallsTo Tryz.prog 15 [toks l] (textD (textL l)) := text_c l hl ht fun k h => by
  have h1 := join_len (l.take k) h
  have h2 := valid_sum h
  have h3 : (l.take k).length ≤ l.length := by rw [List.length_take]; omega
  omega

/-- Print on data -/
def printL (g : Gram) : Str × Int := match textL (tokensOf g) with
  | (s, e) => if e ≠ 0 then ([], 250) else match readL (tokensOf g) 0 with
    | (x, _, e) => if e ≠ 0 then ([], 250) else if x = g then (s, 0) else ([], 250)
/-- what is printed can be held by a machine -/
structure Pr (g : Gram) : Prop where
  n : (tokensOf g).length ≤ 900000
  t : ∀ x ∈ tokensOf g, x.t.length ≤ 140737488355328
  sz : Sz g
  cats : g.cats.length ≤ 1000000
  ents : g.entries.length ≤ 1000000
  ruls : g.rules.length ≤ 1000000
  ent : ∀ x ∈ g.entries, x.gives.length ≤ 1000000
  rul : ∀ x ∈ g.rules, x.parts.length ≤ 1000000 ∧ x.gives.length ≤ 1000000
theorem tokensOf_ne (g : Gram) : ∃ x l, tokensOf g = x :: l := ⟨_, _, rfl⟩
theorem len_of {α : Type} (f : α → List Tk) (hf : ∀ a, f a ≠ []) (l : List α) : l.length ≤ (l.flatMap f).length := by
  have := flat_ge hf [] l
  rwa [List.append_nil] at this
theorem gives_len (l : List Str) : l.length ≤ (tokGives l).length := by
  cases l with
  | nil => simp
  | cons a l => rw [tokGives, List.length_cons, List.length_cons]; have := len_of tokComma (fun a => by simp [tokComma]) l; omega
theorem mem_flat {α : Type} (f : α → List Tk) {l : List α} {x : α} (h : x ∈ l) : (f x).length ≤ (l.flatMap f).length := by
  obtain ⟨k, hk⟩ := List.getElem?_of_mem h
  have := flat_at f hk
  omega
/-- every list of a grammar is at most as long as its tokens -/
theorem lens_of (g : Gram) {N : Nat} (h : (tokensOf g).length ≤ N) : g.cats.length ≤ N ∧ g.entries.length ≤ N ∧ g.rules.length ≤ N ∧ (∀ x ∈ g.entries, x.gives.length ≤ N) ∧ ∀ x ∈ g.rules, x.parts.length ≤ N ∧ x.gives.length ≤ N := by
  simp only [tokensOf, tokHead, List.length_append, List.length_cons, List.length_nil] at h
  have h1 := len_of tokCat (fun a => by simp [tokCat]) g.cats
  have h2 := len_of tokEntry tokEntry_ne g.entries
  have h3 := len_of tokRule tokRule_ne g.rules
  refine ⟨by omega, by omega, by omega, fun x hx => ?_, fun x hx => ?_⟩
  · have h4 := mem_flat tokEntry hx
    have h5 := gives_len x.gives
    simp only [tokEntry, List.length_append] at h4
    omega
  · have h4 := mem_flat tokRule hx
    have h5 := len_of tokPart tokPart_ne x.parts
    have h6 := len_of tokGive tokGive_ne x.gives
    simp only [tokRule, List.length_append, List.length_cons] at h4
    omega
theorem sz_of (g : Gram) (h : (tokensOf g).length ≤ 140737488355328) : Sz g := ⟨(lens_of g h).1, (lens_of g h).2.1, (lens_of g h).2.2.1, (lens_of g h).2.2.2.1, (lens_of g h).2.2.2.2⟩
theorem Pr.of {g : Gram} (h : (tokensOf g).length ≤ 900000) (ht : ∀ x ∈ tokensOf g, x.t.length ≤ 140737488355328) : Pr g :=
  have k := lens_of g (N := 1000000) (by omega)
  ⟨h, ht, sz_of g (by omega), k.1, k.2.1, k.2.2.1, k.2.2.2.1, k.2.2.2.2⟩
theorem print_d (g : Gram) (h : Pr g) : fnD Tryz.prog (orac Tryz.prog) [] Tryz.f6 [g.d] (.tup [.str (printL g).1, .int .i64 (printL g).2]) := by
  refine fn_intro _ [.tmp 2, .tmp 3] _ rfl rfl rfl (by kernel_rfl) ?_
  have hgd : g.d = .agg [.str g.name, strs g.cats, .str g.start, .int .i64 g.no, .sl 5 (g.entries.map Entry.d), .sl 5 (g.rules.map Rule.d)] := rfl
  rw [hgd]
  simp (maxSteps := 1000000) (disch := omega) only [go_sem, strs]
  have hw1 : WSt (upd (upd (fun _ => Bx.none) 1 ⟨Bx.none.ep + 1, 1, 6, 26, [.agg [.str g.name, .sl 1 (g.cats.map D.str), .str g.start, .int .i64 g.no, .sl 5 (g.entries.map Entry.d), .sl 5 (g.rules.map Rule.d)]]⟩) 9 ⟨Bx.none.ep + 1, 1, 1, 52, [.agg [.nilsl]]⟩) 1 [] := ⟨.nilsl, by rw [upd_same]; rfl, OwnV.nil _ _ _ _⟩
  have hgc := grammar_c g 1 _ hw1 h.n h.cats h.ents h.ruls h.ent h.rul
  rw [hgd] at hgc
  simp only [strs] at hgc
  refine call_boxes hgc rfl ?_
  rintro d b2 ⟨rfl, ⟨l, b9, hv⟩, hK⟩
  have b1 := hK 1 (by omega) (by omega)
  rw [upd_ne (by omega), upd_same] at b1
  obtain ⟨t, e', ht, rfl, hb⟩ : ∃ t e', t ∈ slotsW ∧ l = .osl t e' 4 0 (tokensOf g).length ∧ b2 t = ⟨e', 1, 4, 77, (tokensOf g).map Tok.d⟩ := by
    rcases hv with ⟨_, h2⟩ | hv
    · exact absurd h2 (by simp [tokensOf, tokHead])
    · rw [List.length_map] at hv; exact hv
  have ht9 : t ≠ 9 := by simp [slotsW] at ht; omega
  have ht1 : t ≠ 1 := by simp [slotsW] at ht; omega
  have ho : ∀ (b : Bxs) (k : Nat), lv k → b t = ⟨e', k, 4, 77, (tokensOf g).map Tok.d⟩ → outD b (.osl t e' 4 0 (tokensOf g).length) = some (toks (tokensOf g)) := by
    intro b k e1 e2
    rw [outD_osl, e2]
    exact outB_all _ _ _ _ _ _ e1 (by simp) (pureL_toks _)
  simp (maxSteps := 1000000) (disch := omega) only [go_sem, b9, strs]
  have ho2 := ho b2 1 (by decide) hb
  refine call_frz (text_v (tokensOf g) (by have := h.n; omega) h.t) (by simp only [outL_cons, outL_nil, ho2, consO_some]) rfl ?_
  have hf : frzL b2 [.osl t e' 4 0 (tokensOf g).length] = upd b2 t ⟨e', 2, 4, 77, (tokensOf g).map Tok.d⟩ := by simp [frzL, frzD, hb]
  rw [hf]
  obtain ⟨b3, hb3⟩ : ∃ b, b = upd b2 t ⟨e', 2, 4, 77, (tokensOf g).map Tok.d⟩ := ⟨_, rfl⟩
  rw [← hb3]
  have c9 := (congrFun hb3 9).trans ((upd_ne (Ne.symm ht9)).trans b9)
  have c1 := (congrFun hb3 1).trans ((upd_ne (Ne.symm ht1)).trans b1)
  have ct := (congrFun hb3 t).trans (upd_same _ _ _)
  clear hb3 hf
  by_cases hvd : (tokensOf g).all validB = true
  · have ht : textL (tokensOf g) = (Lib.join ((tokensOf g).map word) [32], 0) := by unfold textL; rw [if_pos hvd]
    have hp : printL g = match readL (tokensOf g) 0 with
      | (x, _, e) => if e ≠ 0 then ([], 250) else if x = g then (Lib.join ((tokensOf g).map word) [32], 0) else ([], 250) := by unfold printL; rw [ht]; rfl
    rw [ht, hp]
    simp (maxSteps := 1000000) (disch := omega) only [go_sem, textD, c9]
    refine call_frz (read_c (tokensOf g) 0 (by have := h.n; omega)) (by simp only [outL_cons, outL_nil, ho b3 2 (by decide) ct, outD_int, consO_some]; rfl) rfl ?_
    have hf : frzL b3 [.osl t e' 4 0 (tokensOf g).length, .int .i64 0] = upd b3 t ⟨e', 2, 4, 77, (tokensOf g).map Tok.d⟩ := by simp [frzL, frzD, ct]
    rw [hf]
    have d1' : (upd b3 t ⟨e', 2, 4, 77, (tokensOf g).map Tok.d⟩) 1 = _ := (upd_ne (Ne.symm ht1)).trans c1
    generalize upd b3 t ⟨e', 2, 4, 77, (tokensOf g).map Tok.d⟩ = b4 at d1'
    have d1 := d1'
    clear d1' hf
    cases hgp : gramP (tokensOf g) with
    | error r =>
      have hr : readL (tokensOf g) 0 = (Gram.zero, placeT 0 r, 250) := by unfold readL; rw [hgp]
      have hz : readD (Gram.zero, placeT 0 r, 250) = .tup [.agg [.str [], .sl 1 [], .str [], .int .i64 0, .sl 5 [], .sl 5 []], .int .i64 (placeT 0 r), .int .i64 250] := rfl
      rw [hr, hz]
      simp (maxSteps := 1000000) (disch := omega) only [go_sem, d1]
      exact .refl _
    | ok q =>
      obtain ⟨x, r⟩ := q
      have hr : readL (tokensOf g) 0 = (x, 0, 0) := by unfold readL; rw [hgp]
      have hx : x.d = .agg [.str x.name, .sl 1 (x.cats.map D.str), .str x.start, .int .i64 x.no, .sl 5 (x.entries.map Entry.d), .sl 5 (x.rules.map Rule.d)] := rfl
      have hxs : Sz x := sz_of x (by rw [← same_len (gram_ok hvd hgp).1]; have := h.n; omega)
      have hsc := same_c x g hxs h.sz
      have hpu : D.pureL [x.d, g.d] = true := by simp [D.pureL, pure_gram]
      rw [hgd, hx] at hsc hpu
      simp only [strs] at hsc hpu
      have hz : readD (x, 0, 0) = .tup [x.d, .int .i64 0, .int .i64 0] := rfl
      rw [hr, hz, hx]
      simp (maxSteps := 1000000) (disch := omega) only [go_sem, d1]
      refine call_pure hsc hpu ?_
      simp (maxSteps := 1000000) (disch := omega) only [go_sem, d1]
      refine condD_dec (fun he => ?_) (fun he => ?_)
      · simp (maxSteps := 1000000) (disch := omega) only [go_sem, d1]
        simp only [he, if_true]
        exact .refl _
      · simp (maxSteps := 1000000) (disch := omega) only [go_sem, d1]
        simp only [he, if_false]
        exact .refl _
  · have ht : textL (tokensOf g) = ([], 30) := by unfold textL; rw [if_neg hvd]
    have hp : printL g = ([], 250) := by unfold printL; rw [ht]; rfl
    rw [ht, hp]
    simp (maxSteps := 1000000) (disch := omega) only [go_sem, textD]
    exact .refl _
theorem print_c (g : Gram) (h : Pr g) : CallsTo Tryz.prog 6 [g.d] (.tup [.str (printL g).1, .int .i64 (printL g).2]) := fn_calls mixed (print_d g h) rfl (by kernel_rfl) rfl

/-- a grammar that can be written -/
def okG (g : Gram) : Prop := Vd (tokensOf g) ∧ wf g
theorem textL_ok {l : List Tk} (h : Vd l) : textL l = (Lib.join (l.map word) [32], 0) := if_pos h
theorem textL_no {l : List Tk} (h : ¬ Vd l) : textL l = ([], 30) := if_neg h
theorem printL_ok {g : Gram} (h : okG g) : printL g = (Lib.join ((tokensOf g).map word) [32], 0) := by
  unfold printL
  rw [textL_ok h.1]
  have : readL (tokensOf g) 0 = (g, 0, 0) := by unfold readL; rw [gram_of h.2]
  rw [this]
  simp
theorem printL_no {g : Gram} (h : ¬ okG g) : printL g = ([], 250) := by
  unfold printL
  by_cases hv : Vd (tokensOf g)
  · rw [textL_ok hv]
    cases hg : gramP (tokensOf g) with
    | error r =>
      have : readL (tokensOf g) 0 = (Gram.zero, placeT 0 r, 250) := by unfold readL; rw [hg]
      rw [this]; simp
    | ok q =>
      obtain ⟨x, r⟩ := q
      have : readL (tokensOf g) 0 = (x, 0, 0) := by unfold readL; rw [hg]
      rw [this]
      by_cases he : x = g
      · subst he
        exact absurd ⟨hv, (gram_ok hv hg).2⟩ h
      · simp [he]
  · rw [textL_no hv]; simp
end Go.V.Gr
