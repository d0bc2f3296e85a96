/-
  Grammar: what is printed is read; with no program in sight.
-/
import Derived.Test.YtgcbdhnkigmfpaaGreatDoorGq
namespace Go.V.Gr
open Go.Proofs Go.RowKit Go.V.Lx
set_option linter.unusedSimpArgs false
set_option linter.unusedVariables false

theorem isT_n (t s : Str) (r : List Tk) : isT t (nT s :: r) = decide (s = t) := by by_cases h : s = t <;> simp [isT, nT, h]
theorem isT_s (t s : Str) (r : List Tk) : isT t (sT s :: r) = decide (s = t) := by by_cases h : s = t <;> simp [isT, sT, h]
theorem isT_d (t : Str) (n : Int) (r : List Tk) : isT t (dT n :: r) = false := by simp [isT, dT]
theorem isNm_n (s : Str) (r : List Tk) : isNm (nT s :: r) = !words8.contains s := by simp [isNm, nT]
theorem isNm_s (s : Str) (r : List Tk) : isNm (sT s :: r) = false := by simp [isNm, sT]
theorem isNo_d (n : Int) (r : List Tk) : isNo (dT n :: r) = true := by simp [isNo, dT]
theorem isNo_n (s : Str) (r : List Tk) : isNo (nT s :: r) = false := by simp [isNo, nT]
theorem isNo_s (s : Str) (r : List Tk) : isNo (sT s :: r) = false := by simp [isNo, sT]
theorem want_n (t : Str) (r : List Tk) : want t (nT t :: r) = .ok ((), r) := by unfold want; rw [isT_n, decide_eq_true rfl]; rfl
theorem want_s (t : Str) (r : List Tk) : want t (sT t :: r) = .ok ((), r) := by unfold want; rw [isT_s, decide_eq_true rfl]; rfl
theorem fr_free {s : Str} (h : fr s = true) : words8.contains s = false := by
  unfold fr at h
  rw [Bool.and_eq_true] at h
  simpa using h.2
theorem bare_of {s : Str} (h : fr s = true) (r : List Tk) : bare (nT s :: r) = .ok (s, r) := by
  show (if isNm (nT s :: r) = true then Except.ok (s, r) else Except.error (nT s :: r)) = Except.ok (s, r)
  rw [isNm_n, fr_free h]; rfl
theorem number_of (n : Int) (r : List Tk) : number (dT n :: r) = .ok (n, r) := by
  show (if isNo (dT n :: r) = true then Except.ok (n, r) else Except.error (dT n :: r)) = Except.ok (n, r)
  rw [isNo_d]; rfl
theorem name_of (t : Str) {s : Str} (h : fr s = true) (r : List Tk) : nameP t (nT t :: nT s :: r) = .ok (s, r) := (bind_of (want_n t _)).trans (bare_of h r)
theorem nameS_of (t : Str) {s : Str} (h : fr s = true) (r : List Tk) : nameP t (sT t :: nT s :: r) = .ok (s, r) := (bind_of (want_s t _)).trans (bare_of h r)
theorem cost_of (n : Int) (r : List Tk) : costP (tokEnd n ++ r) = .ok (n, r) :=
  (bind_of (want_n wCost _)).trans ((bind_of (number_of n _)).trans ((bind_of (want_s [59] r)).trans rfl))
theorem many_of {α : Type} {more : List Tk → Bool} {item : Rd α} {f : α → List Tk} {w : α → Prop} (hi : ∀ a r, w a → item (f a ++ r) = .ok (a, r)) (hm : ∀ a r, w a → more (f a ++ r) = true) {r : List Tk} (hr : more r = false) : ∀ (xs : List α) (n : Nat), xs.length ≤ n → (∀ x ∈ xs, w x) → many more item n (xs.flatMap f ++ r) = .ok (xs, r)
  | [], 0, _, _ => rfl
  | [], n + 1, _, _ => by simp only [List.flatMap_nil, List.nil_append, many, hr]; rfl
  | x :: xs, 0, h, _ => by simp at h
  | x :: xs, n + 1, h, hw => by
    have hx := hw x (by simp)
    have e : (x :: xs).flatMap f ++ r = f x ++ (xs.flatMap f ++ r) := by rw [List.flatMap_cons, List.append_assoc]
    rw [e]
    simp only [many, hm x _ hx, if_true]
    rw [bind_of (hi x _ hx), bind_of (many_of hi hm hr xs n (by simpa using h) (fun y hy => hw y (by simp [hy])))]
    rfl
theorem flat_ge {α : Type} {f : α → List Tk} (h : ∀ a, f a ≠ []) (r : List Tk) : ∀ xs : List α, xs.length ≤ (xs.flatMap f ++ r).length
  | [] => Nat.zero_le _
  | x :: xs => by
    have := flat_ge h r xs
    have h1 := List.length_pos_iff.2 (h x)
    rw [List.flatMap_cons, List.append_assoc, List.length_append, List.length_cons]
    omega
theorem some_of {α : Type} {more : List Tk → Bool} {item : Rd α} {f : α → List Tk} {w : α → Prop} (hi : ∀ a r, w a → item (f a ++ r) = .ok (a, r)) (hm : ∀ a r, w a → more (f a ++ r) = true) (hf : ∀ a, f a ≠ []) {r : List Tk} (hr : more r = false) (xs : List α) (hw : ∀ x ∈ xs, w x) : some' more item (xs.flatMap f ++ r) = .ok (xs, r) :=
  many_of hi hm hr xs _ (flat_ge hf r xs) hw
theorem fr_colon {s : Str} (h : fr s = true) : ¬ s = [58] := by
  intro e; subst e; revert h; decide +kernel
theorem part_of (p : Part) (r : List Tk) (h : wfPart p) : partP (tokPart p ++ r) = .ok (p, r) := by
  obtain ⟨cat, no, text⟩ := p
  obtain ⟨h0, h⟩ := h
  simp only at h0 h
  subst h0
  unfold partP tokPart
  rcases h with ⟨rfl, h⟩ | ⟨rfl, h⟩
  · rw [if_pos rfl, List.cons_append, List.nil_append, isT_n, decide_eq_false (fr_colon h), if_neg (by simp), bind_of (bare_of h r)]
    rfl
  · rw [if_neg (fr_ne h), List.cons_append, List.cons_append, List.nil_append, isT_s, decide_eq_true rfl, if_pos rfl, bind_of (nameS_of [58] h r)]
    rfl
theorem moreP_of (p : Part) (r : List Tk) (h : wfPart p) : moreP (tokPart p ++ r) = true := by
  obtain ⟨cat, no, text⟩ := p
  obtain ⟨h0, h⟩ := h
  simp only at h
  unfold moreP tokPart
  rcases h with ⟨rfl, h⟩ | ⟨rfl, h⟩
  · rw [if_pos rfl, List.cons_append, List.nil_append, isNm_n, fr_free h]; rfl
  · rw [if_neg (fr_ne h), List.cons_append, isT_s]; simp
theorem give_of (y : Give) (r : List Tk) (h : wfGive y) : giveP (tokGive y ++ r) = .ok (y, r) := by
  obtain ⟨part, text⟩ := y
  unfold giveP tokGive
  simp only
  by_cases ht : text = []
  · subst ht
    rw [if_pos rfl, List.cons_append, List.nil_append, isT_d, if_neg (by simp), bind_of (number_of part r)]
    rfl
  · rcases h with h | ⟨h1, h2⟩
    · exact absurd h ht
    · simp only at h1 h2
      subst h1
      rw [if_neg ht, List.cons_append, List.cons_append, List.nil_append, isT_s, decide_eq_true rfl, if_pos rfl, bind_of (nameS_of [58] h2 r)]
      rfl
theorem moreG_of (y : Give) (r : List Tk) : moreG (tokGive y ++ r) = true := by
  unfold moreG tokGive
  split
  · rw [List.cons_append, isNo_d]; rfl
  · rw [List.cons_append, isT_s]; simp
theorem tokPart_ne (p : Part) : tokPart p ≠ [] := by unfold tokPart; split <;> simp
theorem tokGive_ne (p : Give) : tokGive p ≠ [] := by unfold tokGive; split <;> simp
theorem category_of (s : Str) (r : List Tk) (h : fr s = true) : category (tokCat s ++ r) = .ok (s, r) := (bind_of (name_of wCategory h _)).trans ((bind_of (want_s [59] r)).trans rfl)
theorem entry_of (x : Entry) (r : List Tk) (h : wfEntry x) : entryP (tokEntry x ++ r) = .ok (x, r) := by
  obtain ⟨text, cat, no, gives, cost⟩ := x
  obtain ⟨h1, h2, h3, h4, h5⟩ := h
  simp only at h1 h2 h3 h4 h5
  subst h3
  cases gives with
  | nil => exact absurd rfl h4
  | cons g gs =>
    rw [List.all_cons, Bool.and_eq_true] at h5
    have e : tokEntry ⟨text, cat, 0, g :: gs, cost⟩ ++ r = nT wWord :: nT text :: nT wIs :: nT cat :: nT wGives :: nT g :: (gs.flatMap tokComma ++ (tokEnd cost ++ r)) := by simp [tokEntry, tokGives, List.append_assoc]
    rw [e]
    unfold entryP
    rw [bind_of (name_of wWord h1 _), bind_of (name_of wIs h2 _), bind_of (name_of wGives h5.1 _),
      bind_of (some_of (f := tokComma) (w := fun s => fr s = true) (fun a r h => nameS_of [44] h r) (fun a r h => by show isT [44] (sT [44] :: _) = true; rw [isT_s]; simp) (fun a => by simp [tokComma]) (r := tokEnd cost ++ r) (by show isT [44] (nT wCost :: _) = false; rw [isT_n]; decide) gs (List.all_eq_true.1 h5.2)),
      bind_of (cost_of cost r)]
    rfl
theorem rule_of (x : Rule) (r : List Tk) (h : wfRule x) : ruleP (tokRule x ++ r) = .ok (x, r) := by
  obtain ⟨cat, no, parts, gives, cost⟩ := x
  obtain ⟨h1, h2, h3, h4, h5, h6⟩ := h
  simp only at h1 h2 h3 h4 h5 h6
  subst h2
  cases parts with
  | nil => exact absurd rfl h3
  | cons p ps =>
    cases gives with
    | nil => exact absurd rfl h5
    | cons g gs =>
      have e : tokRule ⟨cat, 0, p :: ps, g :: gs, cost⟩ ++ r = nT wRule :: nT cat :: sT [61] :: (tokPart p ++ (ps.flatMap tokPart ++ (nT wGives :: (tokGive g ++ (gs.flatMap tokGive ++ (tokEnd cost ++ r)))))) := by simp [tokRule, List.append_assoc]
      rw [e]
      unfold ruleP
      rw [bind_of (name_of wRule h1 _), bind_of (want_s [61] _), bind_of (part_of p _ (h4 p (by simp))),
        bind_of (some_of (f := tokPart) part_of moreP_of tokPart_ne (r := nT wGives :: (tokGive g ++ (gs.flatMap tokGive ++ (tokEnd cost ++ r)))) (by unfold moreP; rw [isNm_n, isT_n]; decide) ps (fun q hq => h4 q (by simp [hq]))),
        bind_of (want_n wGives _), bind_of (give_of g _ (h6 g (by simp))),
        bind_of (some_of (f := tokGive) give_of (fun a r _ => moreG_of a r) tokGive_ne (r := tokEnd cost ++ r) (by show moreG (nT wCost :: _) = false; unfold moreG; rw [isNo_n, isT_n]; decide) gs (fun q hq => h6 q (by simp [hq]))),
        bind_of (cost_of cost r)]
      rfl
theorem head_of {n s : Str} {cs : List Str} (r : List Tk) (hn : fr n = true) (hs : fr s = true) (hc : cs.all fr = true) : headP (tokHead n cs s ++ r) = .ok ((n, cs, s), r) := by
  have e : tokHead n cs s ++ r = nT wGrammar :: nT n :: sT [59] :: (cs.flatMap tokCat ++ (nT wStart :: nT s :: sT [59] :: r)) := by simp [tokHead, List.append_assoc]
  rw [e]
  unfold headP
  rw [bind_of (name_of wGrammar hn _), bind_of (want_s [59] _),
    bind_of (some_of (f := tokCat) (w := fun s => fr s = true) category_of (fun a r h => by show isT wCategory (nT wCategory :: _) = true; rw [isT_n]; simp) (fun a => by simp [tokCat]) (r := nT wStart :: nT s :: sT [59] :: r) (by rw [isT_n]; decide) cs (List.all_eq_true.1 hc)),
    bind_of (name_of wStart hs _), bind_of (want_s [59] _)]
  rfl
theorem tokEntry_ne (x : Entry) : tokEntry x ≠ [] := by simp [tokEntry]
theorem tokRule_ne (x : Rule) : tokRule x ≠ [] := by simp [tokRule]
theorem rules_of (rs : List Rule) (h : ∀ x ∈ rs, wfRule x) : some' (isT wRule) ruleP (rs.flatMap tokRule) = .ok (rs, []) := by
  have := some_of (f := tokRule) rule_of (fun a r h => by show isT wRule (nT wRule :: _) = true; rw [isT_n]; simp) tokRule_ne (r := []) rfl rs h
  rwa [List.append_nil] at this
theorem entries_of (es : List Entry) (rs : List Rule) (h : ∀ x ∈ es, wfEntry x) : some' (isT wWord) entryP (es.flatMap tokEntry ++ rs.flatMap tokRule) = .ok (es, rs.flatMap tokRule) :=
  some_of (f := tokEntry) entry_of (fun a r h => by show isT wWord (nT wWord :: _) = true; rw [isT_n]; simp) tokEntry_ne (by
    cases rs with
    | nil => rfl
    | cons x rs => show isT wWord (nT wRule :: _) = false; rw [isT_n]; decide) es h
/-- what is printed is read -/
theorem gram_of {g : Gram} (h : wf g) : gramP (tokensOf g) = .ok (g, []) := by
  obtain ⟨name, cats, start, no, es, rs⟩ := g
  obtain ⟨h1, h2, h3, h4, h5, h6⟩ := h
  simp only at h1 h2 h3 h4 h5 h6
  subst h4
  unfold gramP tokensOf
  rw [bind_of (head_of _ h1 h3 h2), bind_of (entries_of es rs h5), bind_of (rules_of rs h6)]
  rfl
end Go.V.Gr
