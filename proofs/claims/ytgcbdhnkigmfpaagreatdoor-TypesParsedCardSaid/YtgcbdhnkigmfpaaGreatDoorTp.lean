/-
  Types: numbers that stand in a grammar do not matter; TypesTwice.
-/
import Derived.Test.YtgcbdhnkigmfpaaGreatDoorTo
namespace Go.V.Ty
open Go.Proofs Go.RowKit Go.V.Lx Go.V.Gr
set_option linter.unusedSimpArgs false
set_option linter.unusedVariables false
set_option maxRecDepth 100000

theorem any_map' {α β : Type} (f : α → β) (p : β → Bool) (l : List α) : (l.map f).any p = l.any fun x => p (f x) := by induction l <;> simp_all
theorem all_map' {α β : Type} (f : α → β) (p : β → Bool) (l : List α) : (l.map f).all p = l.all fun x => p (f x) := by induction l <;> simp_all
theorem edge_bare (n : Int) (x : Rule) : edge (bareR n x) = edge x := by
  obtain ⟨a, b, c, d, e⟩ := x
  match c with
  | [] => rfl
  | [q] => rfl
  | q :: r :: c => rfl
theorem rule_bare (p : Str → Bool) (n : Int) (x : Rule) : ruleB p (bareR n x) = ruleB p x := by
  have h1 : (bareR n x).parts.all (partB p) = x.parts.all (partB p) := by simp only [bareR, all_map']; rfl
  have h2 : countsOk (bareR n x) = countsOk x := by
    simp only [countsOk, bareR, List.length_map]
    congr 1
    funext i
    simp only [cOk, List.getElem?_map]
    cases x.parts[i]? <;> rfl
  simp only [ruleB, h1, h2]
  simp only [bareR, List.length_map]
theorem typed_bare (p : Str → Bool) (g : Gram) (n : Int) : typedB p (bareG g n) = typedB p g := by
  have h1 : (bareG g n).rules.all (ruleB p) = g.rules.all (ruleB p) := by
    simp only [bareG, all_map']
    congr 1; funext x; exact rule_bare p n x
  have h2 : (bareG g n).entries.all (entryB p) = g.entries.all (entryB p) := by simp only [bareG, all_map']; rfl
  simp only [typedB, h1, h2]
  rfl
theorem leads_bare (n : Int) (L : List Str) (c : Str) (x : Rule) : leadsB L c (bareR n x) = leadsB L c x := by simp only [leadsB, edge_bare]
theorem peel_bare (n : Int) (rs : List Rule) : peel (rs.map (bareR n)) = peel rs := by
  funext L
  simp only [peel, any_map', leads_bare]
theorem peelN_bare (n : Int) (rs : List Rule) : ∀ (k : Nat) (L : List Str), peelN (rs.map (bareR n)) k L = peelN rs k L
  | 0, L => rfl
  | k + 1, L => by rw [peelN, peelN, peel_bare, peelN_bare n rs k]
theorem circ_bare (g : Gram) (n : Int) : circB (bareG g n) = circB g := by simp only [circB, bareG, peelN_bare]
theorem set_bare (g : Gram) (n : Int) : setG (bareG g n) = setG g := by
  have h1 : (g.entries.map (bareE n)).map (setE g.cats) = g.entries.map (setE g.cats) := by rw [List.map_map]; rfl
  have h2 : (g.rules.map (bareR n)).map (setR g.cats) = g.rules.map (setR g.cats) := by
    rw [List.map_map]
    refine List.map_congr_left fun x _ => ?_
    simp only [Function.comp, setR, bareR, List.map_map]
    congr 1
  simp only [setG, bareG, h1, h2]
theorem resolve_bare (g : Gram) (n : Int) : resolveL (bareG g n) = resolveL g := by
  unfold resolveL
  rw [show (bareG g n).cats = g.cats from rfl, typed_bare, circ_bare, set_bare]
  simp only [bareG, List.length_map]
theorem bare_bare (g : Gram) (n m : Int) : bareG (bareG g n) m = bareG g m := by
  simp only [bareG, List.map_map]
  congr 1
  refine List.map_congr_left fun x _ => ?_
  simp only [Function.comp, bareR, List.map_map]
  congr 1
theorem bare_set (g : Gram) (n : Int) : bareG (setG g) n = bareG g n := by
  simp only [bareG, setG, List.map_map]
  congr 1
  refine List.map_congr_left fun x _ => ?_
  simp only [Function.comp, bareR, setR, List.map_map]
  congr 1
theorem resolve_set (g : Gram) : resolveL (setG g) = resolveL g := by rw [← resolve_bare (setG g) 0, bare_set, resolve_bare]
theorem set_set (g : Gram) : setG (setG g) = setG g := by rw [← set_bare (setG g) 0, bare_set, set_bare]
theorem all2_map {α : Type} (f : α → α) (p : α → α → Bool) (l : List α) : all2 p (l.map f) l = l.all fun x => p (f x) x := by
  have : ∀ l : List α, ((l.map f).zip l).all (fun q => p q.1 q.2) = l.all fun x => p (f x) x := by
    intro l; induction l with
    | nil => rfl
    | cons x l ih => simp only [List.map_cons, List.zip_cons_cons, List.all_cons, ih]
  rw [all2, this]; simp
theorem check_iff {g : Gram} (h : (resolveL g).2 = 0) : (checkL g = 0 ↔ setG g = g) ∧ (checkL g = 0 ∨ checkL g = 260) := by
  have hr := resolve_ok h
  have hck : checkL g = if decide ((setG g).no = g.no) && (all2 (fun x y => decide (x.no = y.no)) (setG g).entries g.entries && all2 (fun x y => decide (x.no = y.no) && decide (x.parts = y.parts)) (setG g).rules g.rules) then 0 else 260 := by
    rw [checkL, if_neg (by simp [h]), hr]
  refine ⟨?_, by rw [hck]; split <;> simp⟩
  rw [hck, show (setG g).entries = g.entries.map (setE g.cats) from rfl, show (setG g).rules = g.rules.map (setR g.cats) from rfl, all2_map, all2_map]
  constructor
  · intro hc
    split at hc
    · rename_i h1
      simp only [Bool.and_eq_true, decide_eq_true_eq, List.all_eq_true] at h1
      obtain ⟨h1, h2, h3⟩ := h1
      have e1 : g.entries.map (setE g.cats) = g.entries := by
        conv => rhs; rw [← List.map_id g.entries]
        refine List.map_congr_left fun x hx => ?_
        have := h2 x hx
        obtain ⟨a, b, c, d, e⟩ := x
        simp only [setE, id] at this ⊢
        rw [this]
      have e2 : g.rules.map (setR g.cats) = g.rules := by
        conv => rhs; rw [← List.map_id g.rules]
        refine List.map_congr_left fun x hx => ?_
        have := h3 x hx
        obtain ⟨a, b, c, d, e⟩ := x
        simp only [setR, id] at this ⊢
        rw [this.1, this.2]
      obtain ⟨a, b, c, d, e, f⟩ := g
      simp only [setG] at h1 e1 e2 ⊢
      rw [h1, e1, e2]
    · cases hc
  · intro hs
    rw [if_pos]
    simp only [Bool.and_eq_true, decide_eq_true_eq, List.all_eq_true]
    refine ⟨by rw [hs], fun x hx => ?_, fun x hx => ?_⟩
    · have e1 : g.entries.map (setE g.cats) = g.entries := congrArg Gram.entries hs
      obtain ⟨i, hi⟩ := List.mem_iff_getElem?.1 hx
      have := congrArg (·[i]?) e1
      simp only [List.getElem?_map, hi, Option.map_some, Option.some.injEq] at this
      rw [this]
    · have e1 : g.rules.map (setR g.cats) = g.rules := congrArg Gram.rules hs
      obtain ⟨i, hi⟩ := List.mem_iff_getElem?.1 hx
      have := congrArg (·[i]?) e1
      simp only [List.getElem?_map, hi, Option.map_some, Option.some.injEq] at this
      rw [this]; exact ⟨rfl, rfl⟩
theorem check_set {g : Gram} (h : (resolveL g).2 = 0) : checkL (setG g) = 0 := (check_iff (by rw [resolve_set]; exact h)).1.2 (set_set g)
theorem check_no {g : Gram} (h : (resolveL g).2 ≠ 0) : checkL g = (resolveL g).2 := by rw [checkL, if_pos h]
theorem SmG.sz {g : Gram} (h : SmG g) : Sz g := ⟨h.clen, h.elen, h.rlen, fun x hx => (h.ents x hx).len, fun x hx => ⟨(h.rules x hx).plen, (h.rules x hx).glen⟩⟩
theorem sm_bare {g : Gram} (h : SmG g) (n : Int) : SmG (bareG g n) := by
  refine ⟨h.name, h.start, h.clen, by simpa [bareG] using h.elen, by simpa [bareG] using h.rlen, h.cats, fun x hx => ?_, fun x hx => ?_⟩
  · obtain ⟨y, hy, rfl⟩ := List.mem_map.1 hx
    exact ⟨(h.ents y hy).text, (h.ents y hy).cat, (h.ents y hy).len, (h.ents y hy).gives⟩
  · obtain ⟨y, hy, rfl⟩ := List.mem_map.1 hx
    refine ⟨(h.rules y hy).cat, by simpa [bareR] using (h.rules y hy).plen, (h.rules y hy).glen, fun q hq => ?_, (h.rules y hy).gives⟩
    obtain ⟨r, hr, rfl⟩ := List.mem_map.1 hq
    exact ⟨((h.rules y hy).parts r hr).text, ((h.rules y hy).parts r hr).cat⟩
theorem sm_setG {g : Gram} (h : SmG g) : SmG (setG g) := by
  refine ⟨h.name, h.start, h.clen, by simpa [setG] using h.elen, by simpa [setG] using h.rlen, h.cats, fun x hx => ?_, fun x hx => ?_⟩
  · obtain ⟨y, hy, rfl⟩ := List.mem_map.1 hx
    exact ⟨(h.ents y hy).text, (h.ents y hy).cat, (h.ents y hy).len, (h.ents y hy).gives⟩
  · obtain ⟨y, hy, rfl⟩ := List.mem_map.1 hx
    refine ⟨(h.rules y hy).cat, by simpa [setR] using (h.rules y hy).plen, (h.rules y hy).glen, fun q hq => ?_, (h.rules y hy).gives⟩
    obtain ⟨r, hr, rfl⟩ := List.mem_map.1 hq
    exact ⟨((h.rules y hy).parts r hr).text, ((h.rules y hy).parts r hr).cat⟩
theorem resolve_sz {g : Gram} (h : SmG g) : SmG (resolveL g).1 := by
  by_cases h0 : (resolveL g).2 = 0
  · rw [resolve_ok h0]; exact sm_setG h
  · have : (resolveL g).1 = .zero := by
      unfold resolveL at h0 ⊢
      split
      · rfl
      · rename_i h1
        rw [if_neg h1] at h0
        split
        · rfl
        · rename_i h2
          rw [if_neg h2] at h0
          split
          · rfl
          · rename_i h3; rw [if_neg h3] at h0; simp at h0
    rw [this]; exact sm_zero
theorem few_le {g : Gram} (h : fewG g = true) : g.cats.length ≤ 40 ∧ g.entries.length ≤ 600 ∧ g.rules.length ≤ 200 ∧ (∀ x ∈ g.entries, x.gives.length ≤ 10) ∧ ∀ x ∈ g.rules, x.parts.length ≤ 10 ∧ x.gives.length ≤ 20 := by
  unfold fewG at h
  rw [Bool.and_eq_true] at h
  have hb : ¬ Big g := by simpa using h.1
  have h2 := h.2
  simp only [Bool.and_eq_true, List.all_eq_true, fewE, fewR, decide_eq_true_eq] at h2
  unfold Big at hb
  exact ⟨by omega, by omega, by omega, h2.1, h2.2⟩
end Go.V.Ty
